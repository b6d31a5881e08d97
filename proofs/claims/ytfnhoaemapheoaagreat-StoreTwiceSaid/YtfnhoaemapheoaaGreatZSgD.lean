/-
  Sorting a row of whole numbers: the partial insertion sort, the range turned round. No condition.
-/
import Derived.Test.YtfnhoaemapheoaaGreatZSpn0
import Derived.Test.YtfnhoaemapheoaaGreatZEngSl
import Derived.Test.YtfnhoaemapheoaaGreatM
import Derived.Test.YtfnhoaemapheoaaGreatFacts
set_option maxRecDepth 100000
namespace Go.Proofs.YtfnhoaemapheoaaGreat.SG
open Go.Eng Go.Sort
variable [SE]
def RvI (w : World) (g : Nat) (e : TypeId) (cap n : Nat) (R : Array Int) : KL := fun x w1 => ∃ (i j : Nat) (d : Array Int), x = [.int .i64 (i : Int), .int .i64 (j : Int)] ∧ Rf w w1 g e cap d ∧ d.size = n ∧ i ≤ n ∧ j < n ∧ reverseLoop i j d = R
theorem aye {w : World} {g cap n : Nat} {e : TypeId} {d : Array Int} (H : Rw w g e cap d) (hn : d.size = n) (h6 : n < 100000) {a b : Nat} (hb : b ≤ n) (hab : a < b) {K : KV}
  (h : ∀ w', Rf w w' g e cap (reverseRange d a b) → K (.tuple #[]) w') : jr P F.ft [.slice (some ⟨g, 0, none⟩) n cap, .int .i64 a, .int .i64 b] w K := by
 apply M.dp.calls
 unfold M.dp
 have hw2 : IntKind.i64.wrap ((b : Int) - 1) = ((b - 1 : Nat) : Int) := by rw [gm (by omega) (by omega)]; omega
 simp only [kt, hw2]
 unfold reverseRange at h
 generalize hR : reverseLoop a (b - 1) d = R at *
 refine ⟨RvI w g e cap n R, fun x _ => ms x 1 - ms x 0, ⟨a, b - 1, d, rfl, H.we, hn, by omega, by omega, hR⟩, ?_⟩
 clear hR
 rintro x w1 ⟨i, j, d1, rfl, H1, hn1, hi, hj, hR⟩
 simp only [gg, g20, g21]
 unfold reverseLoop at hR
 by_cases hij : i < j
 ·have hij' : (i : Int) < j := by omega
  rw [if_pos hij] at hR
  simp only [km, hij', decide_true, Eng.cond_true]
  unfold M.dp.j1
  have c1 := H1.row.at (show i < d1.size by omega)
  have c2 := H1.row.at (show j < d1.size by omega)
  have e1 : (i : Int) < n := by omega
  have e2 : (j : Int) < n := by omega
  have f1 := H1.row.frz i
  have f2 := H1.row.frz j
  have hw3 : IntKind.i64.wrap ((i : Int) + 1) = ((i + 1 : Nat) : Int) := pz (by omega)
  have hw4 : IntKind.i64.wrap ((j : Int) - 1) = ((j - 1 : Nat) : Int) := by rw [gm (by omega) (by omega)]; omega
  simp [g20, g21, e1, e2, c1, c2, f1, f2, jo, ju, hw3, hw4, -Int.natCast_add]
  refine ⟨⟨i + 1, j - 1, _, rfl, (H1.dr 1).swp (by omega) (by omega), by rw [size_swp]; exact hn1, by omega, by omega, hR⟩, ?_⟩
  simp [ms, gv]; omega
 ·have hij' : ¬ (i : Int) < j := by omega
  rw [if_neg hij] at hR
  subst hR
  simp only [km, hij', decide_false, Eng.cond_false]
  exact h w1 H1
omit [SE] in
theorem aob (d : Array Int) (b : Nat) : ∀ m i, b - i ≤ m → i ≤ b → i ≤ scanSorted ltInt d b i ∧ scanSorted ltInt d b i ≤ b := by
 intro m
 induction m with
 | zero =>
  intro i hm hi
  unfold scanSorted
  rw [if_neg (by simp; omega)]
  omega
 | succ m ih =>
  intro i hm hi
  unfold scanSorted
  split
  ·rename_i h
   simp at h
   have := ih (i + 1) (by omega) (by omega)
   omega
  ·omega
omit [SE] in
theorem adr : ∀ (j : Nat) (d : Array Int), (shiftDown ltInt j d).size = d.size
 | 0, _ => rfl
 | j + 1, d => by
  unfold shiftDown
  split
  ·rfl
  ·rw [adr j, size_swp]
omit [SE] in
theorem arv (b : Nat) : ∀ (m j : Nat) (d : Array Int), b - j ≤ m → (shiftUp ltInt b j d).size = d.size := by
 intro m
 induction m with
 | zero =>
  intro j d hm
  unfold shiftUp
  rw [if_neg (by omega)]
 | succ m ih =>
  intro j d hm
  unfold shiftUp
  split
  ·split
   ·rfl
   ·rw [ih _ _ (by omega), size_swp]
  ·rfl
section
variable {w : World} {g cap n : Nat} {e : TypeId} {d : Array Int}
def SsI (w : World) (g : Nat) (e : TypeId) (cap : Nat) (d : Array Int) (a b r : Nat) : KL := fun x w1 => ∃ i : Nat, x = [.int .i64 (i : Int)] ∧ Rf w w1 g e cap d ∧ a < i ∧ i ≤ b ∧ scanSorted ltInt d b i = r
theorem bgd (H : Rw w g e cap d) (hn : d.size = n) (h6 : n < 100000) {a b i : Nat} (hb : b ≤ n) (ha : a < i) (hi : i ≤ b) {K4 : KL} {K : KV}
  (h : ∀ w', Rf w w' g e cap d → K4 [.int .i64 (scanSorted ltInt d b i : Nat)] w') :
  gc (fun K4 => ir [.int .i64 (i : Int)] w fun K5 x5 w => M.ah.j5 x5 (.int .i64 (b : Int)) (.slice (some ⟨g, 0, none⟩) n cap) K4 K5 w K) K4 := by
 rw [gg]
 generalize hr : scanSorted ltInt d b i = r at *
 refine ⟨SsI w g e cap d a b r, fun x _ => b - ms x 0, ⟨i, rfl, H.we, ha, hi, hr⟩, ?_⟩
 clear hr
 rintro x w1 ⟨k, rfl, H1, hak, hkb, hR⟩
 unfold M.ah.j5
 unfold scanSorted at hR
 by_cases hk : k < b
 ·have a1 := H1.row.at (show k < d.size by omega)
  have a2 := H1.row.at (show k - 1 < d.size by omega)
  have b1 : (k : Int) < n := by omega
  have b2 : ((k - 1 : Nat) : Int) < n := by omega
  have b3 : (k : Int) < b := by omega
  have hw : IntKind.i64.wrap ((k : Int) - 1) = ((k - 1 : Nat) : Int) := by rw [gm (by omega) (by omega)]; omega
  simp [g0, b1, b2, b3, a1, a2, hw]
  refine rj _ _ ?_
  cases hl : ltInt d[k]! d[k - 1]! with
  | true =>
   rw [if_neg (by simp [hl])] at hR
   simp
   rw [← hR] at h
   exact h _ (H1.dr 1)
  | false =>
   rw [if_pos (by simp [hl, hk])] at hR
   simp [pz (show k < 1000000 by omega)]
   refine ⟨⟨k + 1, by simp, H1.dr 1, by omega, by omega, hR⟩, ?_⟩
   simp [ms, gv]; omega
 ·have b3 : ¬ (k : Int) < b := by omega
  rw [if_neg (by simp [hk])] at hR
  simp [g0, b3]
  rw [← hR] at h
  exact h _ (H1.dr 1)
def SdI (w : World) (g : Nat) (e : TypeId) (cap n : Nat) (R : Array Int) : KL := fun x w1 => ∃ (j : Nat) (d : Array Int), x = [.int .i64 (j : Int)] ∧ Rf w w1 g e cap d ∧ d.size = n ∧ j < n ∧ shiftDown ltInt j d = R
theorem bem (H : Rw w g e cap d) (hn : d.size = n) (h6 : n < 100000) {j : Nat} (hj : j < n) {K9 : KL} {K : KV}
  (h : ∀ w' v, Rf w w' g e cap (shiftDown ltInt j d) → K9 [v] w') :
  ir [.int .i64 (j : Int)] w fun K10 x10 w => gc (fun K11 => ga P .geq T.b (.tmp 64) (.const (.int .i64 1)) (gv x10 0) (.int .i64 1) w fun t65 w => ge t65 (K11 [] w) (K9 [(gv x10 0)] w)) fun x11 w => M.ah.j11 (.slice (some ⟨g, 0, none⟩) n cap) x10 K9 K10 w K := by
 generalize hr : shiftDown ltInt j d = R at *
 refine ⟨SdI w g e cap n R, fun x _ => ms x 0, ⟨j, d, rfl, H.we, hn, hj, hr⟩, ?_⟩
 clear hr
 rintro x w1 ⟨k, d1, rfl, H1, hn1, hk, hR⟩
 simp only [gg, g0, qo]
 cases k with
 | zero =>
  have hk0 : ¬ (1 : Int) ≤ ((0 : Nat) : Int) := by omega
  simp only [hk0, decide_false, Eng.cond_false]
  unfold shiftDown at hR
  subst hR
  exact h _ _ H1
 | succ k =>
  have hk0 : (1 : Int) ≤ ((k + 1 : Nat) : Int) := by omega
  simp only [hk0, decide_true, Eng.cond_true]
  unfold M.ah.j11
  unfold shiftDown at hR
  have a1 := H1.row.at (show k + 1 < d1.size by omega)
  have a2 := H1.row.at (show k < d1.size by omega)
  have b1 : ((k + 1 : Nat) : Int) < n := by omega
  have b2 : (k : Int) < n := by omega
  have f1 := H1.row.frz (k + 1)
  have f2 := H1.row.frz k
  have hw : IntKind.i64.wrap (((k + 1 : Nat) : Int) - 1) = (k : Int) := by rw [gm (by omega) (by omega)]; omega
  simp [g0, b1, b2, a1, a2, hw, -Int.natCast_add]
  refine rj _ _ ?_
  cases hl : ltInt d1[k + 1]! d1[k]! with
  | false =>
   rw [if_pos (by simp [hl])] at hR
   subst hR
   simp
   exact h _ _ (H1.dr 1)
  | true =>
   rw [if_neg (by simp [hl])] at hR
   simp [-Int.natCast_add]
   unfold M.ah.j13
   simp [g0, b1, b2, a1, a2, f1, f2, hw, jo, ju, -Int.natCast_add]
   refine ⟨⟨k, _, rfl, ((H1.dr 1).dr 1).swp (by omega) (by omega), by rw [size_swp]; exact hn1, by omega, hR⟩, ?_⟩
   simp [ms, gv]
def SuI (w : World) (g : Nat) (e : TypeId) (cap n b : Nat) (R : Array Int) : KL := fun x w1 => ∃ (j : Nat) (d : Array Int), x = [.int .i64 (j : Int)] ∧ Rf w w1 g e cap d ∧ d.size = n ∧ 1 ≤ j ∧ j ≤ b ∧ shiftUp ltInt b j d = R
theorem bjs (H : Rw w g e cap d) (hn : d.size = n) (h6 : n < 100000) {j b : Nat} (hb : b ≤ n) (hj : 1 ≤ j) (hjb : j ≤ b) {K3 : KL} {x4 x8 x9 : List Value} {K : KV}
  (h : ∀ w' v, Rf w w' g e cap (shiftUp ltInt b j d) → K3 [gv x4 0, gv x8 0, gv x9 0, v] w') :
  ir [.int .i64 (j : Int)] w fun K14 x14 w => M.ah.j14 x14 (.int .i64 (b : Int)) K3 x4 x8 x9 (.slice (some ⟨g, 0, none⟩) n cap) K14 w K := by
 generalize hr : shiftUp ltInt b j d = R at *
 refine ⟨SuI w g e cap n b R, fun x _ => b - ms x 0, ⟨j, d, rfl, H.we, hn, hj, hjb, hr⟩, ?_⟩
 clear hr
 rintro x w1 ⟨k, d1, rfl, H1, hn1, hk1, hk, hR⟩
 unfold M.ah.j14
 simp only [gg, g0, km]
 unfold shiftUp at hR
 by_cases hkb : k < b
 ·have hkb' : (k : Int) < b := by omega
  rw [if_pos hkb] at hR
  simp only [hkb', decide_true, Eng.cond_true]
  unfold M.ah.j15
  have a1 := H1.row.at (show k < d1.size by omega)
  have a2 := H1.row.at (show k - 1 < d1.size by omega)
  have b1 : (k : Int) < n := by omega
  have b2 : ((k - 1 : Nat) : Int) < n := by omega
  have f1 := H1.row.frz k
  have f2 := H1.row.frz (k - 1)
  have hw : IntKind.i64.wrap ((k : Int) - 1) = ((k - 1 : Nat) : Int) := by rw [gm (by omega) (by omega)]; omega
  simp [g0, b1, b2, a1, a2, hw]
  refine rj _ _ ?_
  cases hl : ltInt d1[k]! d1[k - 1]! with
  | false =>
   rw [if_pos (by simp [hl])] at hR
   subst hR
   simp
   exact h _ _ (H1.dr 1)
  | true =>
   rw [if_neg (by simp [hl])] at hR
   simp
   unfold M.ah.j17
   simp [g0, b1, b2, a1, a2, f1, f2, hw, jo, ju, pz (show k < 1000000 by omega)]
   refine ⟨⟨k + 1, _, by simp, ((H1.dr 1).dr 1).swp (by omega) (by omega), by rw [size_swp]; exact hn1, by omega, by omega, hR⟩, ?_⟩
   simp [ms, gv]; omega
 ·have hkb' : ¬ (k : Int) < b := by omega
  rw [if_neg hkb] at hR
  simp only [hkb', decide_false, Eng.cond_false]
  subst hR
  exact h _ _ H1
end
def PiI (w : World) (g : Nat) (e : TypeId) (cap n a b : Nat) (R : Array Int × Bool) : KL := fun x w1 => ∃ (u1 u2 u3 : Value) (i s : Nat) (d : Array Int), x = [.int .i64 (i : Int), u1, u2, u3, .int .i64 ((5 - s : Nat) : Int)] ∧ Rf w w1 g e cap d ∧ d.size = n ∧ s ≤ 5 ∧ a < i ∧ i ≤ b ∧ partialIns ltInt a b s i d = R
theorem aoc {w : World} {g cap n : Nat} {e : TypeId} {d : Array Int} (H : Rw w g e cap d) (hn : d.size = n) (h6 : n < 100000) {a b : Nat} (hb : b ≤ n) (hab : a < b) {K : KV}
  (h : ∀ w', Rf w w' g e cap (partialInsertionSort ltInt d a b).1 → K (.bool (partialInsertionSort ltInt d a b).2) w') : jr P F.fn [.slice (some ⟨g, 0, none⟩) n cap, .int .i64 a, .int .i64 b] w K := by
 apply M.ah.calls
 unfold M.ah
 simp only [kh, pz (show a < 1000000 by omega), gg]
 unfold partialInsertionSort at h
 generalize hR : partialIns ltInt a b 5 (a + 1) d = R at *
 refine ⟨PiI w g e cap n a b R, fun x _ => 5 - ms x 4, ⟨_, _, _, a + 1, 5, d, rfl, H.we, hn, by omega, by omega, by omega, hR⟩, ?_⟩
 clear hR
 rintro x w1 ⟨u1, u2, u3, i, s, d1, rfl, H1, hn1, hs, hai, hib, hR⟩
 have q0 : ∀ a b c d e : Value, gv [a, b, c, d, e] 0 = a := fun _ _ _ _ _ => rfl
 have q1 : ∀ a b c d e : Value, gv [a, b, c, d, e] 1 = b := fun _ _ _ _ _ => rfl
 have q2 : ∀ a b c d e : Value, gv [a, b, c, d, e] 2 = c := fun _ _ _ _ _ => rfl
 have q3 : ∀ a b c d e : Value, gv [a, b, c, d, e] 3 = d := fun _ _ _ _ _ => rfl
 have q4 : ∀ a b c d e : Value, gv [a, b, c, d, e] 4 = e := fun _ _ _ _ _ => rfl
 unfold M.ah.j1
 simp only [gg, q0, q1, q2, q3, q4, km]
 cases s with
 | zero =>
  simp
  unfold partialIns at hR
  subst hR
  exact h _ H1
 | succ s =>
  rw [show 5 - (s + 1) = 4 - s from by omega]
  have hs5 : ((4 - s : Nat) : Int) < 5 := by omega
  simp only [hs5, decide_true, Eng.cond_true]
  unfold M.ah.j2
  unfold partialIns at hR
  simp only at hR
  rw [gg]
  simp only [q0, q1, q2, q3, q4]
  refine bgd (a := a) H1.row hn1 h6 hb hai hib fun w2 H2 => ?_
  have hsc := aob d1 b _ i (Nat.le_refl _) hib
  generalize scanSorted ltInt d1 b i = i2 at *
  have H2' := H1.trans H2
  simp only [gg, g0, te]
  by_cases hib2 : i2 = b
  ·have : (i2 : Int) = b := by omega
   rw [if_pos hib2] at hR
   simp only [this, decide_true, Eng.cond_true]
   subst hR
   exact h _ H2'
  have hib2' : ¬ (i2 : Int) = b := by omega
  rw [if_neg hib2] at hR
  simp only [hib2', decide_false, Eng.cond_false]
  unfold M.ah.j7
  have hw0 : IntKind.i64.wrap ((b : Int) - a) = ((b - a : Nat) : Int) := xq (by omega) (by omega)
  simp only [gg, kt, hw0, km]
  by_cases h50 : b - a < 50
  ·have : ((b - a : Nat) : Int) < 50 := by omega
   rw [if_pos h50] at hR
   simp only [this, decide_true, Eng.cond_true]
   subst hR
   exact h _ H2'
  have h50' : ¬ ((b - a : Nat) : Int) < 50 := by omega
  rw [if_neg h50] at hR
  simp only [h50', decide_false, Eng.cond_false]
  unfold M.ah.j8
  have a1 := H2.row.at (show i2 < d1.size by omega)
  have a2 := H2.row.at (show i2 - 1 < d1.size by omega)
  have b1 : (i2 : Int) < n := by omega
  have b2 : ((i2 - 1 : Nat) : Int) < n := by omega
  have f1 := H2.row.frz i2
  have f2 := H2.row.frz (i2 - 1)
  have hw : IntKind.i64.wrap ((i2 : Int) - 1) = ((i2 - 1 : Nat) : Int) := by rw [gm (by omega) (by omega)]; omega
  have hwa : IntKind.i64.wrap ((i2 : Int) - a) = ((i2 - a : Nat) : Int) := xq (by omega) (by omega)
  simp [g0, b1, b2, a1, a2, f1, f2, hw, hwa, jo, ju, -gg]
  have H3 := (H2'.dr 1).swp (i := i2) (j := i2 - 1) (by omega) (by omega)
  generalize ((dr w2 1).setCell ⟨g, i2, none⟩ (.int SD.k d1[i2 - 1]!)).setCell ⟨g, i2 - 1, none⟩ (.int SD.k d1[i2]!) = w3 at *
  have hn3 : (Sort.swp d1 i2 (i2 - 1)).size = n := by rw [size_swp]; exact hn1
  generalize Sort.swp d1 i2 (i2 - 1) = d3 at *
  -- behind the shift iu
  have tail : ∀ (x9 : List Value) (w4 : World) (d4 : Array Int), Rf w w4 g e cap d4 → d4.size = n → partialIns ltInt a b s i2 (if b - i2 ≥ 2 then shiftUp ltInt b (i2 + 1) d4 else d4) = R → ∀ (K3 : KL) (x8 x1 : List Value),
    (∀ w' v, ∀ d5, Rf w w' g e cap d5 → d5.size = n → partialIns ltInt a b s i2 d5 = R → K3 [.int .i64 (i2 : Int), gv x8 0, gv x9 0, v] w') →
    M.ah.j9 (.int .i64 b) [.int .i64 i2] K3 x8 x9 (.slice (some ⟨g, 0, none⟩) n cap) x1 w4 K := by
   intro x9 w4 d4 H4 hn4 hR4 K3 x8 x1 hK
   unfold M.ah.j9
   have hwb : IntKind.i64.wrap ((b : Int) - i2) = ((b - i2 : Nat) : Int) := xq (by omega) (by omega)
   simp only [g0, kt, hwb, qo]
   by_cases h2 : b - i2 ≥ 2
   ·have h2' : (2 : Int) ≤ ((b - i2 : Nat) : Int) := by omega
    rw [if_pos h2] at hR4
    simp only [h2', decide_true, Eng.cond_true, kh, pz (show i2 < 1000000 by omega)]
    refine bjs H4.row hn4 h6 hb (by omega) (by omega) fun w5 v H5 => ?_
    exact hK _ v _ (H4.trans H5) (by rw [arv _ _ _ _ (Nat.le_refl _)]; exact hn4) hR4
   ·have h2' : ¬ (2 : Int) ≤ ((b - i2 : Nat) : Int) := by omega
    rw [if_neg h2] at hR4
    simp only [h2', decide_false, Eng.cond_false]
    exact hK _ _ _ H4 hn4 hR4
  have fin : ∀ w' (x : List Value) d5, gv x 0 = .int .i64 i2 → Rf w w' g e cap d5 → d5.size = n → partialIns ltInt a b s i2 d5 = R →
    PiI w g e cap n a b R [gv x 0, gv x 1, gv x 2, gv x 3, .int .i64 (IntKind.i64.wrap (((4 - s : Nat) : Int) + 1))] w' ∧ 5 - ms [gv x 0, gv x 1, gv x 2, gv x 3, .int .i64 (IntKind.i64.wrap (((4 - s : Nat) : Int) + 1))] 4 < 5 - ms [.int .i64 (i : Int), u1, u2, u3, .int .i64 ((4 - s : Nat) : Int)] 4 := by
   intro w' x d5 hx H5 hn5 hR5
   have : IntKind.i64.wrap (((4 - s : Nat) : Int) + 1) = ((5 - s : Nat) : Int) := by rw [gm (by omega) (by omega)]; omega
   rw [this, hx]
   refine ⟨⟨_, _, _, i2, s, d5, rfl, H5, hn5, by omega, by omega, by omega, hR5⟩, ?_⟩
   simp only [ms, q4]; omega
  by_cases h2 : i2 - a ≥ 2
  ·have h2' : (2 : Int) ≤ ((i2 - a : Nat) : Int) := by omega
   rw [if_pos h2] at hR
   simp only [gg, h2', decide_true, Eng.cond_true]
   refine bem H3.row hn3 h6 (by omega) fun w4 v H4 => ?_
   refine tail _ _ _ (H3.trans H4) (by rw [adr]; exact hn3) hR _ _ _ fun w' v d5 H5 hn5 hR5 => ?_
   exact fin w' [.int .i64 (i2 : Int), _, _, v] d5 rfl H5 hn5 hR5
  ·have h2' : ¬ (2 : Int) ≤ ((i2 - a : Nat) : Int) := by omega
   rw [if_neg h2] at hR
   simp only [gg, h2', decide_false, Eng.cond_false]
   refine tail _ _ _ H3 hn3 hR _ _ _ fun w' v d5 H5 hn5 hR5 => ?_
   exact fin w' [.int .i64 (i2 : Int), _, _, v] d5 rfl H5 hn5 hR5
end Go.Proofs.YtfnhoaemapheoaaGreat.SG
set_option maxRecDepth 100000
namespace Go.Proofs.YtfnhoaemapheoaaGreat
open Go.Eng
theorem bka : ∀ v : Fin 256, ((⟨#[0, 1, 2, 2, 3, 3, 3, 3, 4, 4, 4, 4, 4, 4, 4, 4, 5, 5, 5, 5, 5, 5, 5, 5, 5, 5, 5, 5, 5, 5, 5, 5, 6, 6, 6, 6, 6, 6, 6, 6, 6, 6, 6, 6, 6, 6, 6, 6, 6, 6, 6, 6, 6, 6, 6, 6, 6, 6, 6, 6, 6, 6, 6, 6, 7, 7, 7, 7, 7, 7, 7, 7, 7, 7, 7, 7, 7, 7, 7, 7, 7, 7, 7, 7, 7, 7, 7, 7, 7, 7, 7, 7, 7, 7, 7, 7, 7, 7, 7, 7, 7, 7, 7, 7, 7, 7, 7, 7, 7, 7, 7, 7, 7, 7, 7, 7, 7, 7, 7, 7, 7, 7, 7, 7, 7, 7, 7, 7, 8, 8, 8, 8, 8, 8, 8, 8, 8, 8, 8, 8, 8, 8, 8, 8, 8, 8, 8, 8, 8, 8, 8, 8, 8, 8, 8, 8, 8, 8, 8, 8, 8, 8, 8, 8, 8, 8, 8, 8, 8, 8, 8, 8, 8, 8, 8, 8, 8, 8, 8, 8, 8, 8, 8, 8, 8, 8, 8, 8, 8, 8, 8, 8, 8, 8, 8, 8, 8, 8, 8, 8, 8, 8, 8, 8, 8, 8, 8, 8, 8, 8, 8, 8, 8, 8, 8, 8, 8, 8, 8, 8, 8, 8, 8, 8, 8, 8, 8, 8, 8, 8, 8, 8, 8, 8, 8, 8, 8, 8, 8, 8, 8, 8, 8, 8, 8, 8, 8, 8, 8, 8, 8, 8, 8, 8, 8, 8]⟩ : ByteArray).get! v.val).toNat = Sort.bitsLen v.val := by decide +kernel
theorem bld : aaa P T.ad = true := .trans (by kernel_rfl) rfl
theorem bfl {w : World} {x : Nat} (hx : x < 65536) {K : KV} (h : K (.int .i64 (Sort.bitsLen x : Nat)) w) : jr P F.dz [.int .u64 x] w K := by
 apply M.an.calls
 unfold M.an
 have h1 : ¬ (4294967296 : Int) ≤ x := by omega
 simp only [gg, qo, h1, decide_false, Eng.cond_false]
 unfold M.an.j0
 have q0 : ∀ a b : Value, gv [a, b] 0 = a := fun _ _ => rfl
 have q1 : ∀ a b : Value, gv [a, b] 1 = b := fun _ _ => rfl
 have h2 : ¬ (65536 : Int) ≤ x := by omega
 simp only [gg, q0, q1, qo, h2, decide_false, Eng.cond_false]
 unfold M.an.j1
 have u64B : wz P T.g .u64 = true := by kernel_rfl
 have u8B : wz P T.ak .u8 = true := by kernel_rfl
 have i64B : wz P T.b .i64 = true := by kernel_rfl
 have fin : ∀ (y z : Nat), y < 256 → z + Sort.bitsLen y = Sort.bitsLen x → z < 1000 → M.an.j2 [.int .u64 y, .int .i64 z] w K := by
  intro y z hy hz hz1
  unfold M.an.j2
  simp only [q0, q1]
  rw [nl u64B u8B, blz hy, bhz bld (by exact hy)]
  have ht := bka ⟨y, hy⟩
  simp only at ht
  rw [ht, nl u8B i64B]
  have hb : Sort.bitsLen y ≤ 16 := (Sort.bitsLen_le_iff y 16).2 (by omega)
  rw [akr (by omega), kh]
  have : ((z : Nat) : Int) + (Sort.bitsLen y : Nat) = ((Sort.bitsLen x : Nat) : Int) := by omega
  simp only [this]
  rw [akr (by omega)]
  exact h
 simp only [gg, q0, q1, qo]
 by_cases h3 : 256 ≤ x
 ·have h3' : (256 : Int) ≤ x := by omega
  have hs : ga P .shr T.g (.tmp 15) (.const (.int .u64 8)) (.int .u64 (x : Int)) (.int .u64 8) w = fun K => K (.int .u64 ((x / 256 : Nat) : Int)) w := by
   funext K
   rw [abj (by decide)]
   have : (min (8 : Int).toNat IntKind.u64.bits) = 8 := by decide
   rw [this, ahu]
  have ha : IntKind.i64.wrap (0 + 8) = ((8 : Nat) : Int) := by decide
  simp only [h3', decide_true, Eng.cond_true, hs, kh, ha]
  exact fin (x / 256) 8 (by omega) (auh h3).symm (by decide)
 ·have h3' : ¬ (256 : Int) ≤ x := by omega
  simp only [h3', decide_false, Eng.cond_false]
  exact fin x 0 (by omega) (by omega) (by decide)
theorem alj {w : World} {x : Nat} (hx : x < 65536) {K : KV} (h : K (.int .i64 (Sort.bitsLen x : Nat)) w) : jr P F.dv [.int .u64 x] w K := by
 apply M.cv.calls
 unfold M.cv
 simp only [gg, Eng.cond_false]
 rw [M.an.fcall]
 exact bfl hx h
theorem bhf {w : World} {x : Nat} (hx : x < 65536) {K : KV} (h : K (.int .u64 ((2 ^ Sort.bitsLen x : Nat) : Int)) w) : jr P F.cf [.int .i64 x] w K := by
 apply M.cc.calls
 unfold M.cc
 have uB : wz P T.au .u64 = true := by kernel_rfl
 have i64B : wz P T.b .i64 = true := by kernel_rfl
 rw [nl i64B uB, abb (by omega), M.cv.fcall]
 refine alj hx ?_
 have hb : Sort.bitsLen x ≤ 16 := (Sort.bitsLen_le_iff x 16).2 (by omega)
 have hp : 2 ^ Sort.bitsLen x ≤ 2 ^ 16 := Nat.pow_le_pow_right (by decide) hb
 rw [adm (by omega)]
 have e1 : (((Sort.bitsLen x : Nat) : Int)).toNat = Sort.bitsLen x := by omega
 have e2 : min (Sort.bitsLen x) IntKind.u64.bits = Sort.bitsLen x := by
  have : IntKind.u64.bits = 64 := rfl
  omega
 have e3 : (1 : Int) * 2 ^ Sort.bitsLen x = ((2 ^ Sort.bitsLen x : Nat) : Int) := by simp
 rw [e1, e2, e3, abb (by omega)]
 exact h
theorem aei {w : World} {b : Nat} {x v : Value} {e : TypeId} (h : w.heap[b]? = some (.cells #[x] e (0, 0))) : ((dr w 1).setCell ⟨b, 0, none⟩ v).heap[b]? = some (.cells #[v] e (0, 0)) :=
 mq (w := dr w 1) h
theorem axl {w : World} {sb : Nat} {x : Int} {e : TypeId} (hb : w.heap[sb]? = some (.cells #[.int .u64 x] e (0, 0))) {K : KV}
  (h : ∀ w' (y : Int), 0 ≤ y → y < 18446744073709551616 → w'.heap[sb]? = some (.cells #[.int .u64 y] e (0, 0)) → Fr (fun b => b = sb) w w' → K (.int .u64 y) w') : jr P F.cg [.pointer (some ⟨sb, 0, none⟩)] w K := by
 apply M.cd.calls
 unfold M.cd
 have s13 : ∀ (x : Int) (w : World) (K : KV) (t : TypeId) (rx ry : Operand), ga P .shl t rx ry (.int .u64 x) (.int .u64 13) w K = K (.int .u64 (IntKind.u64.wrap (x * 2 ^ min (13 : Int).toNat IntKind.u64.bits))) w := fun x w K t rx ry => adm (by decide)
 have s7 : ∀ (x : Int) (w : World) (K : KV) (t : TypeId) (rx ry : Operand), ga P .shr t rx ry (.int .u64 x) (.int .u64 7) w K = K (.int .u64 (x.fdiv (2 ^ min (7 : Int).toNat IntKind.u64.bits))) w := fun x w K t rx ry => abj (by decide)
 have s17 : ∀ (x : Int) (w : World) (K : KV) (t : TypeId) (rx ry : Operand), ga P .shl t rx ry (.int .u64 x) (.int .u64 17) w K = K (.int .u64 (IntKind.u64.wrap (x * 2 ^ min (17 : Int).toNat IntKind.u64.bits))) w := fun x w K t rx ry => adm (by decide)
 have c0 := gj hb 0
 have f0 := nf hb 0
 simp only [List.size_toArray, List.getElem?_toArray, List.getElem?_cons_zero] at c0
 simp [c0, f0, s13, s7, s17, avp, jo, ju]
 refine h _ _ (aig _).1 (aig _).2 ?_ ?_
 ·exact aei (aei (aei hb))
 ·exact (((((((Fr.refl (fun b => b = sb) w).dr 1).setCell (.inl rfl) _ _).dr 1).setCell (.inl rfl) _ _).dr 1).setCell (.inl rfl) _ _)
end Go.Proofs.YtfnhoaemapheoaaGreat
set_option maxRecDepth 100000
namespace Go.Proofs.YtfnhoaemapheoaaGreat.SG
open Go.Eng Go.Sort
variable [SE]
theorem Rf.agx {w w' w'' : World} {g cap sb : Nat} {e : TypeId} {d : Array Int} (h : Rf w w' g e cap d) (f : Fr (fun b => b = sb) w' w'') (hs : w.heap.size ≤ sb) (hne : sb ≠ g) : Rf w w'' g e cap d :=
 ⟨h.row.fr f fun h => hne h.symm, h.fr.me f fun b hb he => by omega⟩
theorem Rf.new {w w' : World} {g cap : Nat} {e : TypeId} {d : Array Int} (h : Rf w w' g e cap d) (o : Obj) : Rf w (w'.alloc o) g e cap d :=
 ⟨h.row.fr ((Fr.refl (fun _ => False) w').alloc o) fun h => h, h.fr.alloc o⟩
def Sw (w : World) (sb : Nat) : Prop := ∃ x e, w.heap[sb]? = some (.cells #[.int .i64 x] e (0, 0))
theorem agv {w : World} {g cap n sb : Nat} {e : TypeId} {d : Array Int} (H : Rw w g e cap d) (hn : d.size = n) (S : Sw w sb) (hne : sb ≠ g) {a b : Nat} (ha : a < n) (hb : b < n) {K : KV}
  (h : ∀ w' x y, (x = a ∧ y = b ∨ x = b ∧ y = a) → Sw w' sb → Fr (fun b => b = sb) w w' → K (.tuple #[.int .i64 (x : Nat), .int .i64 (y : Nat)]) w') :
  gb P F.fi [.slice (some ⟨g, 0, none⟩) n cap, .int .i64 a, .int .i64 b, .pointer (some ⟨sb, 0, none⟩)] w K := by
 rw [M.ec.fcall]
 apply M.ec.calls
 unfold M.ec
 have a1 := H.at (show a < d.size by omega)
 have a2 := H.at (show b < d.size by omega)
 have b1 : (a : Int) < n := by omega
 have b2 : (b : Int) < n := by omega
 simp [b1, b2, a1, a2]
 refine rj _ _ ?_
 obtain ⟨x, e', hx⟩ := S
 cases hl : ltInt d[b]! d[a]! with
 | false =>
  simp
  exact h _ a b (.inl ⟨rfl, rfl⟩) ⟨x, e', hx⟩ ((Fr.refl _ _).dr 1)
 | true =>
  have c0 := gj hx 0
  have f0 := nf hx 0
  simp only [List.size_toArray, List.getElem?_toArray, List.getElem?_cons_zero] at c0
  simp [c0, f0]
  exact h _ b a (.inr ⟨rfl, rfl⟩) ⟨IntKind.i64.wrap (x + 1), e', aei hx⟩ (((Fr.refl (fun b => b = sb) w).dr 1).setCell (.inl rfl) _ _)
theorem amv {w : World} {g cap n sb : Nat} {e : TypeId} {d : Array Int} (H : Rw w g e cap d) (hn : d.size = n) (S : Sw w sb) (hne : sb ≠ g) {a b c : Nat} (ha : a < n) (hb : b < n) (hc : c < n) {K : KV}
  (h : ∀ w' x, (x = a ∨ x = b ∨ x = c) → Sw w' sb → Fr (fun b => b = sb) w w' → K (.int .i64 (x : Nat)) w') :
  gb P F.fj [.slice (some ⟨g, 0, none⟩) n cap, .int .i64 a, .int .i64 b, .int .i64 c, .pointer (some ⟨sb, 0, none⟩)] w K := by
 rw [M.ed.fcall]
 apply M.ed.calls
 unfold M.ed
 refine agv H hn S hne ha hb fun w1 x1 y1 h1 S1 f1 => ?_
 simp
 have H1 := H.fr f1 fun h => hne h.symm
 refine agv H1 hn S1 hne (a := y1) (b := c) (by omega) hc fun w2 x2 y2 h2 S2 f2 => ?_
 simp
 have H2 := H1.fr f2 fun h => hne h.symm
 refine agv H2 hn S2 hne (a := x1) (b := x2) (by omega) (by omega) fun w3 x3 y3 h3 S3 f3 => ?_
 simp
 exact h w3 y3 (by omega) S3 ((f1.trans f2).trans f3)
theorem asp {w : World} {g cap n sb : Nat} {e : TypeId} {d : Array Int} (H : Rw w g e cap d) (hn : d.size = n) (h6 : n < 100000) (S : Sw w sb) (hne : sb ≠ g) {a : Nat} (ha : 1 ≤ a) (hb : a + 1 < n) {K : KV}
  (h : ∀ w' x, (x = a - 1 ∨ x = a ∨ x = a + 1) → Sw w' sb → Fr (fun b => b = sb) w w' → K (.int .i64 (x : Nat)) w') :
  gb P F.fe [.slice (some ⟨g, 0, none⟩) n cap, .int .i64 a, .pointer (some ⟨sb, 0, none⟩)] w K := by
 rw [M.dj.fcall]
 apply M.dj.calls
 unfold M.dj
 have hw1 : IntKind.i64.wrap ((a : Int) - 1) = ((a - 1 : Nat) : Int) := by rw [gm (by omega) (by omega)]; omega
 have hw2 : IntKind.i64.wrap ((a : Int) + 1) = ((a + 1 : Nat) : Int) := pz (by omega)
 simp only [kt, kh, hw1, hw2]
 refine amv H hn S hne (by omega) (by omega) (by omega) fun w' x hx S' f' => ?_
 exact h w' x hx S' f'
theorem ben {w : World} {g cap n : Nat} {e : TypeId} {d : Array Int} (H : Rw w g e cap d) (hn : d.size = n) (h6 : n < 100000) {a b : Nat} (hb : b ≤ n) (hab : a + 12 < b) {K : KV}
  (h : ∀ w' (p hint : Nat), a ≤ p → p < b → hint ≤ 2 → Rf w w' g e cap d → K (.tuple #[.int .i64 (p : Nat), .int .i64 (hint : Nat)]) w') :
  jr P F.fs [.slice (some ⟨g, 0, none⟩) n cap, .int .i64 a, .int .i64 b] w K := by
 apply M.dk.calls
 unfold M.dk
 have hw0 : IntKind.i64.wrap ((b : Int) - a) = ((b - a : Nat) : Int) := xq (by omega) (by omega)
 generalize hl : b - a = l at *
 have q4 : IntKind.i64.wrap (((l : Nat) : Int).tdiv 4) = ((l / 4 : Nat) : Int) := by rw [Int.tdiv_eq_ediv_of_nonneg (by omega), gm (by omega) (by omega)]; omega
 have m1 : IntKind.i64.wrap (((l / 4 : Nat) : Int) * 1) = ((l / 4 : Nat) : Int) := by rw [gm (by omega) (by omega)]; omega
 have m2 : IntKind.i64.wrap (((l / 4 : Nat) : Int) * 2) = ((l / 4 * 2 : Nat) : Int) := by rw [gm (by omega) (by omega)]; omega
 have m3 : IntKind.i64.wrap (((l / 4 : Nat) : Int) * 3) = ((l / 4 * 3 : Nat) : Int) := by rw [gm (by omega) (by omega)]; omega
 have s1 : IntKind.i64.wrap ((a : Int) + ((l / 4 : Nat) : Int)) = ((a + l / 4 : Nat) : Int) := by rw [gm (by omega) (by omega)]; omega
 have s2 : IntKind.i64.wrap ((a : Int) + ((l / 4 * 2 : Nat) : Int)) = ((a + l / 4 * 2 : Nat) : Int) := by rw [gm (by omega) (by omega)]; omega
 have s3 : IntKind.i64.wrap ((a : Int) + ((l / 4 * 3 : Nat) : Int)) = ((a + l / 4 * 3 : Nat) : Int) := by rw [gm (by omega) (by omega)]; omega
 have bq : ∀ (x : Int) (t : TypeId) (rx ry : Operand) (w : World) (K : KV), ga P .quo t rx ry (.int .i64 x) (.int .i64 4) w K = K (.int .i64 (IntKind.i64.wrap (x.tdiv 4))) w := fun x t rx ry w K => amk (by decide)
 have al : ∀ (w : World) (K : KV), alT P T.b w K = K (.pointer (some ⟨w.heap.size, 0, none⟩)) (w.alloc (.cells #[.int .i64 0] T.b)) := fun w K => Eq.trans (by kernel_rfl) rfl
 have c8 : (8 : Int) ≤ (l : Int) := by omega
 simp only [kt, kh, uk, bq, hw0, q4, m1, m2, m3, s1, s2, s3, al, qo, c8, decide_true, Eng.cond_true]
 clear q4 m1 m2 m3 s1 s2 s3 bq al c8 hw0
 have H0 := H.we.new (.cells #[.int .i64 0] T.b)
 have S0 : Sw (w.alloc (.cells #[.int .i64 0] T.b)) w.heap.size := ⟨0, T.b, by rw [ie, if_pos rfl]⟩
 have hne : w.heap.size ≠ g := by have := H.lt; omega
 generalize w.alloc (.cells #[.int .i64 0] T.b) = w0 at *
 have fin : ∀ (w1 : World) (p : Nat) (v1 v2 : Value), a ≤ p → p < b → Rf w w1 g e cap d → Sw w1 w.heap.size → M.dk.j0 (.pointer (some ⟨w.heap.size, 0, none⟩)) [v1, .int .i64 (p : Nat), v2] w1 K := by
  intro w1 p v1 v2 hp1 hp2 H1 S1
  obtain ⟨x, e', hx⟩ := S1
  unfold M.dk.j0
  have c0 := gj hx 0
  simp only [List.size_toArray, List.getElem?_toArray, List.getElem?_cons_zero] at c0
  have q1 : ∀ a b c : Value, gv [a, b, c] 1 = b := fun _ _ _ => rfl
  by_cases x0 : x = 0
  ·simp [c0, q1, x0]
   exact h w1 p 1 hp1 hp2 (by decide) H1
  by_cases x12 : x = 12
  ·simp [c0, q1, x12]
   exact h w1 p 2 hp1 hp2 (by decide) H1
  ·simp [c0, q1, x0, x12]
   exact h w1 p 0 hp1 hp2 (by decide) H1
 simp only [gg]
 have ky : ∀ (w1 : World) (x y z : Nat), a ≤ x → x < b → a ≤ y → y < b → a ≤ z → z < b → Rf w w1 g e cap d → Sw w1 w.heap.size →
   gb P F.fj [.slice (some ⟨g, 0, none⟩) n cap, gv [.int .i64 (x : Int), .int .i64 (y : Int), .int .i64 (z : Int)] 0, gv [.int .i64 (x : Int), .int .i64 (y : Int), .int .i64 (z : Int)] 1, gv [.int .i64 (x : Int), .int .i64 (y : Int), .int .i64 (z : Int)] 2, .pointer (some ⟨w.heap.size, 0, none⟩)] w1 fun t48 w' =>
    M.dk.j0 (.pointer (some ⟨w.heap.size, 0, none⟩)) [gv [.int .i64 (x : Int), .int .i64 (y : Int), .int .i64 (z : Int)] 0, t48, gv [.int .i64 (x : Int), .int .i64 (y : Int), .int .i64 (z : Int)] 2] w' K := by
  intro w1 x y z hx1 hx2 hy1 hy2 hz1 hz2 H1 S1
  refine amv H1.row hn S1 hne (a := x) (b := y) (c := z) (by omega) (by omega) (by omega) fun w2 p hp S2 f2 => ?_
  exact fin w2 p _ _ (by omega) (by omega) (H1.agx f2 (Nat.le_refl _) hne) S2
 by_cases h50 : 50 ≤ l
 ·have h50' : (50 : Int) ≤ (l : Int) := by omega
  simp only [h50', decide_true, Eng.cond_true]
  refine asp H0.row hn h6 S0 hne (by omega) (by omega) fun w1 x hx S1 f1 => ?_
  have H1 := H0.agx f1 (Nat.le_refl _) hne
  refine asp H1.row hn h6 S1 hne (by omega) (by omega) fun w2 y hy S2 f2 => ?_
  have H2 := H1.agx f2 (Nat.le_refl _) hne
  refine asp H2.row hn h6 S2 hne (by omega) (by omega) fun w3 z hz S3 f3 => ?_
  have H3 := H2.agx f3 (Nat.le_refl _) hne
  exact ky w3 x y z (by omega) (by omega) (by omega) (by omega) (by omega) (by omega) H3 S3
 ·have h50' : ¬ (50 : Int) ≤ (l : Int) := by omega
  simp only [h50', decide_false, Eng.cond_false]
  exact ky w0 (a + l / 4) (a + l / 4 * 2) (a + l / 4 * 3) (by omega) (by omega) (by omega) (by omega) (by omega) (by omega) H0 S0
def BpI (w : World) (g : Nat) (e : TypeId) (cap n a b idx0 : Nat) (d : Array Int) : KL := fun x w1 => ∃ (u : Value) (k : Nat) (d1 : Array Int) (r : Int), x = [u, .int .i64 ((idx0 + k : Nat) : Int)] ∧ Rf w w1 g e cap d1 ∧ d1.size = n ∧ k ≤ 3 ∧ PermIn a b d d1 ∧ 0 ≤ r ∧ r < 18446744073709551616 ∧ w1.heap[w.heap.size]? = some (.cells #[.int .u64 r] T.v (0, 0))
theorem bdu {w : World} {g cap n : Nat} {e : TypeId} {d : Array Int} (H : Rw w g e cap d) (hn : d.size = n) (h6 : n < 60000) {a b : Nat} (hb : b ≤ n) (hab : a + 12 < b) {K : KV}
  (h : ∀ w' d', PermIn a b d d' → Rf w w' g e cap d' → K (.tuple #[]) w') :
  jr P F.fr [.slice (some ⟨g, 0, none⟩) n cap, .int .i64 a, .int .i64 b] w K := by
 apply M.cp.calls
 unfold M.cp
 have hw0 : IntKind.i64.wrap ((b : Int) - a) = ((b - a : Nat) : Int) := xq (by omega) (by omega)
 have hlb : a + (b - a) = b := by omega
 generalize hl : b - a = l at *
 have bq : ∀ (x : Int) (t : TypeId) (rx ry : Operand) (w : World) (K : KV), ga P .quo t rx ry (.int .i64 x) (.int .i64 4) w K = K (.int .i64 (IntKind.i64.wrap (x.tdiv 4))) w := fun x t rx ry w K => amk (by decide)
 have q4 : IntKind.i64.wrap (((l : Nat) : Int).tdiv 4) = ((l / 4 : Nat) : Int) := by rw [Int.tdiv_eq_ediv_of_nonneg (by omega), gm (by omega) (by omega)]; omega
 have m2 : IntKind.i64.wrap (((l / 4 : Nat) : Int) * 2) = ((l / 4 * 2 : Nat) : Int) := by rw [gm (by omega) (by omega)]; omega
 have s2 : IntKind.i64.wrap ((a : Int) + ((l / 4 * 2 : Nat) : Int)) = ((a + l / 4 * 2 : Nat) : Int) := by rw [gm (by omega) (by omega)]; omega
 have s3 : IntKind.i64.wrap (((a + l / 4 * 2 : Nat) : Int) - 1) = ((a + l / 4 * 2 - 1 + 0 : Nat) : Int) := by rw [gm (by omega) (by omega)]; omega
 have s4 : IntKind.i64.wrap (((a + l / 4 * 2 : Nat) : Int) + 1) = ((a + l / 4 * 2 + 1 : Nat) : Int) := pz (by omega)
 have c8 : (8 : Int) ≤ (l : Int) := by omega
 have i64B : wz P T.b .i64 = true := by kernel_rfl
 have uB : wz P T.au .u64 = true := by kernel_rfl
 have xB : wz P T.v .u64 = true := by kernel_rfl
 simp only [kt, hw0, qo, c8, decide_true, Eng.cond_true]
 rw [nl i64B xB, abb (by omega)]
 have hx0 : (w.alloc (.cells #[.int .u64 0] T.v)).heap[w.heap.size]? = some (.cells #[.int .u64 0] T.v (0, 0)) := by rw [ie, if_pos rfl]
 have H0 := H.we.new (.cells #[.int .u64 0] T.v)
 have hne : w.heap.size ≠ g := by have := H.lt; omega
 have c0 := gj hx0 0
 have f0 := nf hx0 0
 simp only [List.size_toArray, List.getElem?_toArray, List.getElem?_cons_zero] at c0
 simp [c0, f0, -gg]
 have hx1 : ((w.alloc (.cells #[.int .u64 0] T.v)).setCell ⟨w.heap.size, 0, none⟩ (.int .u64 l)).heap[w.heap.size]? = some (.cells #[.int .u64 l] T.v (0, 0)) := mq hx0
 have H1 := H0.agx ((Fr.refl (fun b => b = w.heap.size) _).setCell (.inl rfl) 0 (.int .u64 (l : Int))) (Nat.le_refl _) hne
 generalize (w.alloc (.cells #[.int .u64 0] T.v)).setCell ⟨w.heap.size, 0, none⟩ (.int .u64 (l : Int)) = w1 at *
 rw [M.cc.fcall]
 refine bhf (by omega) ?_
 have hp2 : 2 ^ bitsLen l ≤ 2 * l := two_pow_bitsLen_le (by omega)
 have hp1 : 0 < 2 ^ bitsLen l := Nat.pow_pos (by decide)
 simp only [bq, q4, uk, m2, kh, s2, kt, s3]
 generalize 2 ^ bitsLen l = md at *
 generalize hi0 : a + l / 4 * 2 - 1 = i0 at *
 refine ⟨BpI w g e cap n a b i0 d, fun x _ => i0 + 3 - ms x 1, ⟨_, 0, d, l, rfl, H1, hn, by omega, permIn_refl d a b, by omega, by omega, hx1⟩, ?_⟩
 rintro x w2 ⟨u, k, d2, r, rfl, H2, hn2, hk, hP, hr0, hr1, hx2⟩
 unfold M.cp.j0
 simp only [gg, bq, q4, uk, m2, kh, s2, s4, g21, abi]
 by_cases hk3 : k < 3
 ·have hle : ((i0 + k : Nat) : Int) ≤ ((a + l / 4 * 2 + 1 : Nat) : Int) := by omega
  simp only [hle, decide_true, Eng.cond_true]
  unfold M.cp.j1
  simp only [gg, g21]
  rw [M.cd.fcall]
  refine axl hx2 fun w3 y hy0 hy1 hx3 f3 => ?_
  have H3 := H2.agx f3 (Nat.le_refl _) hne
  obtain ⟨z, rfl⟩ : ∃ z : Nat, y = z := ⟨y.toNat, by omega⟩
  have hm1 : IntKind.u64.wrap ((md : Int) - 1) = ((md - 1 : Nat) : Int) := by rw [abu (by omega) (by omega)]; omega
  have hand : (BitVec.ofInt IntKind.u64.bits (z : Int) &&& BitVec.ofInt IntKind.u64.bits ((md - 1 : Nat) : Int)).toNat ≤ md - 1 := bkf (x := z) (y := md - 1) (by omega) (by omega)
  simp only [kt, hm1, ave]
  generalize (BitVec.ofInt IntKind.u64.bits (z : Int) &&& BitVec.ofInt IntKind.u64.bits ((md - 1 : Nat) : Int)).toNat = o at *
  rw [abb (by omega), nl uB i64B, akr (by omega)]
  have tail : ∀ (o : Nat), o < l → M.cp.j3 (.int .i64 a) [.int .i64 (o : Nat)] (.slice (some ⟨g, 0, none⟩) n cap) [u, .int .i64 ((i0 + k : Nat) : Int)] (fun x2 w' => BpI w g e cap n a b i0 d [gv x2 0, .int .i64 (IntKind.i64.wrap (((i0 + k : Nat) : Int) + 1))] w' ∧ i0 + 3 - ms [gv x2 0, .int .i64 (IntKind.i64.wrap (((i0 + k : Nat) : Int) + 1))] 1 < i0 + 3 - ms [u, .int .i64 ((i0 + k : Nat) : Int)] 1) w3 K := by
   intro o ho
   unfold M.cp.j3
   have wr : IntKind.i64.wrap ((a : Int) + (o : Int)) = ((a + o : Nat) : Int) := by rw [gm (by omega) (by omega)]; omega
   have a1 := H3.row.at (show i0 + k < d2.size by omega)
   have a2 := H3.row.at (show a + o < d2.size by omega)
   have b1 : ((i0 + k : Nat) : Int) < n := by omega
   have b2 : ((a + o : Nat) : Int) < n := by omega
   have f1 := H3.row.frz (i0 + k)
   have f2 := H3.row.frz (a + o)
   simp [g0, g21, wr, b1, b2, a1, a2, f1, f2, jo, ju, -Int.natCast_add]
   have hw5 : IntKind.i64.wrap (((i0 + k : Nat) : Int) + 1) = ((i0 + (k + 1) : Nat) : Int) := by rw [gm (by omega) (by omega)]; omega
   rw [hw5]
   refine ⟨⟨_, k + 1, _, z, rfl, (H3.dr 1).swp (by omega) (by omega), by rw [size_swp]; exact hn2, by omega, permIn_trans _ _ _ a b hP (swp_permIn _ a b _ _ (by omega) (by omega) (by omega) (by omega) (by omega)), by omega, by omega, ?_⟩, ?_⟩
   ·rw [akf (by omega), akf (by omega)]; exact hx3
   ·simp only [ms, g21]; omega
  simp only [gg, qo, kh]
  by_cases hol : l ≤ o
  ·have hol' : (l : Int) ≤ o := by omega
   have hwo : IntKind.i64.wrap ((o : Int) - l) = ((o - l : Nat) : Int) := xq (by omega) (by omega)
   simp only [hol', decide_true, Eng.cond_true, kt, hwo]
   exact tail (o - l) (by omega)
  ·have hol' : ¬ (l : Int) ≤ o := by omega
   simp only [hol', decide_false, Eng.cond_false]
   exact tail o (by omega)
 ·have hle : ¬ ((i0 + k : Nat) : Int) ≤ ((a + l / 4 * 2 + 1 : Nat) : Int) := by omega
  simp only [hle, decide_false, Eng.cond_false]
  exact h w2 d2 hP H2
end Go.Proofs.YtfnhoaemapheoaaGreat.SG
set_option maxRecDepth 100000
namespace Go.Proofs.YtfnhoaemapheoaaGreat.SG
open Go.Eng Go.Sort
variable [SE]
section
omit [SE] in
theorem f5 (a0 a1 a2 a3 a4 a5 a6 a7 a8 a9 a10 a11 a12 a13 : Value) : gv [a0, a1, a2, a3, a4, a5, a6, a7, a8, a9, a10, a11, a12, a13] 5 = a5 := rfl
omit [SE] in
theorem f13 (a0 a1 a2 a3 a4 a5 a6 a7 a8 a9 a10 a11 a12 a13 : Value) : gv [a0, a1, a2, a3, a4, a5, a6, a7, a8, a9, a10, a11, a12, a13] 13 = a13 := rfl
end
structure bmr (w w1 : World) (g : Nat) (e : TypeId) (cap n a0 b0 : Nat) (d0 : Array Int) (a b limit : Nat) (wb wp : Bool) (d : Array Int) : Prop where
 rf : Rf w w1 g e cap d
 sz : d.size = n
 ab : a ≤ b
 bb : b - a ≤ b0 - a0
 bn : b ≤ n
 be : Below ltInt a b d
 fin : ∀ R, PermIn a b d R → SortedIn ltInt a b R → PermIn a0 b0 d0 R ∧ SortedIn ltInt a0 b0 R
def PdI (w : World) (g : Nat) (e : TypeId) (cap n a0 b0 : Nat) (d0 : Array Int) : KL := fun x w1 => ∃ (u0 u2 u3 u4 u6 u7 u9 u10 u11 : Value) (a b limit : Nat) (wb wp : Bool) (d : Array Int),
 x = [u0, .int .i64 (limit : Nat), u2, u3, u4, .int .i64 (a : Nat), u6, u7, .bool wp, u9, u10, u11, .bool wb, .int .i64 (b : Nat)] ∧ limit < 1000 ∧ bmr w w1 g e cap n a0 b0 d0 a b limit wb wp d
def IH (m : Nat) : Prop := ∀ {w : World} {g cap n : Nat} {e : TypeId} {d : Array Int} (_ : Rw w g e cap d) (_ : d.size = n) (_ : n < 60000) {a b limit : Nat} (_ : b - a ≤ m) (_ : a ≤ b) (_ : b ≤ n) (_ : limit < 1000) (_ : Below ltInt a b d) {K : KV}
  (_ : ∀ w' d', PermIn a b d d' → SortedIn ltInt a b d' → Rf w w' g e cap d' → K (.tuple #[]) w'), jr P F.fk [.slice (some ⟨g, 0, none⟩) n cap, .int .i64 a, .int .i64 b, .int .i64 limit] w K
section
variable {m : Nat} {w : World} {g cap n : Nat} {e : TypeId} {d d5 : Array Int} {a0 b0 a b pv hint4 lim2 : Nat} {wb wp : Bool} {x0 : List Value} {K : KV}
theorem ava (ih : IH m) (h6 : n < 60000) (hm : b0 - a0 ≤ m + 1) (hbb : b - a ≤ b0 - a0) (hbn : b ≤ n) (hab : a ≤ b) (hpv1 : a ≤ pv) (hpv2 : pv < b) (hlim2 : lim2 < 1000) {w5 : World} (H5 : Rf w w5 g e cap d5) (hn5 : d5.size = n) (B5 : Below ltInt a b d5)
  (hfin5 : ∀ R, PermIn a b d5 R → SortedIn ltInt a b R → PermIn a0 b0 d R ∧ SortedIn ltInt a0 b0 R) (e5 : gv x0 5 = .int .i64 (a : Nat)) (e8 : gv x0 8 = .bool wp) (e12 : gv x0 12 = .bool wb) (e13 : gv x0 13 = .int .i64 (b : Nat)) (m5 : ms x0 5 = a) (m13 : ms x0 13 = b) (v0 : Value) :
  M.ba.j6 (.slice (some ⟨g, 0, none⟩) n cap) [v0, .int .i64 (a : Nat)] x0 [.int .i64 (pv : Nat), .int .i64 (hint4 : Nat)] (.int .i64 ((b - a : Nat) : Int)) [.int .i64 (lim2 : Nat)] (fun x' w' => PdI w g e cap n a0 b0 d x' w' ∧ ms x' 13 - ms x' 5 < ms x0 13 - ms x0 5) w5 K := by
 unfold M.ba.j6
 simp only [g20, g21, e13]
 rw [M.ao.fcall]
 refine asv H5.row hn5 (by omega) hbn hpv1 hpv2 fun w7 H7 => ?_
 have H7' := H5.trans H7
 obtain ⟨r1, r2, r3, rBa, rBr, rL, rR⟩ := round_part swo_ltInt (partition_holds ltInt) hpv1 hpv2 (by omega) B5 (show partition ltInt d5 a b pv = ((partition ltInt d5 a b pv).1, (partition ltInt d5 a b pv).2.1, (partition ltInt d5 a b pv).2.2) from rfl)
 generalize (partition ltInt d5 a b pv).1 = mid at *
 generalize (partition ltInt d5 a b pv).2.1 = ap at *
 generalize (partition ltInt d5 a b pv).2.2 = d7 at *
 have hn7 : d7.size = n := by omega
 have wl : IntKind.i64.wrap ((mid : Int) - a) = ((mid - a : Nat) : Int) := xq (by omega) (by omega)
 have wr : IntKind.i64.wrap ((b : Int) - mid) = ((b - mid : Nat) : Int) := xq (by omega) (by omega)
 have wm : IntKind.i64.wrap ((mid : Int) + 1) = ((mid + 1 : Nat) : Int) := pz (by omega)
 have bq : ∀ (x : Int) (t : TypeId) (rx ry : Operand) (w : World) (K : KV), ga P .quo t rx ry (.int .i64 x) (.int .i64 8) w K = K (.int .i64 (IntKind.i64.wrap (x.tdiv 8))) w := fun x t rx ry w K => amk (by decide)
 simp only [ads, adg, g0, kt, wl, wr, bq, km, qo]
 by_cases hlt : mid - a < b - mid
 ·have hlt' : ((mid - a : Nat) : Int) < ((b - mid : Nat) : Int) := by omega
  simp only [hlt', decide_true, Eng.cond_true]
  rw [M.ba.fcall]
  refine ih H7.row hn7 h6 (by omega) r1 (by omega) hlim2 rBa fun w8 d8 P8 S8 H8 => ?_
  obtain ⟨hBL, hfinL⟩ := rL d8 P8 S8
  simp only [kh, wm]
  refine ⟨⟨_, _, _, _, _, _, _, _, _, mid + 1, b, lim2, _, ap, d8, rfl, hlim2, ⟨H7'.trans H8, by rw [P8.1]; exact hn7, by omega, by omega, hbn, hBL, fun R h1 h2 => ?_⟩⟩, ?_⟩
  ·obtain ⟨k1, k2⟩ := hfinL R h1 h2
   exact hfin5 R k1 k2
  ·have : ∀ y0 y1 y2 y3 y4 y6 y7 y8 y9 y10 y11 y12 : Value, ms [y0, y1, y2, y3, y4, .int .i64 ((mid + 1 : Nat) : Int), y6, y7, y8, y9, y10, y11, y12, .int .i64 (b : Nat)] 13 = b ∧ ms [y0, y1, y2, y3, y4, .int .i64 ((mid + 1 : Nat) : Int), y6, y7, y8, y9, y10, y11, y12, .int .i64 (b : Nat)] 5 = mid + 1 := fun _ _ _ _ _ _ _ _ _ _ _ _ => ⟨rfl, rfl⟩
   rw [(this _ _ _ _ _ _ _ _ _ _ _ _).1, (this _ _ _ _ _ _ _ _ _ _ _ _).2, m5, m13]; omega
 ·have hlt' : ¬ ((mid - a : Nat) : Int) < ((b - mid : Nat) : Int) := by omega
  simp only [hlt', decide_false, Eng.cond_false, kh, wm]
  rw [M.ba.fcall]
  refine ih H7.row hn7 h6 (by omega) (by omega) hbn hlim2 rBr fun w8 d8 P8 S8 H8 => ?_
  obtain ⟨hBL, hfinL⟩ := rR d8 P8 S8
  refine ⟨⟨_, _, _, _, _, _, _, _, _, a, mid, lim2, _, ap, d8, rfl, hlim2, ⟨H7'.trans H8, by rw [P8.1]; exact hn7, by omega, by omega, by omega, hBL, fun R h1 h2 => ?_⟩⟩, ?_⟩
  ·obtain ⟨k1, k2⟩ := hfinL R h1 h2
   exact hfin5 R k1 k2
  ·have : ∀ y0 y1 y2 y3 y4 y6 y7 y8 y9 y10 y11 y12 : Value, ms [y0, y1, y2, y3, y4, .int .i64 (a : Nat), y6, y7, y8, y9, y10, y11, y12, .int .i64 (mid : Nat)] 13 = mid ∧ ms [y0, y1, y2, y3, y4, .int .i64 (a : Nat), y6, y7, y8, y9, y10, y11, y12, .int .i64 (mid : Nat)] 5 = a := fun _ _ _ _ _ _ _ _ _ _ _ _ => ⟨rfl, rfl⟩
   rw [(this _ _ _ _ _ _ _ _ _ _ _ _).1, (this _ _ _ _ _ _ _ _ _ _ _ _).2, m5, m13]; omega
theorem blr (ih : IH m) (h6 : n < 60000) (hm : b0 - a0 ≤ m + 1) (hbb : b - a ≤ b0 - a0) (hbn : b ≤ n) (hab : a ≤ b) (hpv1 : a ≤ pv) (hpv2 : pv < b) (hlim2 : lim2 < 1000) {w5 : World} (H5 : Rf w w5 g e cap d5) (hn5 : d5.size = n) (B5 : Below ltInt a b d5)
  (hfin5 : ∀ R, PermIn a b d5 R → SortedIn ltInt a b R → PermIn a0 b0 d R ∧ SortedIn ltInt a0 b0 R) (e5 : gv x0 5 = .int .i64 (a : Nat)) (e8 : gv x0 8 = .bool wp) (e12 : gv x0 12 = .bool wb) (e13 : gv x0 13 = .int .i64 (b : Nat)) (m5 : ms x0 5 = a) (m13 : ms x0 13 = b) :
  M.ba.j5 x0 (.slice (some ⟨g, 0, none⟩) n cap) [.int .i64 (pv : Nat), .int .i64 (hint4 : Nat)] (fun x' w' => PdI w g e cap n a0 b0 d x' w' ∧ ms x' 13 - ms x' 5 < ms x0 13 - ms x0 5) (.int .i64 ((b - a : Nat) : Int)) [.int .i64 (lim2 : Nat)] w5 K := by
 unfold M.ba.j5
 simp only [gg, so, wo, e5, e13, g20, true_and, and_true, qp, zk]
 by_cases ha0 : 0 < a
 ·have ha0' : (0 : Int) < (a : Int) := by omega
  have hwa : IntKind.i64.wrap ((a : Int) - 1) = ((a - 1 : Nat) : Int) := by rw [gm (by omega) (by omega)]; omega
  have a1 := H5.row.at (show a - 1 < d5.size by omega)
  have a2 := H5.row.at (show pv < d5.size by omega)
  have b1 : ((a - 1 : Nat) : Int) < n := by omega
  have b2 : (pv : Int) < n := by omega
  simp [ha0, ha0', hwa, a1, a2, b1, b2]
  refine rj _ _ ?_
  cases hl : ltInt d5[a - 1]! d5[pv]! with
  | true =>
   simp
   exact ava ih h6 hm hbb hbn hab hpv1 hpv2 hlim2 (H5.dr 1) hn5 B5 hfin5 e5 e8 e12 e13 m5 m13 _
  | false =>
   simp
   rw [M.ch.fcall]
   refine aia (H5.dr 1).row hn5 (by omega) hbn hpv1 hpv2 fun w7 H7 => ?_
   have H7' := (H5.dr 1).trans H7
   obtain ⟨r1, r2, r3, rB, rF⟩ := round_eq swo_ltInt (partitionEqual_holds ltInt) ha0 hpv1 hpv2 (by omega) B5 hl (show partitionEqual ltInt d5 a b pv = ((partitionEqual ltInt d5 a b pv).1, (partitionEqual ltInt d5 a b pv).2) from rfl)
   generalize (partitionEqual ltInt d5 a b pv).1 = mid at *
   generalize (partitionEqual ltInt d5 a b pv).2 = d7 at *
   have hn7 : d7.size = n := by omega
   refine ⟨⟨_, _, _, _, _, _, _, _, _, mid, b, lim2, wb, wp, d7, by rw [e8, e12], hlim2, ⟨H7', hn7, r2, by omega, hbn, rB, fun R h1 h2 => ?_⟩⟩, ?_⟩
   ·obtain ⟨k1, k2⟩ := rF R h1 h2
    exact hfin5 R k1 k2
   ·have : ∀ y0 y1 y2 y3 y4 y6 y7 y8 y9 y10 y11 y12 : Value, ms [y0, y1, y2, y3, y4, .int .i64 (mid : Nat), y6, y7, y8, y9, y10, y11, y12, .int .i64 (b : Nat)] 13 = b ∧ ms [y0, y1, y2, y3, y4, .int .i64 (mid : Nat), y6, y7, y8, y9, y10, y11, y12, .int .i64 (b : Nat)] 5 = mid := fun _ _ _ _ _ _ _ _ _ _ _ _ => ⟨rfl, rfl⟩
    rw [(this _ _ _ _ _ _ _ _ _ _ _ _).1, (this _ _ _ _ _ _ _ _ _ _ _ _).2, m5, m13]; omega
 ·have ha0' : ¬ (0 : Int) < (a : Int) := by omega
  simp [ha0, ha0']
  exact ava ih h6 hm hbb hbn hab hpv1 hpv2 hlim2 (H5.dr 1) hn5 B5 hfin5 e5 e8 e12 e13 m5 m13 _
theorem auq {d1 : Array Int} (ih : IH m) (h6 : n < 60000) (hm : b0 - a0 ≤ m + 1) (hbb : b - a ≤ b0 - a0) (hbn : b ≤ n) (hab : a ≤ b) (hlim2 : lim2 < 1000) (h12 : ¬ b - a ≤ 12) (hn1 : d1.size = n) (hB1 : Below ltInt a b d1)
  (hfin : ∀ R, PermIn a b d1 R → SortedIn ltInt a b R → PermIn a0 b0 d R ∧ SortedIn ltInt a0 b0 R) (h : ∀ w' d', PermIn a0 b0 d d' → SortedIn ltInt a0 b0 d' → Rf w w' g e cap d' → K (.tuple #[]) w')
  (e5 : gv x0 5 = .int .i64 (a : Nat)) (e8 : gv x0 8 = .bool wp) (e12 : gv x0 12 = .bool wb) (e13 : gv x0 13 = .int .i64 (b : Nat)) (m5 : ms x0 5 = a) (m13 : ms x0 13 = b) {w4 : World} {d4 : Array Int} (H4 : Rf w w4 g e cap d4) (P4 : PermIn a b d1 d4) (hpv1 : a ≤ pv) (hpv2 : pv < b) :
  M.ba.j4 x0 [.int .i64 (pv : Nat), .int .i64 (hint4 : Nat)] (.slice (some ⟨g, 0, none⟩) n cap) (fun x' w' => PdI w g e cap n a0 b0 d x' w' ∧ ms x' 13 - ms x' 5 < ms x0 13 - ms x0 5) (.int .i64 ((b - a : Nat) : Int)) [.int .i64 (lim2 : Nat)] w4 K := by
 have hn4 : d4.size = n := by rw [P4.1]; exact hn1
 have B4 := hB1.perm (by omega) P4
 have st5 : ∀ (w5 : World) (d5 : Array Int), Rf w w5 g e cap d5 → PermIn a b d1 d5 →
   M.ba.j5 x0 (.slice (some ⟨g, 0, none⟩) n cap) [.int .i64 (pv : Nat), .int .i64 (hint4 : Nat)] (fun x' w' => PdI w g e cap n a0 b0 d x' w' ∧ ms x' 13 - ms x' 5 < ms x0 13 - ms x0 5) (.int .i64 ((b - a : Nat) : Int)) [.int .i64 (lim2 : Nat)] w5 K := fun w5 d5 H5 P5 =>
  blr ih h6 hm hbb hbn hab hpv1 hpv2 hlim2 H5 (by rw [P5.1]; exact hn1) (hB1.perm (by omega) P5) (fun R h1 h2 => hfin R (permIn_trans _ _ _ a b P5 h1) h2) e5 e8 e12 e13 m5 m13
 unfold M.ba.j4
 simp only [gg, e5, e8, e12, e13, zk, g21]
 cases wb with
 | false => simp; exact st5 w4 d4 H4 P4
 | true =>
  cases wp with
  | false => simp; exact st5 w4 d4 H4 P4
  | true =>
   by_cases hh1 : hint4 = 1
   ·have hd : decide ((hint4 : Int) = 1) = true := by rw [decide_eq_true_eq]; omega
    simp only [zk, ami, abg, beq_self_eq_true, _root_.cond_true, te, hd, Eng.cond_true]
    rw [M.ah.fcall]
    refine aoc H4.row hn4 (by omega) hbn (by omega) fun w5 H5 => ?_
    have hpi := partialInsertionSort_holds swo_ltInt d4 a b (by omega) (by omega) B4
    cases hr : (partialInsertionSort ltInt d4 a b).2 with
    | true =>
     simp
     obtain ⟨p1, p2⟩ := hfin _ (permIn_trans _ _ _ a b P4 hpi.1) (hpi.2 hr)
     exact h w5 _ p1 p2 (H4.trans H5)
    | false =>
     simp
     exact st5 w5 _ (H4.trans H5) (permIn_trans _ _ _ a b P4 hpi.1)
   ·have hd : decide ((hint4 : Int) = 1) = false := by rw [decide_eq_false_iff_not]; omega
    simp only [zk, ami, abg, beq_self_eq_true, _root_.cond_true, te, hd, Eng.cond_false]
    exact st5 w4 d4 H4 P4
theorem ase {d1 : Array Int} (ih : IH m) (h6 : n < 60000) (hm : b0 - a0 ≤ m + 1) (hbb : b - a ≤ b0 - a0) (hbn : b ≤ n) (hab : a ≤ b) (hlim2 : lim2 < 1000) (h12 : ¬ b - a ≤ 12) (hn1 : d1.size = n) (hB1 : Below ltInt a b d1)
  (hfin : ∀ R, PermIn a b d1 R → SortedIn ltInt a b R → PermIn a0 b0 d R ∧ SortedIn ltInt a0 b0 R) (h : ∀ w' d', PermIn a0 b0 d d' → SortedIn ltInt a0 b0 d' → Rf w w' g e cap d' → K (.tuple #[]) w')
  (e5 : gv x0 5 = .int .i64 (a : Nat)) (e8 : gv x0 8 = .bool wp) (e12 : gv x0 12 = .bool wb) (e13 : gv x0 13 = .int .i64 (b : Nat)) (m5 : ms x0 5 = a) (m13 : ms x0 13 = b) {w2 : World} {d2 : Array Int} (H2 : Rf w w2 g e cap d2) (P2 : PermIn a b d1 d2) :
  M.ba.j3 (.slice (some ⟨g, 0, none⟩) n cap) x0 (fun x' w' => PdI w g e cap n a0 b0 d x' w' ∧ ms x' 13 - ms x' 5 < ms x0 13 - ms x0 5) (.int .i64 ((b - a : Nat) : Int)) [.int .i64 (lim2 : Nat)] w2 K := by
 have hn2 : d2.size = n := by rw [P2.1]; exact hn1
 have B2 := hB1.perm (by omega) P2
 unfold M.ba.j3
 simp only [e5, e13, gg]
 rw [M.dk.fcall]
 refine ben H2.row hn2 (by omega) hbn (by omega) fun w3 p hint hp1 hp2 hh H3 => ?_
 have H3' := H2.trans H3
 simp only [ads, adg, te]
 by_cases hh2 : hint = 2
 ·have hh2' : (hint : Int) = 2 := by omega
  simp only [hh2', decide_true, Eng.cond_true]
  rw [M.dp.fcall]
  refine aye H3.row hn2 (by omega) hbn (by omega) fun w4 H4 => ?_
  have hrev := reverseRange_holds d2 a b hab (by omega)
  have w1' : IntKind.i64.wrap ((b : Int) - 1) = ((b - 1 : Nat) : Int) := by rw [gm (by omega) (by omega)]; omega
  have w2' : IntKind.i64.wrap ((p : Int) - a) = ((p - a : Nat) : Int) := xq (by omega) (by omega)
  have w3' : IntKind.i64.wrap (((b - 1 : Nat) : Int) - ((p - a : Nat) : Int)) = ((b - 1 - (p - a) : Nat) : Int) := xq (by omega) (by omega)
  simp only [kt, w1', w2', w3']
  exact auq (hint4 := 1) ih h6 hm hbb hbn hab hlim2 h12 hn1 hB1 hfin h e5 e8 e12 e13 m5 m13 (H3'.trans H4) (permIn_trans _ _ _ a b P2 hrev) (by omega) (by omega)
 ·have hh2' : ¬ (hint : Int) = 2 := by omega
  simp only [hh2', decide_false, Eng.cond_false]
  exact auq ih h6 hm hbb hbn hab hlim2 h12 hn1 hB1 hfin h e5 e8 e12 e13 m5 m13 H3' P2 hp1 hp2
end
theorem bjv : ∀ (m : Nat), IH m := by
 intro m
 induction m with
 | zero =>
  intro w g cap n e d H hn h6 a b limit hm hab hb hlim hB K h
  -- nothing to sort
  have hba : b = a := by omega
  subst hba
  apply M.ba.calls
  unfold M.ba
  refine ⟨fun x w1 => x = [undef, .int .i64 (limit : Nat), undef, undef, undef, .int .i64 (b : Nat), undef, undef, .bool true, undef, undef, undef, .bool true, .int .i64 (b : Nat)] ∧ w1 = w, fun _ _ => 0, ⟨rfl, rfl⟩, ?_⟩
  rintro x w1 ⟨rfl, rfl⟩
  unfold M.ba.j0
  have hw0 : IntKind.i64.wrap ((b : Int) - b) = 0 := by rw [gm (by omega) (by omega)]; omega
  simp only [f13, f5, kt, hw0, gg, abi]
  rw [M.cg.fcall]
  simp
  refine agr H hn (by omega) hb hb fun w2 H2 => ?_
  have hi := insertionSort_holds swo_ltInt d b b (Nat.le_refl _) (by omega)
  exact h w2 _ hi.1 hi.2 H2
 | succ m ih =>
  intro w g cap n e d H hn h6 a0 b0 limit0 hm hab0 hb0 hlim0 hB K h
  apply M.ba.calls
  unfold M.ba
  refine ⟨PdI w g e cap n a0 b0 d, fun x _ => ms x 13 - ms x 5, ⟨_, _, _, _, _, _, _, _, _, a0, b0, limit0, true, true, d, rfl, hlim0, ⟨H.we, hn, hab0, Nat.le_refl _, hb0, hB, fun R h1 h2 => ⟨h1, h2⟩⟩⟩, ?_⟩
  rintro x w1 ⟨u0, u2, u3, u4, u6, u7, u9, u10, u11, a, b, limit, wb, wp, d1, rfl, hlim, ⟨H1, hn1, hab, hbb, hbn, hB1, hfin⟩⟩
  generalize hx0 : [u0, .int .i64 (limit : Nat), u2, u3, u4, .int .i64 (a : Nat), u6, u7, .bool wp, u9, u10, u11, .bool wb, .int .i64 (b : Nat)] = x0
  have e1 : gv x0 1 = .int .i64 (limit : Nat) := by rw [← hx0]; rfl
  have e5 : gv x0 5 = .int .i64 (a : Nat) := by rw [← hx0]; rfl
  have e8 : gv x0 8 = .bool wp := by rw [← hx0]; rfl
  have e12 : gv x0 12 = .bool wb := by rw [← hx0]; rfl
  have e13 : gv x0 13 = .int .i64 (b : Nat) := by rw [← hx0]; rfl
  have m5 : ms x0 5 = a := by simp [ms, e5]
  have m13 : ms x0 13 = b := by simp [ms, e13]
  clear hx0
  have hw0 : IntKind.i64.wrap ((b : Int) - a) = ((b - a : Nat) : Int) := xq (by omega) (by omega)
  unfold M.ba.j0
  simp only [e13, e5, kt, hw0, gg, abi]
  by_cases h12 : b - a ≤ 12
  ·have h12' : ((b - a : Nat) : Int) ≤ 12 := by omega
   simp only [h12', decide_true, Eng.cond_true]
   rw [M.cg.fcall]
   refine agr H1.row hn1 (by omega) hbn (by omega) fun w2 H2 => ?_
   have hi := insertionSort_holds swo_ltInt d1 a b hab (by omega)
   obtain ⟨p1, p2⟩ := hfin _ hi.1 hi.2
   exact h w2 _ p1 p2 (H1.trans H2)
  have h12' : ¬ ((b - a : Nat) : Int) ≤ 12 := by omega
  simp only [h12', decide_false, Eng.cond_false]
  unfold M.ba.j1
  simp only [e1, e5, e13, gg, te]
  by_cases hl0 : limit = 0
  ·have hl0' : (limit : Int) = 0 := by omega
   simp only [hl0', decide_true, Eng.cond_true]
   rw [M.ce.fcall]
   refine atn H1.row hn1 (by omega) hbn (by omega) fun w2 H2 => ?_
   have hi := heapSort_holds swo_ltInt d1 a b hab (by omega)
   obtain ⟨p1, p2⟩ := hfin _ hi.1 hi.2
   exact h w2 _ p1 p2 (H1.trans H2)
  have hl0' : ¬ (limit : Int) = 0 := by omega
  simp only [hl0', decide_false, Eng.cond_false]
  unfold M.ba.j2
  simp only [e12, e1, e5, e13, gg, bbp]
  cases wb with
  | true =>
   simp
   exact ase ih h6 hm hbb hbn hab hlim h12 hn1 hB1 hfin h e5 e8 e12 e13 m5 m13 H1 (permIn_refl d1 a b)
  | false =>
   simp
   rw [M.cp.fcall]
   refine bdu H1.row hn1 h6 hbn (by omega) fun w2 d2 P2 H2 => ?_
   have wl : IntKind.i64.wrap ((limit : Int) - 1) = ((limit - 1 : Nat) : Int) := by rw [gm (by omega) (by omega)]; omega
   simp only [wl]
   exact ase ih h6 hm hbb hbn hab (by omega) h12 hn1 hB1 hfin h e5 e8 e12 e13 m5 m13 (H1.trans H2) P2
theorem abk {w : World} {g cap n : Nat} {e : TypeId} {d : Array Int} (H : Rw w g e cap d) (hn : d.size = n) (h6 : n < 60000) {K : KV}
  (h : ∀ w', Rf w w' g e cap (d.toList.mergeSort fun x y => decide (x ≤ y)).toArray → K (.tuple #[]) w') : jr P F.fu [.slice (some ⟨g, 0, none⟩) n cap] w K := by
 apply M.dl.calls
 unfold M.dl
 have i64B : wz P T.b .i64 = true := by kernel_rfl
 have uB : wz P T.au .u64 = true := by kernel_rfl
 simp
 rw [nl i64B uB, abb (by omega), M.cv.fcall]
 refine alj (by omega) ?_
 rw [M.ba.fcall]
 have hlen : bitsLen n ≤ 16 := (bitsLen_le_iff n 16).2 (by omega)
 refine bjv n (a := 0) H hn h6 (by omega) (Nat.zero_le _) (Nat.le_refl _) (by omega) (.inl rfl) fun w' d' h1 h2 H' => ?_
 have hs : d'.toList = d.toList.mergeSort (fun x y => decide (x ≤ y)) := by
  have := sorted_unique_holds swo_ltInt (fun x y h1 h2 => by simp [ltInt] at h1 h2; omega) d d' (by rw [hn]; exact h1) (by rw [hn]; exact h2)
  rw [this]
  congr 1
  funext x y
  simp only [ltInt]
  by_cases hxy : x ≤ y
  ·simp [hxy]
  ·have : y < x := by omega
   simp [hxy, this]
 refine h w' ?_
 rw [← hs]
 exact H'
theorem zm {w : World} {K : KV} (h : K (.tuple #[]) w) : jr P F.fu [.slice none 0 0] w K := by
 apply M.dl.calls
 unfold M.dl
 have i64B : wz P T.b .i64 = true := by kernel_rfl
 have uB : wz P T.au .u64 = true := by kernel_rfl
 simp
 rw [nl i64B uB, show IntKind.u64.wrap 0 = ((0 : Nat) : Int) from by decide, M.cv.fcall]
 refine alj (by omega) ?_
 rw [M.ba.fcall]
 apply M.ba.calls
 unfold M.ba
 refine ⟨fun x w1 => gv x 5 = .int .i64 0 ∧ gv x 13 = .int .i64 0 ∧ w1 = w, fun _ _ => 0, ⟨rfl, rfl, rfl⟩, ?_⟩
 rintro x w1 ⟨e5, e13, rfl⟩
 unfold M.ba.j0
 have w0 : IntKind.i64.wrap 0 = 0 := by decide
 simp [e5, e13, w0]
 rw [M.cg.fcall]
 apply M.cg.calls
 unfold M.cg
 have w1' : IntKind.i64.wrap 1 = 1 := by decide
 simp [w1']
 refine ⟨fun x w2 => gv x 1 = .int .i64 1 ∧ w2 = w1, fun _ _ => 0, ⟨rfl, rfl⟩, ?_⟩
 rintro x w2 ⟨e1, rfl⟩
 unfold M.cg.j0
 simp [e1]
 exact h
end Go.Proofs.YtfnhoaemapheoaaGreat.SG
set_option maxRecDepth 100000
namespace Go.Proofs.YtfnhoaemapheoaaGreat.Sint
open Go.Eng Go.Sort
abbrev Rw (w : World) (g : Nat) (e : TypeId) (cap : Nat) (d : Array Int) : Prop := @SG.Rw seI w g e cap d
abbrev Rf (w w' : World) (g : Nat) (e : TypeId) (cap : Nat) (d : Array Int) : Prop := @SG.Rf seI w w' g e cap d
theorem apz {w w' : World} {g : Nat} {e : TypeId} {cap : Nat} {d : Array Int} (h : Rf w w' g e cap d) : Rw w' g e cap d := @SG.Rf.row seI _ _ _ _ _ _ h
theorem awm {w w' : World} {g : Nat} {e : TypeId} {cap : Nat} {d : Array Int} (h : Rf w w' g e cap d) : Fr (fun b => b = g) w w' := @SG.Rf.fr seI _ _ _ _ _ _ h
abbrev aix (x : Int) : Value := .int .i64 x
abbrev sj (x : Int) : List Value := [.int .i64 x]
abbrev OwN (w : World) (base : Nat) (v : Value) (l : List Int) : Prop := Ow w base T.b 1 sj v l
theorem bkq : awj P T.ac T.b aix sj 1 8 where
 et := et.ac
 by5 := by decide
 ld := fun b i w K => Eq.trans (by kernel_rfl) rfl
 st := fun b i a n c w K => Eq.trans (by kernel_rfl) rfl
 bs := fun x w K => Eq.trans (by kernel_rfl) rfl
 len := fun _ => rfl
 one := fun _ u hu => by simp at hu; subst hu; rfl
 ne := by decide
theorem ays {g : FuncId} {gn : Func} (hg : P.funcs[g]? = some gn) (hgn : (gn.name == "runtime.NumGoroutine") = false) (hgb : gn.body.isNone = false) {cap : List Value} {w : World} {Out : List Int → Prop} (hs : alw P g cap aix Out 60000 w) {K : KV}
  (h : ∀ w' v xs, Out xs → OwN w' w.heap.size v xs → Fr (fun _ => False) w w' → K v w') : jr P F.cy [.func (.func g) #[] cap.toArray] w K := by
 apply M.cm.calls
 unfold M.cm
 have hf : ∀ (args : List Value) (w : World) (K : KV), gb P F.ad args w K = jr P F.ad args w K := fun args w K => agh FN.ad.at (by kernel_rfl) (by kernel_rfl) args w K
 rw [hf]
 exact agk (tQ := T.bh) (bdq bkq) bkq.ld FN.ad.at (by kernel_rfl) (by kernel_rfl) (by kernel_rfl) hg hgn hgb hs h
theorem Ow.rw {w : World} {base g n cap : Nat} {l : List Int} (h : OwN w base (.slice (some ⟨g, 0, none⟩) n cap) l) : n = l.length ∧ base ≤ g ∧ cap ≤ maxLen ∧ Rw w g T.b cap l.toArray := by
 rcases h.2 with ⟨h0, _⟩ | ⟨g', cap', cur, hv, hb, hc, h1, h2, h3, h4⟩
 ·cases h0
 ·injection hv with q1 q2 q3
  injection q1 with q1
  injection q1 with q1
  subst q1 q2 q3
  refine ⟨rfl, hb, h2, cur, hc, by simpa using h3, by simpa using h1, fun j hj => ?_⟩
  show cur[j]? = some (.int .i64 l.toArray[j]!)
  have hj' : j < l.length := by simpa using hj
  have h5 : (cur.toList.take (l.length * 1))[j]? = (l.flatMap sj)[j]? := by rw [h4]
  rw [List.getElem?_take_of_lt (by omega)] at h5
  have h6 : (l.flatMap sj)[j]? = some (.int .i64 l[j]) := by
   have := yw (enc := sj) (sz := 1) (fun _ => rfl) l j l[j] 0 (.int .i64 l[j]) (List.getElem?_eq_getElem hj') rfl
   simpa using this
  rw [h6] at h5
  simpa [hj'] using h5
theorem zn : ∀ l : List Int, l.flatMap sj = l.map aix
 | [] => rfl
 | x :: l => by rw [List.flatMap_cons, zn l]; rfl
theorem axa {w : World} {base g cap : Nat} {l : List Int} (hb : base ≤ g) (hm : cap ≤ maxLen) (h : Rw w g T.b cap l.toArray) : OwN w base (.slice (some ⟨g, 0, none⟩) l.length cap) l := by
 obtain ⟨cur, h1, h2, h3, h4'⟩ := h
 have h4 : ∀ j, j < l.toArray.size → cur[j]? = some (.int .i64 l.toArray[j]!) := h4'
 refine ⟨by rw [zn]; simp, .inr ⟨g, cap, cur, rfl, hb, h1, by simpa using h3, hm, by simpa using h2, ?_⟩⟩
 rw [zn]
 apply List.ext_getElem?
 intro j
 by_cases hj : j < l.length
 ·rw [List.getElem?_take_of_lt (by omega)]
  have := h4 j (by simpa using hj)
  simp [hj] at this ⊢
  exact this
 ·rw [List.getElem?_take_eq_none (by omega), List.getElem?_eq_none (by simp; omega)]
theorem zm {w : World} {K : KV} (h : K (.tuple #[]) w) : jr P F.y [.slice none 0 0] w K := @SG.zm seI w K h
theorem abk {w : World} {g cap n : Nat} {e : TypeId} {d : Array Int} (H : Rw w g e cap d) (hn : d.size = n) (h6 : n < 60000) {K : KV}
  (h : ∀ w', Rf w w' g e cap (d.toList.mergeSort fun x y => decide (x ≤ y)).toArray → K (.tuple #[]) w') : jr P F.y [.slice (some ⟨g, 0, none⟩) n cap] w K := @SG.abk seI w g cap n e d H hn h6 K h
def oy (l : List Int) : List Int := l.mergeSort fun x y => decide (x ≤ y)
theorem nn (l : List Int) : (oy l).Perm l := List.mergeSort_perm ..
theorem yk {l l' : List Int} (h : l.Perm l') : oy l = oy l' := by
 unfold oy
 have hs : ∀ l : List Int, (l.mergeSort fun x y => decide (x ≤ y)).Pairwise fun a b => decide (a ≤ b) = true := fun l => List.pairwise_mergeSort (fun a b c h1 h2 => by simp at *; omega) (fun a b => by simp; omega) l
 exact List.Perm.eq_of_pairwise (fun a b _ _ h1 h2 => by simp at h1 h2; omega) (hs l) (hs l') (((List.mergeSort_perm ..).trans h).trans (List.mergeSort_perm ..).symm)
theorem bbo {g : FuncId} {gn : Func} (hg : P.funcs[g]? = some gn) (hgn : (gn.name == "runtime.NumGoroutine") = false) (hgb : gn.body.isNone = false) {cap : List Value} {w : World} {ks : List Int} (hk : ks.length < 60000) (hs : alw P g cap aix (fun xs => xs.Perm ks) 60000 w) {K : KV}
  (h : ∀ w' v, OwN w' w.heap.size v (oy ks) → Fr (fun _ => False) w w' → K v w') : jr P F.bv [.func (.func g) #[] cap.toArray] w K := by
 apply M.cr.calls
 unfold M.cr
 rw [M.cm.fcall]
 refine ays hg hgn hgb hs fun w1 v xs hx o1 f1 => ?_
 rw [M.en.fcall]
 have hlen := hx.length_eq
 rcases o1.2 with ⟨rfl, h0⟩ | ⟨g1, cap1, cur, rfl, hb1, _⟩
 ·refine zm ?_
  have hx0 : xs = [] := List.length_eq_zero_iff.1 h0
  have hk0 : ks = [] := List.length_eq_zero_iff.1 (by rw [← hlen, hx0]; rfl)
  refine h w1 _ ?_ f1
  subst hk0
  rw [show oy [] = [] from by simp [oy]]
  exact Ow.none
 ·obtain ⟨_, hbg, hcm, hrw⟩ := Ow.rw o1
  refine abk hrw (by simp) (by omega) fun w2 H2 => ?_
  have hp : oy xs = oy ks := yk hx
  have hl : (oy xs).length = xs.length := (nn xs).length_eq
  refine h w2 _ ?_ (f1.me (awm H2) fun b hb he => by omega)
  rw [← hp]
  have := axa (base := w.heap.size) (l := oy xs) hbg hcm (apz H2)
  rw [hl] at this
  exact this
end Go.Proofs.YtfnhoaemapheoaaGreat.Sint
set_option maxRecDepth 100000
namespace Go.Proofs.YtfnhoaemapheoaaGreat.KeyD
open Go.Eng Go.Sort Go.Proofs.YtfnhoaemapheoaaGreat.Sint
def KI (w W : World) (U : Nat → Prop) (r : Nat) (m : MP) (J : List Int → Asn) : KL := fun x w1 => ∃ (done : List Int) (U1 : Nat → Prop), x.length = 1 ∧ yx w1 W.heap.size r .i64 m done ∧ (J done.reverse).ok w1 U1 ∧ (∀ b, U1 b → w.heap.size ≤ b ∧ b < w1.heap.size ∧ b ≠ W.heap.size) ∧ Fr (fun b => w.heap.size ≤ b) W w1
theorem aeq {w : World} {it r : Nat} {k : IntKind} {m : MP} {done : List Int} (h : yx w it r k m done) : done.Nodup ∧ ∀ x ∈ done, x ∈ ke m := by
 obtain ⟨es, clk, since, c0, jd, _, _, _, _, _, _, _, _, _, h1, h2⟩ := h
 exact ⟨h1, h2⟩
theorem bde {w : World} {r Bm : Nat} {m : MP} {e : TypeId} (hm : pk w r .i64 m) (hn : (ke m).Nodup) (hB : w.heap[Bm]? = some (.cells #[.map (some r)] e (0, 0))) (hl : m.length < 60000) :
  alw P F.b [.pointer (some ⟨Bm, 0, none⟩)] aix (fun xs => xs.Perm (ke m)) 60000 w := by
 intro l J W U K hf hJ hU hround hend
 apply M.q.calls
 unfold M.q
 have hBm : W.heap[Bm]? = some (.cells #[.map (some r)] e (0, 0)) := hf.heap hB fun h => h
 have c0 := gj hBm 0
 simp only [List.size_toArray, List.getElem?_toArray, List.getElem?_cons_zero] at c0
 have hm' : pk W r .i64 m := hm.vh (hf.jy r hm.lt fun h => h)
 have hrw := hm.lt
 simp [c0]
 refine aza mt.n hm' fun w1 hi f1 => ?_
 have hWs := hf.size
 have hWlt := (hi.lt).1
 refine ⟨KI w W U r m J, fun _ w1 => wh w1 W.heap.size m.length, ⟨[], U, rfl, hi, (J []).jy hJ f1 fun _ _ h => h, fun b hb => ?_, f1.mono fun _ _ h => h.elim⟩, ?_⟩
 ·have := hU b hb
  have := f1.size
  exact ⟨by omega, by omega, by omega⟩
 rintro x w2 ⟨done, U1, hx1, hi2, hJ2, hU2, f2⟩
 unfold M.q.j0
 refine bce hi2 hn T.bi (fun hall => ?_) fun y v w3 hy hyd hc3 f3 hlt => ?_
 ·have e0 : ∀ w K, exT P (.tuple #[.bool false]) 0 w K = K (.bool false) w := fun _ _ => rfl
  simp [e0]
  obtain ⟨h1, h2⟩ := aeq hi2
  refine hend _ w2 done.reverse U1 ?_ hJ2 f2
  refine (List.reverse_perm done).trans ?_
  refine (List.perm_ext_iff_of_nodup h1 hn).2 fun z => ⟨h2 z, fun hz => ?_⟩
  obtain ⟨p, hp, rfl⟩ := List.mem_map.1 hz
  exact hall p hp
 ·simp
  rw [bcd hc3]
  simp
  have hnit : ∀ b, U1 b → ¬ b = W.heap.size := fun b hb => (hU2 b hb).2.2
  have hJ3 := (J done.reverse).jy hJ2 f3 hnit
  have hlen : done.length < m.length := by
   obtain ⟨h1, h2⟩ := aeq hi2
   have := uz (l := y :: done) (l' := ke m) (List.nodup_cons.2 ⟨hyd, h1⟩) fun z hz => by
    rcases List.mem_cons.1 hz with rfl | hz
    ·exact List.mem_map_of_mem hy
    ·exact h2 z hz
   simp only [ke, List.length_map, List.length_cons] at this
   omega
  have hs3 := f3.size
  refine hround done.reverse y w3 U1 _ hJ3 (fun b hb => ⟨(hU2 b hb).1, by have := (hU2 b hb).2.1; omega⟩) (by simp; omega) fun w4 U4 hJ4 hU4 f4 => ?_
  simp
  have hit : ¬ U1 W.heap.size := fun h => hnit _ h rfl
  have hr1 : ¬ U1 r := fun h => by have := (hU2 r h).1; omega
  have hi3 : yx w3 W.heap.size r .i64 m (y :: done) := hc3.1
  have hi4 := hi3.jy (f4.jy _ hi3.lt.1 hit) (f4.jy _ hi3.lt.2 hr1)
  refine ⟨⟨y :: done, U4, rfl, hi4, by simpa using hJ4, fun b hb => ?_, ?_⟩, ?_⟩
  ·rcases hU4 b hb with h | h
   ·have := hU2 b h
    have := f4.size
    exact ⟨by omega, by omega, by omega⟩
   ·have := hi3.lt.1
    have := f2.size
    exact ⟨by omega, by omega, by omega⟩
  ·refine (f2.me f3 fun b hb he => by omega).me f4 fun b hb he => (hU2 b he).1
  ·have : wh w4 W.heap.size m.length = wh w3 W.heap.size m.length := by
    unfold wh
    rw [f4.jy _ hi3.lt.1 hit]
   rw [this]; exact hlt
theorem bic {w : World} {r : Nat} {m : MP} (hm : pk w r .i64 m) (hn : (ke m).Nodup) (hl : m.length < 60000) {K : KV}
  (h : ∀ w' v, OwN w' w.heap.size v (oy (ke m)) → Fr (fun _ => False) w w' → K v w') :
  gb P F.ap [.map (some r)] w fun t w => gb P F.bv [t] w K := by
 rw [M.ae.fcall]
 apply M.ae.calls
 unfold M.ae
 rw [xc, aku]
 show gb P F.bv _ _ K
 rw [M.cr.fcall]
 have f1 : Fr (fun _ => False) w (w.alloc (.cells #[.map (some r)] T.n)) := (Fr.refl _ w).alloc _
 have hB : (w.alloc (.cells #[.map (some r)] T.n)).heap[w.heap.size]? = some (.cells #[.map (some r)] T.n (0, 0)) := by rw [ie, if_pos rfl]
 have hsz : w.heap.size ≤ (w.alloc (.cells #[.map (some r)] T.n)).heap.size := by simp
 refine bbo (ks := ke m) FN.b.at (by kernel_rfl) (by kernel_rfl) (by simpa [ke] using hl) (bde (hm.vh (f1.jy r hm.lt fun h => h)) hn hB hl) fun w2 v o2 f2 => ?_
 exact h w2 v (o2.mono hsz) (f1.trans f2)
end Go.Proofs.YtfnhoaemapheoaaGreat.KeyD
set_option maxRecDepth 100000
namespace Go.Proofs.YtfnhoaemapheoaaGreat
open Go.Eng Go.Proofs.YtfnhoaemapheoaaGreat.Sint
structure Fil where
 n : Int
 kc : List Int
 jc : List Int
structure Dk where
 ip : Int
 left : Int
 jk : Bool
 iu : Bool
 fs : List Fil
structure FE where
 n : Int
 p : Nat
 fv : Value
 lv : Value
 kc : List Int
 jc : List Int
def FE.abs (e : FE) : Fil := ⟨e.n, e.kc, e.jc⟩
def FE.ptr (e : FE) : Value := .pointer (some ⟨e.p, 0, none⟩)
def Fil.len (f : Fil) : Nat := f.kc.length + f.jc.length
def Dk.ij (D : Dk) : Nat := (D.fs.map Fil.len).sum
abbrev jq (v : Value) (l : List Int) : Asn := ni T.ak 1 aep v l
abbrev SlB (w : World) (v : Value) (l : List Int) : Prop := Sl w 1 aep v l
def bkw (e : FE) : List Asn := [gp e.p #[e.fv, e.lv] T.af, jq e.fv e.kc, jq e.lv e.jc]
def xo (e : FE) : Asn := pg (bkw e)
def aya (hb r : Nat) (D : Dk) : Asn := gp hb #[.int .i64 D.ip, .map (some r), .int .i64 D.left, .bool D.jk, .bool D.iu] T.ae
structure nu (m : MP) (es : List FE) (D : Dk) : Prop where
 fs : D.fs = es.map FE.abs
 ml : m.length = es.length
 mg : ∀ e ∈ es, lb m e.n = some e.ptr
 mz : ∀ k, (∀ e ∈ es, e.n ≠ k) → lb m k = none
 tn : (es.map FE.n).Nodup
 kp : (ke m).Perm (es.map FE.n)
 ip : D.ip ≤ 1048576
 ij : (D.ij : Int) ≤ D.ip
 rng : ∀ e ∈ es, 0 ≤ e.n ∧ e.n < 64
 arm : D.jk = true → 0 ≤ D.left ∧ D.left < 9223372036854775808
def ng (hb r : Nat) (m : MP) (es : List FE) (D : Dk) : List Asn := aya hb r D :: ji r .i64 m :: es.map xo
def ig (hb : Nat) (D : Dk) : Asn where
 ok w B := ∃ r m es, nu m es D ∧ Rs (ng hb r m es D) w B
 jy := by
  rintro w w' B S ⟨r, m, es, h1, h2⟩ hf hn
  exact ⟨r, m, es, h1, h2.jy hf hn⟩
section
variable {w0 w : World} {hb r : Nat} {m : MP} {es : List FE} {D : Dk} {R : List Asn} {e : FE}
theorem yp (S : St w0 w (ig hb D :: R)) : ∃ r m es, nu m es D ∧ St w0 w (ng hb r m es D ++ R) := by
 obtain ⟨B, ⟨r, m, es, h1, h2⟩, _, cl⟩ := S.open
 exact ⟨r, m, es, h1, cl w _ (Fr.refl _ _) (h2.mono fun b hb => .inl hb)⟩
theorem aao (h : nu m es D) (S : St w0 w (ng hb r m es D ++ R)) : St w0 w (ig hb D :: R) := by
 obtain ⟨U, h1, _, g⟩ := S.aaz
 exact g w [ig hb D] (Fr.refl _ _) ⟨U, ⟨r, m, es, h, h1⟩, fun b hb => .inl hb, trivial⟩
theorem ot (hb r : Nat) (m : MP) (a b : List FE) (e : FE) (D : Dk) (R : List Asn) : (ng hb r m (a ++ e :: b) D ++ R).Perm (xo e :: (ng hb r m (a ++ b) D ++ R)) := by
 unfold ng
 simp only [List.map_append, List.map_cons, List.cons_append, List.append_assoc]
 refine (List.Perm.cons _ (List.Perm.cons _ ?_)).trans ((List.Perm.cons _ (.swap _ _ _)).trans (.swap _ _ _))
 exact List.perm_middle
theorem xi (S : St w0 w (xo e :: R)) : St w0 w (gp e.p #[e.fv, e.lv] T.af :: jq e.fv e.kc :: jq e.lv e.jc :: R) := St.all.1 S
theorem arg (S : St w0 w (gp e.p #[e.fv, e.lv] T.af :: jq e.fv e.kc :: jq e.lv e.jc :: R)) : St w0 w (xo e :: R) := St.all.2 S
theorem tq (S : St w0 w (ng hb r m es D ++ R)) : w.heap[hb]? = some (.cells #[.int .i64 D.ip, .map (some r), .int .i64 D.left, .bool D.jk, .bool D.iu] T.ae (0, 0)) := St.blk S
theorem aev (S : St w0 w (ng hb r m es D ++ R)) : pk w r .i64 m ∧ (ke m).Nodup := by
 obtain ⟨B, h1, _⟩ := (St.swap S).open
 exact h1.1
theorem qe (h : w.heap[hb]? = some (.cells #[.int .i64 D.ip, .map (some r), .int .i64 D.left, .bool D.jk, .bool D.iu] T.ae (0, 0))) :
  gi w hb 0 = some (.int .i64 D.ip) ∧ gi w hb 1 = some (.map (some r)) ∧ gi w hb 2 = some (.int .i64 D.left) ∧ gi w hb 3 = some (.bool D.jk) ∧ gi w hb 4 = some (.bool D.iu) ∧ ∀ i, qh w hb i = false :=
 ⟨by rw [gj h]; rfl, by rw [gj h]; rfl, by rw [gj h]; rfl, by rw [gj h]; rfl, by rw [gj h]; rfl, nf h⟩
theorem nu.bje (h : nu m es D) (k : Int) : (lb m k = none ∧ ∀ e ∈ es, e.n ≠ k) ∨ ∃ a e b, es = a ++ e :: b ∧ e.n = k ∧ lb m k = some e.ptr := by
 by_cases hx : ∃ e ∈ es, e.n = k
 ·obtain ⟨e, he, rfl⟩ := hx
  obtain ⟨a, b, hab⟩ := List.append_of_mem he
  exact .inr ⟨a, e, b, hab, rfl, h.mg e he⟩
 ·exact .inl ⟨h.mz k fun e he hk => hx ⟨e, he, hk⟩, fun e he hk => hx ⟨e, he, hk⟩⟩
theorem ary (hh : w.heap[hb]? = some (.cells #[.int .i64 D.ip, .map (some r), .int .i64 D.left, .bool D.jk, .bool D.iu] T.ae (0, 0))) {K : KV} (h : K (.int .i64 (if D.iu then 10 else 0)) w) : gb P F.bn [.pointer (some ⟨hb, 0, none⟩)] w K := by
 rw [M.cx.fcall]
 apply M.cx.calls
 unfold M.cx
 obtain ⟨_, _, _, _, c4, _⟩ := qe hh
 cases hd : D.iu with
 | true => rw [hd] at h c4; simp [c4]; simpa using h
 | false => rw [hd] at h c4; simp [c4]; simpa using h
theorem ahr (hk : nu m es D) (S : St w0 w (ng hb r m es D ++ R)) (k : Int) {K : KV} (h0 : D.iu = true → K (.tuple #[.pointer none, .int .i64 10]) w) (h1 : D.iu = false → (∀ e ∈ es, e.n ≠ k) → K (.tuple #[.pointer none, .int .i64 11]) w)
  (h2 : D.iu = false → ∀ a e b, es = a ++ e :: b → e.n = k → K (.tuple #[e.ptr, .int .i64 0]) w) : gb P F.br [.pointer (some ⟨hb, 0, none⟩), .int .i64 k] w K := by
 rw [M.bx.fcall]
 apply M.bx.calls
 unfold M.bx
 rw [gg]
 refine ary (tq S) ?_
 obtain ⟨_, c1, _, _, c4, _⟩ := qe (tq S)
 cases hd : D.iu with
 | true => simp; exact h0 hd
 | false =>
  simp
  unfold M.bx.j0
  simp [c1]
  rw [aay mt.n (aev S).1]
  rcases hk.bje k with ⟨hn, hall⟩ | ⟨a, e, b, he, hek, hg⟩
  ·rw [hn]
   simp
   exact h1 hd hall
  ·rw [hg]
   simp [FE.ptr]
   exact h2 hd a e b he hek
theorem ari (S : St w0 w (xo e :: R)) (hl : e.kc.length + e.jc.length ≤ 10000000) {K : KV} (h : ∀ w' v, St w0 w' (jq v (e.kc ++ e.jc) :: xo e :: R) → K v w') : gb P F.cn [e.ptr] w K := by
 rw [M.dn.fcall]
 apply M.dn.calls
 unfold M.dn
 have hb := (xi S).blk
 have c0 : gi w e.p 0 = some e.fv := by rw [gj hb]; rfl
 have c1 : gi w e.p 1 = some e.lv := by rw [gj hb]; rfl
 have s1 : SlB w e.fv e.kc := (xi S).swap.row jj
 have s2 : SlB w e.lv e.jc := (xi S).abe.row jj
 obtain ⟨a1, k1, hv1, _⟩ := id s1
 obtain ⟨a2, k2, hv2, _⟩ := id s2
 rw [hv1] at c0
 rw [hv2] at c1
 simp [FE.ptr, c0, c1]
 rw [← hv1, ← hv2]
 have hcell : w.heap.size < (Eng.dr w 1).heap.size + 1 := by simp
 have hn : ((Eng.dr w 1).alloc (.cells #[e.fv, e.lv] T.f)).heap[w.heap.size]? = some (.cells (([(e.fv, e.kc), (e.lv, e.jc)] : List (Value × List Int)).map (·.1)).toArray T.f (0, 0)) := by
  rw [ie, if_pos (by simp)]; rfl
 have f1 : Fr (fun _ => False) w ((Eng.dr w 1).alloc (.cells #[e.fv, e.lv] T.f)) := ((Fr.refl _ w).dr 1).alloc _
 rw [M.j.fcall]
 refine CB.aab (L := [(e.fv, e.kc), (e.lv, e.jc)]) hn (fun p hp => ?_) (by simp [CB.tot]; omega) (by simp) fun w' v o f2 => ?_
 ·simp at hp
  rcases hp with rfl | rfl
  ·exact s1.fr f1 fun _ _ _ h => h
  ·exact s2.fr f1 fun _ _ _ h => h
 ·have hs : w.heap.size ≤ ((Eng.dr w 1).alloc (.cells #[e.fv, e.lv] T.f)).heap.size := f1.size
  refine h w' v (S.add (a := jq v (e.kc ++ e.jc)) (f1.trans f2) (B := fun b => v.ownBlock = some b) ⟨?_, fun b hb => hb⟩ fun b hb => ?_)
  ·simpa using o.mono (Nat.zero_le _)
  ·have := o.lt hb
   exact ⟨by omega, this.2⟩
end
set_option maxRecDepth 100000
open Go.Eng Go.Proofs.YtfnhoaemapheoaaGreat.Sint
def Dk.get (D : Dk) (k : Int) : Option Fil := D.fs.find? fun f => decide (f.n = k)
def Dk.qd (D : Dk) : List Int := D.fs.map Fil.n
def Dk.iw (D : Dk) : List Int := oy D.qd
abbrev rk (v : Value) (l : List Int) : Asn := ni T.b 1 sj v l
theorem vy (x : Int) : (sj x).length = 1 := rfl
section
variable {w0 w : World} {hb r : Nat} {m : MP} {es a b : List FE} {D : Dk} {R : List Asn} {e e' : FE}
theorem nu.qd (h : nu m es D) : D.qd = es.map FE.n := by
 unfold Dk.qd
 rw [h.fs, List.map_map]; rfl
theorem nu.nd (h : nu m es D) : (ke m).Nodup := h.kp.nodup_iff.2 h.tn
theorem nu.few (h : nu m es D) : es.length ≤ 64 := by
 have := uz (l := es.map FE.n) (l' := (List.range 64).map Int.ofNat) h.tn fun x hx => by
  obtain ⟨e, he, rfl⟩ := List.mem_map.1 hx
  have := h.rng e he
  exact List.mem_map.2 ⟨e.n.toNat, List.mem_range.2 (by omega), by simp; omega⟩
 simpa using this
theorem nu.vx (h : nu m (a ++ e :: b) D) : D.get e.n = some e.abs := by
 unfold Dk.get
 rw [h.fs]
 have hn := h.tn
 rw [List.map_append, List.map_cons, List.nodup_append] at hn
 rw [List.map_append, List.find?_append]
 have : (a.map FE.abs).find? (fun f => decide (f.n = e.n)) = none := by
  rw [List.find?_eq_none]
  intro f hf
  obtain ⟨x, hx, rfl⟩ := List.mem_map.1 hf
  have := hn.2.2 x.n (List.mem_map_of_mem hx) e.n (List.mem_cons_self ..)
  simp [FE.abs]
  exact decide_eq_false this
 rw [this]
 simp [FE.abs]
theorem nu.abv (h : nu m es D) {k : Int} (hk : ∀ e ∈ es, e.n ≠ k) : D.get k = none := by
 unfold Dk.get
 rw [h.fs, List.find?_eq_none]
 intro f hf
 obtain ⟨x, hx, rfl⟩ := List.mem_map.1 hf
 simp [FE.abs]
 exact decide_eq_false (hk x hx)
theorem bbv (S : St w0 w (ng hb r m (a ++ e :: b) D ++ R)) : w.heap[e.p]? = some (.cells #[e.fv, e.lv] T.af (0, 0)) ∧ SlB w e.fv e.kc ∧ SlB w e.lv e.jc := by
 have S' := xi (S.perm (ot hb r m a b e D R))
 exact ⟨S'.blk, S'.swap.row jj, S'.abe.row jj⟩
theorem avl (S : St w0 w R) (ip : Int) {K : KV} (h0 : (ip < 1 ∨ 1048576 < ip) → K (.tuple #[.pointer none, .int .i64 1]) w)
  (h1 : 1 ≤ ip → ip ≤ 1048576 → ∀ w' hb, St w0 w' (ig hb ⟨ip, 0, false, false, []⟩ :: R) → K (.tuple #[.pointer (some ⟨hb, 0, none⟩), .int .i64 0]) w') : gb P F.et [.int .i64 ip] w K := by
 rw [M.ek.fcall]
 apply M.ek.calls
 unfold M.ek
 by_cases hx : ip < 1
 ·simp [hx]; exact h0 (.inl hx)
 by_cases hy : 1048576 < ip
 ·simp [hx, hy]; exact h0 (.inr hy)
 simp [hx, hy]
 rw [ajg]
 simp
 have hm := agb w .i64
 refine h1 (by omega) (by omega) _ (w.heap.size + 1) (aao (m := []) (es := []) (r := w.heap.size) ⟨rfl, rfl, fun e he => by (cases he), fun _ _ => rfl, by simp, by simp [ke], by (show ip ≤ 1048576; omega), by (show ((0 : Nat) : Int) ≤ ip; omega), fun e he => by (cases he), fun h => by (cases h)⟩ ?_)
 have f : Fr (fun _ => False) w ((w.alloc (.map #[] 0)).alloc (.cells #[.int .i64 ip, .map (some w.heap.size), .int .i64 0, .bool false, .bool false] T.ae)) := ((Fr.refl _ w).alloc _).alloc _
 obtain ⟨U, _, _, g⟩ := S.aaz (L := [])
 refine g _ (ng (w.heap.size + 1) w.heap.size [] [] ⟨ip, 0, false, false, []⟩) (f.mono fun _ _ h => h.elim) ⟨fun b => b = w.heap.size + 1, ⟨?_, rfl⟩, fun b hb => .inr (by simp at hb ⊢; omega), fun b => b = w.heap.size, ⟨⟨hm.vh (by rw [ie, if_neg (by simp)]), by simp [ke]⟩, rfl⟩, fun b hb => ⟨.inr (by simp at hb ⊢; omega), by simp at hb ⊢; omega⟩, trivial⟩
 rw [ie, if_pos (by simp)]
theorem ajc (hk : nu m es D) (S : St w0 w (ng hb r m es D ++ R)) {K : KV} (h : ∀ w' v, St w0 w' (rk v D.iw :: (ng hb r m es D ++ R)) → K v w') : gb P F.bm [.pointer (some ⟨hb, 0, none⟩)] w K := by
 rw [M.cw.fcall]
 apply M.cw.calls
 unfold M.cw
 obtain ⟨_, c1, _⟩ := qe (tq S)
 simp [c1]
 have hf := hk.few
 refine KeyD.bic (aev S).1 hk.nd (by rw [hk.ml]; omega) fun w' v o f => ?_
 have hd : oy (ke m) = D.iw := by
  unfold Dk.iw
  rw [hk.qd]
  exact yk hk.kp
 rw [hd] at o
 refine h w' v (S.add (a := rk v D.iw) f (B := fun b => v.ownBlock = some b) ⟨o.mono (Nat.zero_le _), fun b hb => hb⟩ fun b hb => ⟨(o.lt hb).1, (o.lt hb).2⟩)
def lenOf (D : Dk) (k : Int) : Nat := ((D.get k).map Fil.len).getD 0
theorem bdj {l l' : List Nat} (h : l.Perm l') : l.sum = l'.sum := by
 induction h with
 | nil => rfl
 | cons x _ ih => simp [ih]
 | swap x y l => simp; omega
 | trans _ _ h1 h2 => exact h1.trans h2
theorem bdw (hk : nu m es D) : (D.iw.map (lenOf D)).sum = D.ij := by
 have h1 : (D.iw.map (lenOf D)).Perm (D.qd.map (lenOf D)) := (nn _).map _
 rw [bdj h1]
 unfold Dk.ij Dk.qd
 rw [List.map_map]
 congr 1
 apply List.map_congr_left
 intro f hf
 rw [hk.fs] at hf
 obtain ⟨x, hx, rfl⟩ := List.mem_map.1 hf
 obtain ⟨a, b, hab⟩ := List.append_of_mem hx
 subst hab
 show lenOf D x.n = x.abs.len
 unfold lenOf
 rw [hk.vx]; rfl
theorem aef {l : List Nat} {x : Nat} (h : x ∈ l) : x ≤ l.sum := by
 induction l with
 | nil => cases h
 | cons y l ih =>
  rcases List.mem_cons.1 h with rfl | h
  ·simp
  ·have := ih h; simp; omega
def acw (D : Dk) (i : Nat) : Nat := ((D.iw.take i).map (lenOf D)).sum
def UsI (w0 : World) (hb r : Nat) (m : MP) (es : List FE) (D : Dk) (R : List Asn) (v : Value) : KL := fun x w1 => ∃ (u : Value) (i : Nat), x = [u, .int .i64 (acw D i : Nat), .int .i64 (i : Nat)] ∧ i ≤ D.iw.length ∧ St w0 w1 (rk v D.iw :: (ng hb r m es D ++ R))
theorem bib (hk : nu m es D) (S : St w0 w (ng hb r m es D ++ R)) {K : KV} (h : ∀ w', St w0 w' (ng hb r m es D ++ R) → K (.int .i64 (D.ij : Nat)) w') : gb P F.ea [.pointer (some ⟨hb, 0, none⟩)] w K := by
 rw [M.ca.fcall]
 apply M.ca.calls
 unfold M.ca
 rw [gg]
 refine ajc hk S fun w1 v S1 => ?_
 have hsl : ∀ {w}, St w0 w (rk v D.iw :: (ng hb r m es D ++ R)) → Sl w 1 sj v D.iw := fun S => S.row vy
 rw [(hsl S1).im (by simp)]
 refine ⟨UsI w0 hb r m es D R v, fun x _ => D.iw.length - ms x 2, ⟨_, 0, rfl, Nat.zero_le _, S1⟩, ?_⟩
 rintro x w2 ⟨u, i, rfl, hi, S2⟩
 have q0 : ∀ a b c : Value, gv [a, b, c] 0 = a := fun _ _ _ => rfl
 have q1 : ∀ a b c : Value, gv [a, b, c] 1 = b := fun _ _ _ => rfl
 have q2 : ∀ a b c : Value, gv [a, b, c] 2 = c := fun _ _ _ => rfl
 have q4 : ∀ a b c d e : Value, gv [a, b, c, d, e] 4 = e := fun _ _ _ _ _ => rfl
 have hus := bdw hk
 have hu := hk.ij
 have hr := hk.ip
 have hfl : D.iw.length = es.length := by unfold Dk.iw; rw [(nn _).length_eq, hk.qd, List.length_map]
 have hfew := hk.few
 simp only [q0, q1, q2, km, gg]
 by_cases hil : i < D.iw.length
 ·have hil' : (i : Int) < D.iw.length := by omega
  simp only [hil', decide_true, Eng.cond_true]
  unfold M.ca.j2
  obtain ⟨bb, o, cap, hv, hbb, _, hc⟩ := (hsl S2).at hil
  have c0 := hc 0 _ rfl
  simp only [Nat.mul_one, Nat.add_zero] at c0
  have hmem : D.iw[i] ∈ D.iw := List.getElem_mem hil
  have htk : acw D (i + 1) = acw D i + lenOf D D.iw[i] := by
   unfold acw
   rw [List.take_succ_eq_append_getElem hil, List.map_append, List.sum_append]; simp
  have htot : acw D (i + 1) ≤ D.ij := by
   rw [← hus]
   unfold acw
   conv => rhs; rw [← List.take_append_drop (i + 1) D.iw, List.map_append, List.sum_append]
   omega
  generalize hki : D.iw[i] = k at *
  have hmem' : k ∈ es.map FE.n := by
   rw [← hk.qd]; exact (nn _).mem_iff.1 hmem
  obtain ⟨e, he, hek⟩ := List.mem_map.1 hmem'
  obtain ⟨a, b, hab⟩ := List.append_of_mem he
  subst hab
  obtain ⟨hbk, s1, s2⟩ := bbv (a := a) (e := e) (b := b) S2.drop
  obtain ⟨_, c1, _⟩ := qe (tq S2.drop)
  have hg := hk.mg e (by simp)
  have d0 : gi w2 e.p 0 = some e.fv := by rw [gj hbk]; rfl
  have d1 : gi w2 e.p 1 = some e.lv := by rw [gj hbk]; rfl
  obtain ⟨a1, k1, hv1, _⟩ := s1
  obtain ⟨a2, k2, hv2, _⟩ := s2
  rw [hv1] at d0
  rw [hv2] at d1
  have hlu : ∀ K, luT P T.n (.map (some r)) (.int .i64 k) false (Eng.dr w2 1) K = K (.pointer (some ⟨e.p, 0, none⟩)) (Eng.dr w2 1) := fun K => by
   rw [aay mt.n (pk.vh (w' := Eng.dr w2 1) (aev S2.drop).1 rfl), ← hek, hg]; rfl
  have hlen : lenOf D k = e.kc.length + e.jc.length := by
   unfold lenOf
   rw [← hek, hk.vx]; rfl
  have hw1 : IntKind.i64.wrap ((e.kc.length : Int) + (e.jc.length : Int)) = ((e.kc.length + e.jc.length : Nat) : Int) := by rw [gm (by omega) (by omega)]; omega
  have hw2 : IntKind.i64.wrap ((acw D i : Int) + ((e.kc.length + e.jc.length : Nat) : Int)) = ((acw D (i + 1) : Nat) : Int) := by
   rw [gm (by omega) (by omega)]; omega
  have hwi : IntKind.i64.wrap ((i : Int) + 1) = ((i + 1 : Nat) : Int) := by rw [gm (by omega) (by omega)]; rfl
  rw [hv]
  simp [q0, q1, q2, hil, c0, c1, hlu, d0, d1, hw1, hw2, hwi, -Int.natCast_add]
  rw [← hv]
  refine ⟨⟨_, i + 1, rfl, by omega, S2.jg ((Fr.refl _ w2).dr 1)⟩, ?_⟩
  simp only [ms, q2]
  simp; omega
 ·have hil' : ¬ (i : Int) < D.iw.length := by omega
  simp only [hil', decide_false, Eng.cond_false, q4]
  have : acw D i = D.ij := by
   unfold acw
   rw [List.take_of_length_le (by omega), hus]
  rw [this]
  exact h w2 S2.drop
theorem bcu (S : St w0 w (ng hb r m es D ++ R)) {K : KV} (h : K (.bool D.iu) w) : gb P F.bq [.pointer (some ⟨hb, 0, none⟩)] w K := by
 rw [M.da.fcall]
 apply M.da.calls
 unfold M.da
 obtain ⟨_, _, _, _, c4, _⟩ := qe (tq S)
 simp [c4]
 exact h
def Dk.lg (D : Dk) (k : Int) : List Int × Int := if D.iu then ([], 10) else match D.get k with
 | none => ([], 11)
 | some f => (f.kc ++ f.jc, 0)
theorem xj (hk : nu m (a ++ e :: b) D) : e.kc.length + e.jc.length ≤ D.ij := by
 have : e.abs.len ∈ D.fs.map Fil.len := by
  rw [hk.fs]
  exact List.mem_map_of_mem (List.mem_map_of_mem (by simp))
 exact aef this
theorem bhq (hk : nu m es D) (S : St w0 w (ng hb r m es D ++ R)) (k : Int) {K : KV} (h : ∀ w' v, St w0 w' (jq v (D.lg k).1 :: (ng hb r m es D ++ R)) → K (.tuple #[v, .int .i64 (D.lg k).2]) w') : gb P F.cx [.pointer (some ⟨hb, 0, none⟩), .int .i64 k] w K := by
 rw [M.dc.fcall]
 apply M.dc.calls
 unfold M.dc
 unfold Dk.lg at h
 have Snil : St w0 w (jq (.slice none 0 0) [] :: (ng hb r m es D ++ R)) := S.add (a := jq (.slice none 0 0) []) (Fr.refl _ w) (B := fun _ => False) ⟨Ow.none, fun b hb => by simp [Value.ownBlock] at hb⟩ fun b hb => hb.elim
 refine ahr hk S k (fun hd => ?_) (fun hd hn => ?_) fun hd a e b he hek => ?_
 ·simp [hd] at h ⊢
  exact h w _ Snil
 ·rw [hk.abv hn] at h
  simp [hd] at h ⊢
  exact h w _ Snil
 ·subst he
  have hl := xj hk
  have hu := hk.ij
  have hr := hk.ip
  rw [← hek, hk.vx] at h
  simp [hd] at h ⊢
  refine ari (S.perm (ot hb r m a b e D R)) (by omega) fun w' v S' => ?_
  exact h w' v (S'.tail (ot hb r m a b e D R).symm)
end
set_option maxRecDepth 100000
open Go.Eng Go.Proofs.YtfnhoaemapheoaaGreat.Sint
def Dk.nr (D : Dk) (k : Int) (fa lo : List Int) : Dk := { D with fs := D.fs.map fun f => if f.n = k then ⟨k, fa, lo⟩ else f }
def Dk.rem (D : Dk) (k : Int) : Dk := { D with fs := D.fs.filter fun f => decide (f.n ≠ k) }
section
variable {w0 w : World} {hb r : Nat} {m : MP} {es a b : List FE} {D : Dk} {R : List Asn} {e e' : FE}
theorem nu.aop (h : nu m (a ++ e :: b) D) : ∀ x, x ∈ a ∨ x ∈ b → x.n ≠ e.n := by
 have hn := h.tn
 rw [List.map_append, List.map_cons, List.nodup_append, List.nodup_cons] at hn
 rintro x (hx | hx) he
 ·exact hn.2.2 x.n (List.mem_map_of_mem hx) e.n (List.mem_cons_self ..) he
 ·exact hn.2.1.1 (he ▸ List.mem_map_of_mem hx)
theorem avf (h : nu m (a ++ e :: b) D) (fa lo : List Int) : (D.nr e.n fa lo).fs = a.map FE.abs ++ ⟨e.n, fa, lo⟩ :: b.map FE.abs := by
 unfold Dk.nr
 simp only [h.fs, List.map_append, List.map_cons, List.map_map]
 have hx : ∀ x : FE, x ∈ a ∨ x ∈ b → ((fun f : Fil => if f.n = e.n then (⟨e.n, fa, lo⟩ : Fil) else f) ∘ FE.abs) x = x.abs := fun x hx => by
  show (if x.n = e.n then _ else x.abs) = _
  rw [if_neg (h.aop x hx)]
 rw [List.map_congr_left fun x hxa => hx x (.inl hxa), List.map_congr_left (l := b) fun x hxb => hx x (.inr hxb)]
 simp [FE.abs]
theorem acn (h : nu m (a ++ e :: b) D) (fa lo : List Int) : (D.nr e.n fa lo).ij + (e.kc.length + e.jc.length) = D.ij + (fa.length + lo.length) := by
 unfold Dk.ij
 rw [avf h, h.fs]
 simp [FE.abs, Fil.len]
 omega
theorem nu.nr (h : nu m (a ++ e :: b) D) (hn : e'.n = e.n) (hp : e'.p = e.p) (hu : ((D.nr e.n e'.kc e'.jc).ij : Int) ≤ D.ip) : nu m (a ++ e' :: b) (D.nr e.n e'.kc e'.jc) where
 fs := by rw [avf h, ← hn]; simp [FE.abs]
 ml := by rw [h.ml]; simp
 mg x hx := by
  rcases List.mem_append.1 hx with hx | hx
  ·exact h.mg x (by simp [hx])
  ·rcases List.mem_cons.1 hx with rfl | hx
   ·rw [hn, h.mg e (by simp)]; simp [FE.ptr, hp]
   ·exact h.mg x (by simp [hx])
 mz k hk := h.mz k fun x hx => by
  rcases List.mem_append.1 hx with hx | hx
  ·exact hk x (by simp [hx])
  ·rcases List.mem_cons.1 hx with rfl | hx
   ·rw [← hn]; exact hk e' (by simp)
   ·exact hk x (by simp [hx])
 tn := by have := h.tn; simp only [List.map_append, List.map_cons] at *; rw [hn]; exact this
 kp := by have := h.kp; simp only [List.map_append, List.map_cons] at *; rw [hn]; exact this
 ip := h.ip
 ij := hu
 rng x hx := by
  rcases List.mem_append.1 hx with hx | hx
  ·exact h.rng x (by simp [hx])
  ·rcases List.mem_cons.1 hx with rfl | hx
   ·rw [hn]; exact h.rng e (by simp)
   ·exact h.rng x (by simp [hx])
 arm := h.arm
theorem nu.rem (h : nu m (a ++ e :: b) D) : nu (xr m e.n) (a ++ b) (D.rem e.n) where
 fs := by
  unfold Dk.rem
  simp only [h.fs, List.map_append, List.map_cons, List.filter_append]
  have hx : ∀ l : List FE, (∀ x ∈ l, x.n ≠ e.n) → (l.map FE.abs).filter (fun f => decide (f.n ≠ e.n)) = l.map FE.abs := fun l hl => List.filter_eq_self.2 fun f hf => by
   obtain ⟨x, hx, rfl⟩ := List.mem_map.1 hf
   exact decide_eq_true (hl x hx)
  rw [List.filter_cons, hx a fun x h' => h.aop x (.inl h'), hx b fun x h' => h.aop x (.inr h')]
  simp [FE.abs]
 ml := by
  have h1 := abc m e.n
  have h2 : (ke (xr m e.n)).length = (ke m).length - 1 := by
   rw [h1, List.length_erase_of_mem]
   exact h.kp.mem_iff.2 (List.mem_map_of_mem (by simp))
  simp only [ke, List.length_map] at h2
  rw [h2, h.ml]
  simp
 mg x hx := by
  rw [agl _ _ _ fun he => h.aop x (List.mem_append.1 hx) he.symm]
  exact h.mg x (by rcases List.mem_append.1 hx with h | h <;> simp [h])
 mz k hk := by
  by_cases hek : e.n = k
  ·subst hek; exact ald _ _ h.nd
  ·rw [agl _ _ _ hek]
   refine h.mz k fun x hx => ?_
   rcases List.mem_append.1 hx with hx | hx
   ·exact hk x (by simp [hx])
   ·rcases List.mem_cons.1 hx with rfl | hx
    ·exact hek
    ·exact hk x (by simp [hx])
 tn := by
  have := h.tn
  rw [(List.Perm.map FE.n (List.perm_middle (l₁ := a) (a := e) (l₂ := b))).nodup_iff] at this
  exact (List.nodup_cons.1 this).2
 kp := by
  rw [abc]
  have h1 := (h.kp.trans (List.Perm.map FE.n (List.perm_middle (l₁ := a) (a := e) (l₂ := b)))).erase e.n
  rw [List.map_cons, List.erase_cons_head] at h1
  exact h1
 ip := h.ip
 ij := by
  have h1 := h.ij
  have h2 : (D.rem e.n).ij ≤ D.ij := by
   unfold Dk.rem Dk.ij
   have : ∀ l : List Fil, ((l.filter fun f => decide (f.n ≠ e.n)).map Fil.len).sum ≤ (l.map Fil.len).sum := fun l => by
    induction l with
    | nil => simp
    | cons f l ih =>
     rw [List.filter_cons]
     split
     ·rw [List.map_cons, List.map_cons, List.sum_cons, List.sum_cons]; omega
     ·rw [List.map_cons, List.sum_cons]; omega
   exact this D.fs
  show ((D.rem e.n).ij : Int) ≤ D.ip
  omega
 rng x hx := h.rng x (by rcases List.mem_append.1 hx with h | h <;> simp [h])
 arm := h.arm
theorem qz (S : St w0 w R) : St w0 w (jq (.slice none 0 0) [] :: R) := S.add (a := jq (.slice none 0 0) []) (Fr.refl _ w) (B := fun _ => False) ⟨Ow.none, fun b hb => by simp [Value.ownBlock] at hb⟩ fun b hb => hb.elim
theorem alq {v : Value} {l : List Int} (S : St w0 w (jq v l :: xo e :: R)) : St w0 ((w.setCell ⟨e.p, 0, none⟩ v).setCell ⟨e.p, 1, none⟩ (.slice none 0 0)) (xo { e with fv := v, lv := .slice none 0 0, kc := l, jc := [] } :: R) := by
 have S1 := xi S.swap
 have S2 : St w0 w (gp e.p #[e.fv, e.lv] T.af :: jq v l :: R) := (S1.swap.drop.swap.drop : St w0 w _)
 have hh := S2.blk
 have S3 := S2.ly (cs' := #[v, .slice none 0 0]) (e' := T.af) (w' := (w.setCell ⟨e.p, 0, none⟩ v).setCell ⟨e.p, 1, none⟩ (.slice none 0 0)) (((Fr.refl (fun x => x = e.p) w).setCell (.inl rfl) _ _).setCell (.inl rfl) _ _) (by rw [mq (mq hh)]; rfl)
 exact arg (e := { e with fv := v, lv := .slice none 0 0, kc := l, jc := [] }) ((qz S3).perm ((List.Perm.swap _ _ _).trans (List.Perm.cons _ (List.Perm.swap _ _ _))))
theorem Ow.take {α : Type} {enc : α → List Value} {base : Nat} {et : TypeId} {v : Value} {l : List α} {t : TypeId} (he : ∀ x, (enc x).length = 1) (h : Ow w base et 1 enc v l) (ht : nc P t = true) (hz : szE P t = 1) {n : Nat} (hn : n ≤ l.length) {k : IntKind} :
  ∃ v', Ow w base et 1 enc v' (l.take n) ∧ (∀ g, v'.ownBlock = some g → v.ownBlock = some g) ∧ ∀ w1 K, slT P t v none (some (.int k (n : Int))) none w1 K = K v' w1 := by
 have h' := h
 obtain ⟨h1, h2⟩ := h
 have hlen : (l.take n).length = n := by rw [List.length_take]; omega
 have hfl : (l.take n).flatMap enc = (l.flatMap enc).take (n * 1) := by
  clear h' h1 h2 hlen
  induction l generalizing n with
  | nil => simp
  | cons x l ih =>
   cases n with
   | zero => simp
   | succ n =>
    have := ih (n := n) (by simpa using hn)
    rw [List.take_succ_cons, List.flatMap_cons, this, List.flatMap_cons, List.take_append, he]
    have hx := he x
    have e : (n + 1) * 1 - 1 = n * 1 := by omega
    rw [e, List.take_of_length_le (l := enc x) (by rw [hx]; omega)]
 rcases h2 with ⟨rfl, h0⟩ | ⟨g, cap, cur, rfl, hb0, hb, hc, hr⟩
 ·have : n = 0 := by omega
  subst this
  refine ⟨.slice none 0 0, ?_, fun g hg => hg, fun w1 K => by rw [yo ht (.inl ⟨rfl, rfl⟩) (.inr ⟨k, rfl⟩) (Nat.le_refl _) (Nat.le_refl _)]; simp⟩
  rw [List.take_zero]; exact Ow.none
 ·refine ⟨.slice (some ⟨g, 0, none⟩) n cap, ?_, fun g hg => hg, fun w1 K => ?_⟩
  ·unfold Ow
   rw [hlen, hfl]
   exact bgb h' hn
  ·rw [yo ht (.inl ⟨rfl, rfl⟩) (.inr ⟨k, rfl⟩) (Nat.zero_le _) (by omega)]
   simp [Addr.add]
theorem bkp {v : Value} {l : List Int} (S : St w0 w (jq v l :: R)) {n : Nat} (hn : n ≤ l.length) : ∃ v', (∀ w1 K, slT P T.f v none (some (.int .i64 (n : Int))) none w1 K = K v' w1) ∧ St w0 w (jq v' (l.take n) :: R) := by
 obtain ⟨B, ⟨h1, h2⟩, hB, cl⟩ := S.open
 obtain ⟨v', o, g, f⟩ := Ow.take jj h1 (t := T.f) (by kernel_rfl) (by kernel_rfl) hn (k := .i64)
 exact ⟨v', f, cl w [jq v' (l.take n)] (Fr.refl _ _) (Rs.one (B := B) ⟨o, fun b hb => h2 b (g b hb)⟩ fun b hb => .inl hb)⟩
def Dk.my (D : Dk) (k : Int) : Dk × Int := if D.iu then (D, 10) else match D.get k with
 | none => (D, 11)
 | some f => (D.nr k (f.kc ++ f.jc) [], 0)
def Dk.cut (D : Dk) (k n : Int) : Dk × Int := if D.iu then (D, 10) else match D.get k with
 | none => (D, 11)
 | some f => if n < 0 ∨ (f.kc.length + f.jc.length : Nat) < n then (D, 1) else (D.nr k ((f.kc ++ f.jc).take n.toNat) [], 0)
def Dk.adq (D : Dk) (k : Int) : Dk × Int := if D.iu then (D, 10) else match D.get k with
 | none => (D, 11)
 | some _ => (D.rem k, 0)
theorem adu (S : St w0 w (gp e.p #[e.fv, e.lv] T.af :: R)) : gi w e.p 0 = some e.fv ∧ gi w e.p 1 = some e.lv ∧ ∀ i, qh w e.p i = false := by
 have hh := S.blk
 exact ⟨by rw [gj hh]; rfl, by rw [gj hh]; rfl, nf hh⟩
theorem auy (S : St w0 w (ig hb D :: R)) (k : Int) {K : KV} (h : ∀ w', St w0 w' (ig hb (D.my k).1 :: R) → K (.int .i64 (D.my k).2) w') : gb P F.cw [.pointer (some ⟨hb, 0, none⟩), .int .i64 k] w K := by
 obtain ⟨r, m, es, hk, S'⟩ := yp S
 rw [M.db.fcall]
 apply M.db.calls
 unfold M.db
 unfold Dk.my at h
 refine ahr hk S' k (fun hd => ?_) (fun hd hn => ?_) fun hd a e b he hek => ?_
 ·simp [hd] at h ⊢
  exact h w S
 ·rw [hk.abv hn] at h
  simp [hd] at h ⊢
  exact h w S
 ·subst he
  have hl := xj hk
  have hu := hk.ij
  have hr := hk.ip
  rw [← hek, hk.vx] at h
  simp [hd, FE.abs] at h ⊢
  refine ari (S'.perm (ot hb r m a b e D R)) (by omega) fun w' v S2 => ?_
  have S3 := alq S2
  obtain ⟨x1, x2, hv, _⟩ := S2.row jj
  generalize (e.kc ++ e.jc).length = L at hv
  subst hv
  obtain ⟨c0, c1, fz⟩ := adu (xi S2.swap)
  simp [FE.ptr, c0, c1, fz, jo, ju]
  refine h _ (aao (m := m) (r := r) (es := a ++ { e with fv := .slice x1 L x2, lv := .slice none 0 0, kc := e.kc ++ e.jc, jc := [] } :: b) (hk.nr (e' := { e with fv := .slice x1 L x2, lv := .slice none 0 0, kc := e.kc ++ e.jc, jc := [] }) rfl rfl ?_) (S3.perm (ot hb r m a b _ _ R).symm))
  have := acn hk (e.kc ++ e.jc) []
  simp at this ⊢
  omega
theorem bju (S : St w0 w (ig hb D :: R)) (k n : Int) {K : KV} (h : ∀ w', St w0 w' (ig hb (D.cut k n).1 :: R) → K (.int .i64 (D.cut k n).2) w') : gb P F.ee [.pointer (some ⟨hb, 0, none⟩), .int .i64 k, .int .i64 n] w K := by
 obtain ⟨r, m, es, hk, S'⟩ := yp S
 rw [M.bg.fcall]
 apply M.bg.calls
 unfold M.bg
 unfold Dk.cut at h
 refine ahr hk S' k (fun hd => ?_) (fun hd hn => ?_) fun hd a e b he hek => ?_
 ·simp [hd] at h ⊢
  exact h w S
 ·rw [hk.abv hn] at h
  simp [hd] at h ⊢
  exact h w S
 ·subst he
  have hl := xj hk
  have hu := hk.ij
  have hr := hk.ip
  rw [← hek, hk.vx] at h
  simp [hd, FE.abs] at h ⊢
  unfold M.bg.j0
  refine ari (S'.perm (ot hb r m a b e D R)) (by omega) fun w' v S2 => ?_
  have hlen := fun K => (S2.row jj).im (P := P) (t := T.f) (ty := T.b) (w := w') (by kernel_rfl) [false] (K := K)
  have hback : St w0 w' (ig hb D :: R) := aao hk (S2.drop.perm (ot hb r m a b e D R).symm)
  by_cases h0 : n < 0
  ·simp [h0] at h ⊢
   exact h w' hback
  ·by_cases h1 : ((e.kc.length : Int) + e.jc.length) < n
   ·simp [h0, h1, hlen] at h ⊢
    exact h w' hback
   ·simp [h0, h1, hlen] at h ⊢
    unfold M.bg.j1
    obtain ⟨v', hs, S3⟩ := bkp (n := n.toNat) S2 (by simp; omega)
    have hn : ((n.toNat : Nat) : Int) = n := by omega
    rw [hn] at hs
    rw [hs]
    have S4 := alq S3
    obtain ⟨x1, x2, hv, _⟩ := S3.row jj
    generalize (List.take n.toNat (e.kc ++ e.jc)).length = L at hv
    subst hv
    obtain ⟨c0, c1, fz⟩ := adu (xi S3.swap)
    simp [FE.ptr, c0, c1, fz, jo, ju]
    refine h _ (aao (m := m) (r := r) (es := a ++ { e with fv := .slice x1 L x2, lv := .slice none 0 0, kc := (e.kc ++ e.jc).take n.toNat, jc := [] } :: b) ?_ (S4.perm (ot hb r m a b _ _ R).symm))
    have := acn hk ((e.kc ++ e.jc).take n.toNat) []
    simp [List.take_append] at this ⊢
    have hh := hk.nr (e' := { e with fv := .slice x1 L x2, lv := .slice none 0 0, kc := (e.kc ++ e.jc).take n.toNat, jc := [] }) rfl rfl (by
     simp [List.take_append]
     omega)
    simpa [List.take_append] using hh
theorem bbe (S : St w0 w (ig hb D :: R)) (k : Int) {K : KV} (h : ∀ w', St w0 w' (ig hb (D.adq k).1 :: R) → K (.int .i64 (D.adq k).2) w') : gb P F.df [.pointer (some ⟨hb, 0, none⟩), .int .i64 k] w K := by
 obtain ⟨r, m, es, hk, S'⟩ := yp S
 rw [M.cs.fcall]
 apply M.cs.calls
 unfold M.cs
 unfold Dk.adq at h
 refine ahr hk S' k (fun hd => ?_) (fun hd hn => ?_) fun hd a e b he hek => ?_
 ·simp [hd] at h ⊢
  exact h w S
 ·rw [hk.abv hn] at h
  simp [hd] at h ⊢
  exact h w S
 ·subst he
  rw [← hek, hk.vx] at h
  obtain ⟨_, c1, _⟩ := qe (tq S')
  simp [hd, c1] at h ⊢
  refine biy mt.n (aev S').1 k _ _ _ fun o hm => ?_
  refine h _ (aao (m := xr m e.n) (r := r) (es := a ++ b) hk.rem ?_)
  have S2 : St w0 w (ji r .i64 m :: aya hb r (D.rem e.n) :: ((a ++ b).map xo ++ R)) := ((S'.perm (ot hb r m a b e D R)).drop : St w0 w (aya hb r D :: ji r .i64 m :: ((a ++ b).map xo ++ R))).swap
  obtain ⟨B, ⟨h1, h2⟩, hB, cl⟩ := S2.open
  refine (cl (World.setObj w r o) [ji r .i64 (xr m e.n)] ((Fr.refl B w).setObj (.inl h2) o) (Rs.one (B := B) ⟨⟨?_, ?_⟩, h2⟩ fun b hb => .inl hb)).swap
  ·rw [hek]; exact hm
  ·rw [abc]; exact h1.2.erase _
end
set_option maxRecDepth 100000
open Go.Eng Go.Proofs.YtfnhoaemapheoaaGreat.Sint
def Dk.acy (D : Dk) (k : Int) : Dk := { D with fs := D.fs ++ [⟨k, [], []⟩] }
def Dk.pm (D : Dk) (l : List Int) : List Int := if D.jk then l.take (min (l.length : Int) D.left).toNat else l
def Dk.after (D : Dk) (l : List Int) : Dk := if D.jk then { D with iu := decide (D.left < l.length), left := D.left - (min (l.length : Int) D.left).toNat } else D
def Dk.put (D : Dk) (k : Int) (l : List Int) : Dk := match D.get k with
 | none => ((D.acy k).nr k [] (D.pm l)).after l
 | some f => (D.nr k f.kc (f.jc ++ D.pm l)).after l
def Dk.append (D : Dk) (k : Int) (l : List Int) : Dk × Int :=
 if D.iu then (D, 10) else if k < 0 ∨ 64 ≤ k then (D, 1) else if D.ip < D.ij + l.length then (D, 9) else (D.put k l, if (D.put k l).iu then 10 else 0)
section
variable {w0 w : World} {hb r : Nat} {m : MP} {es a b : List FE} {D : Dk} {R : List Asn} {e e' : FE}
theorem ud {v v2 : Value} {l l2 : List Int} (S : St w0 w (jq v l :: R)) (hs : SlB w v2 l2) (hl : l.length + l2.length ≤ 1000000000) {cs : List Bool} {ty : TypeId} {K : KV} (h : ∀ w' v', St w0 w' (jq v' (l ++ l2) :: R) → K v' w') :
  biT P .append #[T.f, T.f] ty cs [v, v2] w K := by
 obtain ⟨B, ⟨h1, h2⟩, hB, cl⟩ := S.open
 refine vv et.f jj vu h1 hs hl (by decide) (Nat.zero_le _) cs fun v' w' o f g => ?_
 refine h w' v' (cl w' [jq v' (l ++ l2)] (f.mono fun x _ hx => h2 x hx) (Rs.one (B := fun x => v'.ownBlock = some x) ⟨o, fun b hb => hb⟩ fun x hx => ?_))
 rcases g with g | ⟨y, g1, g2⟩
 ·exact .inl (h2 x (by rw [← g]; exact hx))
 ·rw [hx] at g1; cases g1
  exact .inr ⟨g2, (o.lt hx).2⟩
theorem aqb (S : St w0 w (ig hb D :: R)) {K : KV} (h : K (.int .i64 (if D.iu then 10 else 0)) w) : gb P F.bn [.pointer (some ⟨hb, 0, none⟩)] w K := by
 obtain ⟨r, m, es, hk, S'⟩ := yp S
 exact ary (tq S') h
theorem bgq (hk : nu m (a ++ e :: b) D) (S : St w0 w (ng hb r m (a ++ e :: b) D ++ R)) {v2 : Value} {l2 : List Int} (hs : SlB w v2 l2) (hu : ((D.ij + l2.length : Nat) : Int) ≤ D.ip) {K : KV}
  (h : ∀ w', St w0 w' (ig hb (D.nr e.n e.kc (e.jc ++ l2)) :: R) → K (.int .i64 (if D.iu then 10 else 0)) w') : M.ab.j2 [e.ptr] [v2] (.pointer (some ⟨hb, 0, none⟩)) w K := by
 unfold M.ab.j2
 have hl := xj hk
 have hr := hk.ip
 have S1 := xi (S.perm (ot hb r m a b e D R))
 obtain ⟨c0, c1, fz⟩ := adu S1
 obtain ⟨x1, x2, hv, _⟩ := S1.abe.row jj
 have c1' := c1
 rw [hv] at c1'
 simp [FE.ptr, c1']
 rw [← hv]
 refine ud S1.abe hs (by omega) fun w1 v' S2 => ?_
 have S3 := S2.abe.tail (List.Perm.refl _)
 have S4 : St w0 w1 (gp e.p #[e.fv, e.lv] T.af :: jq v' (e.jc ++ l2) :: jq e.fv e.kc :: (ng hb r m (a ++ b) D ++ R)) := S2.swap
 obtain ⟨d0, d1, fz1⟩ := adu S4
 have hcell : ∃ x y z, v' = .slice x y z := by
  obtain ⟨x, z, hv, _⟩ := S2.row jj
  exact ⟨x, _, z, hv⟩
 obtain ⟨y1, y2, y3, rfl⟩ := hcell
 have hh := S4.blk
 have S5 := S4.ly (cs' := #[e.fv, .slice y1 y2 y3]) (e' := T.af) (w' := w1.setCell ⟨e.p, 1, none⟩ (.slice y1 y2 y3)) ((Fr.refl (fun x => x = e.p) w1).setCell (.inl rfl) _ _) (by rw [mq hh]; rfl)
 simp [d1, fz1]
 have S6 := arg (e := { e with lv := .slice y1 y2 y3, jc := e.jc ++ l2 }) (S5.tail (.swap _ _ _))
 have hk' := hk.nr (e' := { e with lv := .slice y1 y2 y3, jc := e.jc ++ l2 }) rfl rfl (by
  have := acn hk e.kc (e.jc ++ l2)
  simp at this ⊢
  omega)
 have S7 : St w0 (w1.setCell ⟨e.p, 1, none⟩ (.slice y1 y2 y3)) (ig hb (D.nr e.n e.kc (e.jc ++ l2)) :: R) := aao (m := m) (r := r) (es := a ++ { e with lv := .slice y1 y2 y3, jc := e.jc ++ l2 } :: b) hk' (S6.perm (ot hb r m a b _ _ R).symm)
 exact aqb S7 (h _ S7)
theorem bgm (hk : nu m (a ++ e :: b) D) (S : St w0 w (ng hb r m (a ++ e :: b) D ++ R)) (hd : D.iu = false) {bv : Value} {l : List Int} (hbs : ∀ w' L, St w0 w' (L ++ R) → SlB w' bv l) (hu : ((D.ij + l.length : Nat) : Int) ≤ D.ip) {K : KV}
  (h : ∀ w', St w0 w' (ig hb ((D.nr e.n e.kc (e.jc ++ D.pm l)).after l) :: R) → K (.int .i64 (if ((D.nr e.n e.kc (e.jc ++ D.pm l)).after l).iu then 10 else 0)) w') : M.ab.j1 (.pointer (some ⟨hb, 0, none⟩)) bv [e.ptr] w K := by
 unfold M.ab.j1
 have hh := tq S
 have hr := hk.ip
 obtain ⟨_, _, c2, c3, c4, fz⟩ := qe hh
 have hs := hbs w _ S
 have hlen := fun w' K => hs.im (P := P) (w := w') (t := T.f) (ty := T.b) (by kernel_rfl) [false] (K := K)
 rw [gg]
 cases ha : D.jk with
 | false =>
  rw [ha] at c3
  simp [c3]
  have e1 : D.pm l = l := by unfold Dk.pm; rw [ha]; rfl
  have e2 : (D.nr e.n e.kc (e.jc ++ l)).after l = D.nr e.n e.kc (e.jc ++ l) := by
   unfold Dk.after
   rw [show (D.nr e.n e.kc (e.jc ++ l)).jk = D.jk from rfl, ha]; rfl
  rw [e1, e2] at h
  exact bgq hk S hs hu h
 | true =>
  rw [ha] at c3
  obtain ⟨hle, hlt⟩ := hk.arm ha
  have S2 : St w0 ((w.setCell ⟨hb, 4, none⟩ (.bool (decide (D.left < l.length)))).setCell ⟨hb, 2, none⟩ (.int .i64 (D.left - min (l.length : Int) D.left))) (ng hb r m (a ++ e :: b) { D with iu := decide (D.left < l.length), left := D.left - min (l.length : Int) D.left } ++ R) :=
   St.ly (cs' := #[.int .i64 D.ip, .map (some r), .int .i64 (D.left - min (l.length : Int) D.left), .bool D.jk, .bool (decide (D.left < l.length))]) (e' := T.ae) S (((Fr.refl (fun x => x = hb) w).setCell (.inl rfl) _ _).setCell (.inl rfl) _ _) (by rw [mq (mq hh)]; rfl)
  obtain ⟨v', s', hsub, hsl⟩ := (hbs _ _ S2).sub (P := P) (t := T.f) (lo := none) (hi := some (.int .i64 ((min (l.length : Int) D.left).toNat : Nat))) (i := 0) (j := (min (l.length : Int) D.left).toNat) (by kernel_rfl) (by kernel_rfl) (.inl ⟨rfl, rfl⟩) (.inr ⟨_, rfl⟩) (Nat.zero_le _) (by omega)
  rw [List.drop_zero, Nat.sub_zero] at s'
  have hmin : (((min (l.length : Int) D.left).toNat : Nat) : Int) = min (l.length : Int) D.left := by omega
  have hmlen : (l.take (min (l.length : Int) D.left).toNat).length = (min (l.length : Int) D.left).toNat := by rw [List.length_take]; omega
  rw [hmin] at hsl
  have hlen' := fun w' K => s'.im (P := P) (w := w') (t := T.f) (ty := T.b) (by kernel_rfl) [false] (K := K)
  rw [hmlen] at hlen'
  have hwr : IntKind.i64.wrap (D.left - min (l.length : Int) D.left) = D.left - min (l.length : Int) D.left := gm (by omega) (by omega)
  simp only [arx]
  simp [c2, c3, c4, fz, hlen, ais, jo, ju, hsl, hlen', hmin, hwr]
  have e1 : D.pm l = l.take (min (l.length : Int) D.left).toNat := by unfold Dk.pm; rw [ha]; rfl
  have e2 : (D.nr e.n e.kc (e.jc ++ D.pm l)).after l = Dk.nr { D with iu := decide (D.left < l.length), left := D.left - min (l.length : Int) D.left } e.n e.kc (e.jc ++ l.take (min (l.length : Int) D.left).toNat) := by
   unfold Dk.after
   rw [show (D.nr e.n e.kc (e.jc ++ D.pm l)).jk = D.jk from rfl, ha, e1]
   show Dk.mk _ _ _ _ _ = Dk.mk _ _ _ _ _
   congr 1
   show D.left - _ = _
   rw [← hmin]; rfl
  rw [e2] at h
  refine bgq (D := { D with iu := decide (D.left < l.length), left := D.left - min (l.length : Int) D.left }) { hk with arm := fun _ => ⟨?_, ?_⟩ } S2 s' ?_ h
  ·show 0 ≤ D.left - min (l.length : Int) D.left; omega
  ·show D.left - min (l.length : Int) D.left < _; omega
  ·show ((D.ij + _ : Nat) : Int) ≤ D.ip
   rw [hmlen]; omega
theorem big (hk : nu m es D) (S : St w0 w (ng hb r m es D ++ R)) {k : Int} (hall : ∀ e ∈ es, e.n ≠ k) (hr : 0 ≤ k ∧ k < 64) :
  nu (sd m k (FE.ptr ⟨k, w.heap.size, .slice none 0 0, .slice none 0 0, [], []⟩)) (es ++ ⟨k, w.heap.size, .slice none 0 0, .slice none 0 0, [], []⟩ :: []) (D.acy k) ∧
  St w0 (w.alloc (.cells #[.slice none 0 0, .slice none 0 0] T.af)) (xo ⟨k, w.heap.size, .slice none 0 0, .slice none 0 0, [], []⟩ :: (ng hb r m es D ++ R)) := by
 have hkn : k ∉ ke m := fun h => by
  obtain ⟨e, he, h'⟩ := List.mem_map.1 (hk.kp.mem_iff.1 h)
  exact hall e he h'
 have hmk : ke (sd m k (FE.ptr ⟨k, w.heap.size, .slice none 0 0, .slice none 0 0, [], []⟩)) = ke m ++ [k] := by rw [ajr, if_neg hkn]
 have hml : (sd m k (FE.ptr ⟨k, w.heap.size, .slice none 0 0, .slice none 0 0, [], []⟩)).length = m.length + 1 := by
  have := congrArg List.length hmk
  simpa [ke] using this
 refine ⟨⟨?_, ?_, ?_, ?_, ?_, ?_, hk.ip, ?_, ?_, hk.arm⟩, ?_⟩
 ·show D.fs ++ _ = _
  rw [hk.fs]; simp [FE.abs]
 ·rw [hml, hk.ml]; simp
 ·intro x hx
  rw [agc]
  rcases List.mem_append.1 hx with hx | hx
  ·rw [if_neg fun h => hall x hx h.symm]; exact hk.mg x hx
  ·rw [List.mem_singleton] at hx
   subst hx
   rw [if_pos rfl]
 ·intro j hj
  rw [agc, if_neg (c := k = j) fun h => hj ⟨k, w.heap.size, .slice none 0 0, .slice none 0 0, [], []⟩ (by simp) h]
  exact hk.mz j fun e he => hj e (by simp [he])
 ·rw [List.map_append, List.nodup_append]
  refine ⟨hk.tn, by simp, ?_⟩
  rintro x hx y hy rfl
  obtain ⟨e, he, rfl⟩ := List.mem_map.1 hx
  simp at hy
  exact hall e he hy
 ·rw [hmk, List.map_append]
  exact hk.kp.append_right _
 ·have : (D.acy k).ij = D.ij := by unfold Dk.acy Dk.ij; simp [Fil.len]
  rw [this]; exact hk.ij
 ·intro x hx
  rcases List.mem_append.1 hx with hx | hx
  ·exact hk.rng x hx
  ·rw [List.mem_singleton] at hx
   subst hx
   exact hr
 ·have S1 : St w0 (w.alloc (.cells #[.slice none 0 0, .slice none 0 0] T.af)) (gp w.heap.size #[.slice none 0 0, .slice none 0 0] T.af :: (ng hb r m es D ++ R)) :=
   S.add ((Fr.refl _ w).alloc _) (B := fun x => x = w.heap.size) ⟨by rw [ie, if_pos rfl], rfl⟩ fun x hx => by subst hx; rw [jl]; omega
  exact arg (e := ⟨k, w.heap.size, .slice none 0 0, .slice none 0 0, [], []⟩) ((qz (qz S1)).abe)
theorem amm (S : St w0 w (ig hb D :: R)) (k : Int) {bv : Value} {l : List Int} (hbs : ∀ w' L, St w0 w' (L ++ R) → SlB w' bv l) (hl : l.length ≤ 1000000000) {K : KV}
  (h : ∀ w', St w0 w' (ig hb (D.append k l).1 :: R) → K (.int .i64 (D.append k l).2) w') : gb P F.cl [.pointer (some ⟨hb, 0, none⟩), .int .i64 k, bv] w K := by
 rw [M.ab.fcall]
 apply M.ab.calls
 unfold M.ab
 unfold Dk.append at h
 refine aqb S ?_
 cases hd : D.iu with
 | true => simp [hd] at h ⊢; exact h w S
 | false =>
 by_cases h0 : k < 0
 ·simp [hd, h0] at h ⊢; exact h w S
 by_cases h1 : 64 ≤ k
 ·simp [hd, h0, h1] at h ⊢; exact h w S
 have hlen := fun w' K L (S' : St w0 w' (L ++ R)) => (hbs w' L S').im (P := P) (w := w') (t := T.f) (ty := T.b) (by kernel_rfl) [false] (K := K)
 obtain ⟨r, m, es, hk, S'⟩ := yp S
 obtain ⟨a1, k1, hbv, _⟩ := hbs w _ S'
 have hh := tq S'
 obtain ⟨c0, _⟩ := qe hh
 have hlen1 := fun w' K => (hbs w _ S').im (P := P) (w := w') (t := T.f) (ty := T.b) (by kernel_rfl) [false] (K := K)
 have hr := hk.ip
 have hu0 := hk.ij
 simp [hd, h0, h1, c0, hlen1]
 refine bib hk (S'.jg ((Fr.refl _ w).dr 1)) fun w1 S1 => ?_
 obtain ⟨c0, c1, _⟩ := qe (tq S1)
 have hw : IntKind.i64.wrap ((D.ij : Int) + l.length) = (D.ij : Int) + l.length := gm (by omega) (by omega)
 simp [c0, hw]
 by_cases h2 : D.ip < D.ij + l.length
 ·simp [h2]
  simp [hd, h0, h1, h2] at h
  exact h w1 (aao hk S1)
 simp [h2]
 simp [hd, h0, h1, h2] at h
 unfold M.ab.j0
 simp [c1]
 rw [aay mt.n (aev S1).1]
 unfold Dk.put at h
 rcases hk.bje k with ⟨hn, hall⟩ | ⟨a, e, b, he, hek, hg⟩
 ·rw [hk.abv hall] at h
  rw [hn]
  have c1' : ∀ o, gi (w1.alloc o) hb 1 = some (.map (some r)) := fun o => by
   have hlt := (Array.getElem?_eq_some_iff.1 (tq S1)).1; exact (xg (w := w1) (w' := w1.alloc o) (b := hb) (by rw [ie, if_neg (by omega)]) 1).trans c1
  simp [c1']
  obtain ⟨hk2, S2⟩ := big hk S1 hall (by omega)
  have S3 := S2
  refine aos mt.n (w := w1.alloc (.cells #[.slice none 0 0, .slice none 0 0] T.af)) (r := r) (m := m) ?_ k _ _ fun o hm => ?_
  ·exact (aev S2.drop).1
  obtain ⟨B, ⟨h1, h2⟩, hB, cl⟩ := S2.abe.open
  have S4 := cl (World.setObj (w1.alloc (.cells #[.slice none 0 0, .slice none 0 0] T.af)) r o) [ji r .i64 (sd m k (FE.ptr ⟨k, w1.heap.size, .slice none 0 0, .slice none 0 0, [], []⟩))] ((Fr.refl B _).setObj (.inl h2) o) (Rs.one (B := B) ⟨⟨hm, hk2.nd⟩, h2⟩ fun b hb => .inl hb)
  have S5 : St w0 (World.setObj (w1.alloc (.cells #[.slice none 0 0, .slice none 0 0] T.af)) r o) (ng hb r (sd m k (FE.ptr ⟨k, w1.heap.size, .slice none 0 0, .slice none 0 0, [], []⟩)) (es ++ ⟨k, w1.heap.size, .slice none 0 0, .slice none 0 0, [], []⟩ :: []) (D.acy k) ++ R) := by
   refine St.perm S4 (List.Perm.trans ?_ (ot hb r _ es [] ⟨k, w1.heap.size, .slice none 0 0, .slice none 0 0, [], []⟩ (D.acy k) R).symm)
   rw [List.append_nil]
   exact (List.Perm.swap _ _ _).trans (List.Perm.cons _ (List.Perm.swap _ _ _))
  exact bgm (e := ⟨k, w1.heap.size, .slice none 0 0, .slice none 0 0, [], []⟩) hk2 S5 hd hbs (by
   have : (D.acy k).ij = D.ij := by unfold Dk.acy Dk.ij; simp [Fil.len]
   rw [this]
   show _ ≤ D.ip
   omega) h
 ·subst he
  rw [← hek, hk.vx] at h
  rw [hg]
  simp [FE.ptr]
  exact bgm hk S1 hd hbs (by omega) h
end
set_option maxRecDepth 100000
open Go.Eng Go.Proofs.YtfnhoaemapheoaaGreat.Sint
def zc (kl : List Int) (i len : Nat) : Nat := (max 0 (min (kl.getD i 0) (len : Int))).toNat
def abx (kl : List Int) (D : Dk) (k : Int) (i : Nat) : Dk := match D.get k with
 | none => D
 | some f => D.nr k (f.kc ++ f.jc.take (zc kl i f.jc.length)) []
def crN (kl : List Int) (D : Dk) (F : List Int) : Nat → Dk
 | 0 => D
 | i + 1 => abx kl (crN kl D F i) (F.getD i 0) i
def Dk.tm (D : Dk) (kl : List Int) : Dk := { crN kl D D.iw D.iw.length with jk := false, iu := false }
section
variable {w0 w : World} {hb r : Nat} {m : MP} {es a b : List FE} {D : Dk} {R : List Asn} {e e' : FE}
theorem aze (D : Dk) (k : Int) (fa lo : List Int) : (D.nr k fa lo).qd = D.qd := by
 unfold Dk.qd Dk.nr
 rw [List.map_map]
 refine List.map_congr_left fun f hf => ?_
 show (if f.n = k then (⟨k, fa, lo⟩ : Fil) else f).n = f.n
 split
 ·rename_i h; exact h.symm
 ·rfl
theorem atg (kl : List Int) (D : Dk) (k : Int) (i : Nat) : (abx kl D k i).qd = D.qd := by
 unfold abx
 split
 ·rfl
 ·exact aze ..
theorem asb (kl : List Int) (D : Dk) (F : List Int) : ∀ i, (crN kl D F i).qd = D.qd
 | 0 => rfl
 | i + 1 => (atg kl _ _ _).trans (asb kl D F i)
theorem bjl (hk : nu m (a ++ e :: b) D) (S : St w0 w (ng hb r m (a ++ e :: b) D ++ R)) {n : Nat} (hn : n ≤ e.jc.length) {x2 : List Value} {t17 : Value} {K4 : KL} {K : KV}
  (h : ∀ w', St w0 w' (ig hb (D.nr e.n (e.kc ++ e.jc.take n) []) :: R) → K4 [gv x2 4, t17, e.ptr, .int .i64 (n : Int)] w') : M.ak.j5 e.ptr [.int .i64 (n : Int)] K4 x2 t17 w K := by
 unfold M.ak.j5
 have hl := xj hk
 have hu := hk.ij
 have hr := hk.ip
 have S1 := S.perm (ot hb r m a b e D R)
 have S2 := xi S1
 obtain ⟨c0, c1, fz⟩ := adu S2
 have s1 : SlB w e.fv e.kc := S2.swap.row jj
 have s2 : SlB w e.lv e.jc := S2.abe.row jj
 obtain ⟨v', s', hsub, hsl⟩ := s2.sub (P := P) (t := T.f) (lo := none) (hi := some (.int .i64 (n : Int))) (i := 0) (j := n) (by kernel_rfl) (by kernel_rfl) (.inl ⟨rfl, rfl⟩) (.inr ⟨_, rfl⟩) (Nat.zero_le _) hn
 rw [List.drop_zero, Nat.sub_zero] at s'
 obtain ⟨a1, k1, hv1, _⟩ := id s1
 obtain ⟨a2, k2, hv2, _⟩ := id s2
 obtain ⟨a3, k3, hv3, _⟩ := id s'
 have c0' := c0
 have c1' := c1
 rw [hv1] at c0'
 rw [hv2] at c1' hsl
 rw [hv3] at hsl
 simp [FE.ptr, c0', c1', hsl]
 rw [← hv1]
 have hmin : (List.take n e.jc).length = min n e.jc.length := by simp
 rw [← hmin, ← hv3]
 have hbl : ((Eng.dr w 1).alloc (.cells #[e.fv, v'] T.f)).heap[w.heap.size]? = some (.cells (([(e.fv, e.kc), (v', e.jc.take n)] : List (Value × List Int)).map (·.1)).toArray T.f (0, 0)) := by
  rw [ie, if_pos (by simp)]; rfl
 have f1 : Fr (fun _ => False) w ((Eng.dr w 1).alloc (.cells #[e.fv, v'] T.f)) := ((Fr.refl _ w).dr 1).alloc _
 rw [M.j.fcall]
 refine CB.aab (L := [(e.fv, e.kc), (v', e.jc.take n)]) hbl (fun p hp => ?_) (by simp [CB.tot]; omega) (by simp) fun w' v o f2 => ?_
 ·simp at hp
  rcases hp with rfl | rfl
  ·exact s1.fr f1 fun _ _ _ h => h
  ·exact s'.fr f1 fun _ _ _ h => h
 ·have hs : w.heap.size ≤ ((Eng.dr w 1).alloc (.cells #[e.fv, v'] T.f)).heap.size := f1.size
  have S3 : St w0 w' (jq v (e.kc ++ e.jc.take n) :: xo e :: (ng hb r m (a ++ b) D ++ R)) := S1.add (a := jq v (e.kc ++ e.jc.take n)) (f1.trans f2) (B := fun b => v.ownBlock = some b) ⟨by simpa using o.mono (Nat.zero_le _), fun b hb => hb⟩ fun b hb => by
   have := o.lt hb
   exact ⟨by omega, this.2⟩
  have S4 := alq S3
  obtain ⟨d0, d1, fz1⟩ := adu (xi S3.swap)
  obtain ⟨y1, y2, hv, _⟩ := S3.row jj
  generalize (e.kc ++ e.jc.take n).length = L at hv
  subst hv
  simp [d0, d1, fz1, jo, ju]
  refine h _ (aao (m := m) (r := r) (es := a ++ { e with fv := .slice y1 L y2, lv := .slice none 0 0, kc := e.kc ++ e.jc.take n, jc := [] } :: b) (hk.nr (e' := { e with fv := .slice y1 L y2, lv := .slice none 0 0, kc := e.kc ++ e.jc.take n, jc := [] }) rfl rfl ?_) (S4.perm (ot hb r m a b _ _ R).symm))
  have := acn hk (e.kc ++ e.jc.take n) []
  simp at this ⊢
  omega
def CrI (w0 : World) (hb : Nat) (D : Dk) (kl : List Int) (R : List Asn) (v : Value) : KL := fun x w1 => ∃ (u0 u1 u2 u3 : Value) (i : Nat), x = [u0, u1, u2, u3, .int .i64 (i : Nat)] ∧ i ≤ D.iw.length ∧ St w0 w1 (rk v D.iw :: ig hb (crN kl D D.iw i) :: R)
theorem bea (S : St w0 w (ig hb D :: R)) {kv : Value} {kl : List Int} (hks : ∀ w' L, St w0 w' (L ++ R) → Sl w' 1 sj kv kl) {K : KV}
  (h : ∀ w', St w0 w' (ig hb (D.tm kl) :: R) → K (.tuple #[]) w') : gb P F.dk [.pointer (some ⟨hb, 0, none⟩), kv] w K := by
 rw [M.ak.fcall]
 apply M.ak.calls
 unfold M.ak
 simp
 unfold M.ak.j0
 rw [gg]
 obtain ⟨r0, m0, es0, hk0, S0⟩ := yp S
 have hfl : D.iw.length ≤ 64 := by
  have := hk0.few
  unfold Dk.iw
  rw [(nn _).length_eq, hk0.qd, List.length_map]; exact this
 refine ajc hk0 S0 fun w1 v S1 => ?_
 have S1' : St w0 w1 (rk v D.iw :: ig hb D :: R) := ((aao hk0 (S1.perm List.perm_middle.symm)) : St w0 w1 (ig hb D :: (rk v D.iw :: R))).swap
 have hsl : ∀ {w i}, St w0 w (rk v D.iw :: ig hb (crN kl D D.iw i) :: R) → Sl w 1 sj v D.iw := fun S => S.row vy
 rw [(hsl (i := 0) S1').im (by simp)]
 refine ⟨CrI w0 hb D kl R v, fun x _ => D.iw.length - ms x 4, ⟨_, _, _, _, 0, rfl, Nat.zero_le _, S1'⟩, ?_⟩
 rintro x w2 ⟨u0, u1, u2, u3, i, rfl, hi, S2⟩
 have q : ∀ a b c d e : Value, gv [a, b, c, d, e] 4 = e := fun _ _ _ _ _ => rfl
 simp only [q, km, gg]
 by_cases hil : i < D.iw.length
 ·have hil' : (i : Int) < D.iw.length := by omega
  simp only [hil', decide_true, Eng.cond_true]
  unfold M.ak.j3
  obtain ⟨bb, o, cap, hv, hbb, _, hc⟩ := (hsl S2).at hil
  have c0 := hc 0 _ rfl
  simp only [Nat.mul_one, Nat.add_zero] at c0
  have hmem : D.iw[i] ∈ D.iw := List.getElem_mem hil
  have hnext : crN kl D D.iw (i + 1) = abx kl (crN kl D D.iw i) D.iw[i] i := by
   show abx kl _ (D.iw.getD i 0) i = _
   rw [List.getD_eq_getElem?_getD, List.getElem?_eq_getElem hil]; rfl
  have hmem' : D.iw[i] ∈ (crN kl D D.iw i).qd := by
   rw [asb]; exact (nn _).mem_iff.1 hmem
  obtain ⟨r, m, es, hk, S3⟩ := yp S2.swap
  generalize hD : crN kl D D.iw i = D1 at *
  generalize hki : D.iw[i] = k at *
  rw [hk.qd] at hmem'
  obtain ⟨e, he, hek⟩ := List.mem_map.1 hmem'
  obtain ⟨a, b, hab⟩ := List.append_of_mem he
  subst hab
  obtain ⟨_, c1, _⟩ := qe (tq S3)
  have hg := hk.mg e (by simp)
  have hlu : ∀ K, luT P T.n (.map (some r)) (.int .i64 k) false w2 K = K e.ptr w2 := fun K => by
   rw [aay mt.n (aev S3).1, ← hek, hg]; rfl
  obtain ⟨hbk, s1, s2⟩ := bbv (a := a) (e := e) (b := b) S3
  have d1 : gi w2 e.p 1 = some e.lv := by rw [gj hbk]; rfl
  have hlenl := fun w' K => s2.im (P := P) (w := w') (t := T.f) (ty := T.b) (by kernel_rfl) [false] (K := K)
  have hks2 := hks w2 (rk v D.iw :: [ig hb D1]) S2
  have hlenk := fun w' K => hks2.im (P := P) (w := w') (t := T.ac) (ty := T.b) (by kernel_rfl) [false] (K := K)
  obtain ⟨a2, k2, hv2, _⟩ := id s2
  have d1' := d1
  rw [hv2] at d1' hlenl
  have hwi : IntKind.i64.wrap ((i : Int) + 1) = ((i + 1 : Nat) : Int) := by rw [gm (by omega) (by omega)]; rfl
  have hst : crN kl D D.iw (i + 1) = D1.nr e.n (e.kc ++ e.jc.take (zc kl i e.jc.length)) [] := by
   rw [hnext]
   unfold abx
   rw [← hek, hk.vx]; rfl
  have fin : ∀ w' y0 y1 y2 y3, St w0 w' (ig hb (D1.nr e.n (e.kc ++ e.jc.take (zc kl i e.jc.length)) []) :: rk v D.iw :: R) → CrI w0 hb D kl R v [y0, y1, y2, y3, .int .i64 ((i + 1 : Nat) : Int)] w' ∧ D.iw.length - ms [y0, y1, y2, y3, .int .i64 ((i + 1 : Nat) : Int)] 4 < D.iw.length - ms [u0, u1, u2, u3, .int .i64 (i : Nat)] 4 := fun w' y0 y1 y2 y3 S' => ⟨⟨_, _, _, _, i + 1, rfl, by omega, by rw [hst]; exact S'.swap⟩, by simp only [ms, q]; simp; omega⟩
  rw [hv]
  by_cases hik : i < kl.length
  ·have hik' : (i : Int) < kl.length := by omega
   obtain ⟨bk, ok, capk, hkv, hbk2, _, hck⟩ := hks2.at hik
   have ck := hck 0 _ rfl
   simp only [Nat.mul_one, Nat.add_zero] at ck
   have hsty : ((zc kl i e.jc.length : Nat) : Int) = max 0 (min kl[i] (e.jc.length : Int)) := by
    unfold zc
    rw [List.getD_eq_getElem?_getD, List.getElem?_eq_getElem hik]
    simp only [Option.getD_some]
    omega
   simp [q, hil, c0, c1, hlu, hlenk, hik]
   rw [hkv]
   simp [hik, ck, FE.ptr, d1', hlenl, ais, bex, ← hsty]
   have S4 := S3.jg ((Fr.refl _ w2).dr 1)
   refine bjl (n := zc kl i e.jc.length) (R := rk v D.iw :: R) hk S4 (by omega) fun w' S' => ?_
   rw [← hv]
   have := fin w' (gv [u0, u1, u2, u3, .int .i64 (i : Nat)] 4) (.int .i64 k) e.ptr (.int .i64 (zc kl i e.jc.length : Nat)) S'
   rw [hwi]
   exact this
  ·have hik' : ¬ (i : Int) < kl.length := by omega
   have hst0 : zc kl i e.jc.length = 0 := by
    unfold zc
    rw [List.getD_eq_getElem?_getD, List.getElem?_eq_none (by omega)]
    simp only [Option.getD_none]
    omega
   rw [hst0] at fin
   simp [q, hil, c0, c1, hlu, hlenk, hik]
   refine bjl (n := 0) (R := rk v D.iw :: R) hk S3 (by omega) fun w' S' => ?_
   rw [← hv]
   have := fin w' (gv [u0, u1, u2, u3, .int .i64 (i : Nat)] 4) (.int .i64 k) e.ptr (.int .i64 (0 : Nat)) S'
   rw [hwi]
   exact this
 ·have hil' : ¬ (i : Int) < D.iw.length := by omega
  simp only [hil', decide_false, Eng.cond_false]
  have hii : i = D.iw.length := by omega
  subst hii
  obtain ⟨r, m, es, hk, S3⟩ := yp S2.drop
  obtain ⟨_, _, _, c3, c4, fz⟩ := qe (tq S3)
  have hh := tq S3
  simp [c3, c4, fz, jo, ju]
  refine h _ (aao (r := r) (m := m) (es := es) (D := D.tm kl) { hk with arm := fun h => by cases h } (St.ly (cs' := #[.int .i64 (crN kl D D.iw D.iw.length).ip, .map (some r), .int .i64 (crN kl D D.iw D.iw.length).left, .bool false, .bool false]) (e' := T.ae) S3 (((Fr.refl (fun x => x = hb) w2).setCell (.inl rfl) _ _).setCell (.inl rfl) _ _) ?_))
  rw [mq (mq hh)]; rfl
end
set_option maxRecDepth 100000
open Go.Eng Go.Proofs.YtfnhoaemapheoaaGreat.Sint
section
variable {w0 w : World} {hb : Nat} {D : Dk} {R : List Asn}
theorem bhy (S : St w0 w (ig hb D :: R)) (k : Int) {K : KV} (h : ∀ w' v, St w0 w' (jq v (D.lg k).1 :: ig hb D :: R) → K (.tuple #[v, .int .i64 (D.lg k).2]) w') : gb P F.cx [.pointer (some ⟨hb, 0, none⟩), .int .i64 k] w K := by
 obtain ⟨r, m, es, hk, S'⟩ := yp S
 exact bhq hk S' k fun w' v S2 => h w' v (aao hk (S2.perm List.perm_middle.symm) : St w0 w' (ig hb D :: (jq v (D.lg k).1 :: R))).swap
theorem bdr (S : St w0 w (ig hb D :: R)) {K : KV} (h : ∀ w' v, St w0 w' (rk v D.iw :: ig hb D :: R) → K v w') : gb P F.bm [.pointer (some ⟨hb, 0, none⟩)] w K := by
 obtain ⟨r, m, es, hk, S'⟩ := yp S
 exact ajc hk S' fun w' v S2 => h w' v (aao hk (S2.perm List.perm_middle.symm) : St w0 w' (ig hb D :: (rk v D.iw :: R))).swap
theorem alf (S : St w0 w (ig hb D :: R)) {K : KV} (h : K (.bool D.iu) w) : gb P F.bq [.pointer (some ⟨hb, 0, none⟩)] w K := by
 obtain ⟨r, m, es, hk, S'⟩ := yp S
 exact bcu S' h
end
end Go.Proofs.YtfnhoaemapheoaaGreat
set_option maxRecDepth 100000
namespace Go.Eng
section
variable {P : Program} {x : Int} {w : World} {K : KV}
theorem bcx : unT P .neg (.int .u32 x) w K = K (.int .u32 (IntKind.u32.wrap (0 - x))) w := by
 simp [unT, je, Op.unary, Op.intArith, Sem.run_pure]
theorem bef : unT P .xor (.int .u32 x) w K = K (.int .u32 (IntKind.u32.wrap (BitVec.ofInt IntKind.u32.bits IntKind.u32.max ^^^ BitVec.ofInt IntKind.u32.bits x).toNat)) w := by
 have e : (if IntKind.u32.signed = true then (-1 : Int) else IntKind.u32.max) = IntKind.u32.max := if_neg (by decide)
 unfold unT je
 simp only [Op.unary, e, Op.intBits, Sem.run_pure]
end
end Go.Eng
namespace Go.Proofs.YtfnhoaemapheoaaGreat
open Go.Eng Go.Proofs.YtfnhoaemapheoaaGreat.Sint
def aqw (a b : Int) : Int := IntKind.u32.wrap (BitVec.ofInt IntKind.u32.bits a ^^^ BitVec.ofInt IntKind.u32.bits b).toNat
def bfx (a b : Int) : Int := IntKind.u32.wrap (BitVec.ofInt IntKind.u32.bits a &&& BitVec.ofInt IntKind.u32.bits b).toNat
def orE (a b : Int) : Int := IntKind.u32.wrap (BitVec.ofInt IntKind.u32.bits a ||| BitVec.ofInt IntKind.u32.bits b).toNat
def orL (a b : Int) : Int := IntKind.u64.wrap (BitVec.ofInt IntKind.u64.bits a ||| BitVec.ofInt IntKind.u64.bits b).toNat
def aiv (a : Int) : Int := aqw IntKind.u32.max a
def abn (r : Int) : Int := aqw (r.fdiv (2 ^ min (1 : Int).toNat IntKind.u32.bits)) (bfx 3988292384 (IntKind.u32.wrap (0 - bfx r 1)))
def tz (f : Int → Int) : Nat → Int → Int
 | 0, r => r
 | n + 1, r => f (tz f n r)
def adx (r : Int) (c : Int) : Int := tz abn 8 (aqw r (IntKind.u32.wrap c))
def aai (l : List Int) : Int := aiv (l.foldl adx (aiv 0))
theorem ans {t : TypeId} {rx ry : Operand} {x y : Int} {w : World} {K : KV} : ga P .xor t rx ry (.int .u32 x) (.int .u32 y) w K = K (.int .u32 (aqw x y)) w := avp
theorem amo {t : TypeId} {rx ry : Operand} {x y : Int} {w : World} {K : KV} : ga P .and t rx ry (.int .u32 x) (.int .u32 y) w K = K (.int .u32 (bfx x y)) w := ave
theorem bdn {t : TypeId} {rx ry : Operand} {x y : Int} {w : World} {K : KV} : ga P .or t rx ry (.int .u32 x) (.int .u32 y) w K = K (.int .u32 (orE x y)) w := baw
theorem beh {t : TypeId} {rx ry : Operand} {x y : Int} {w : World} {K : KV} : ga P .or t rx ry (.int .u64 x) (.int .u64 y) w K = K (.int .u64 (orL x y)) w := baw
theorem asy {x : Int} {w : World} {K : KV} : unT P .xor (.int .u32 x) w K = K (.int .u32 (aiv x)) w := bef
def StI (w : World) (r : Int) (n : Nat) : KL := fun x w1 => ∃ (i : Nat), x = [.int .u32 (tz abn i r), .int .i64 (i : Nat)] ∧ w1 = w ∧ i ≤ n
theorem bei {w : World} {r : Int} {n : Nat} (hn : n ≤ 1000000) {K : KV} (h : K (.int .u32 (tz abn n r)) w) : gb P F.ey [.int .u32 r, .int .i64 (n : Nat)] w K := by
 rw [M.dx.fcall]
 apply M.dx.calls
 unfold M.dx
 rw [gg]
 refine ⟨StI w r n, fun x _ => n - ms x 1, ⟨0, rfl, rfl, Nat.zero_le _⟩, ?_⟩
 rintro x w1 ⟨i, rfl, rfl, hi⟩
 have q0 : gv [.int .u32 (tz abn i r), .int .i64 (i : Nat)] 0 = .int .u32 (tz abn i r) := rfl
 have q1 : gv [.int .u32 (tz abn i r), .int .i64 (i : Nat)] 1 = .int .i64 (i : Nat) := rfl
 simp only [q0, q1, gg]
 by_cases hil : i < n
 ·have hil' : (i : Int) < n := by omega
  have hwi : IntKind.i64.wrap ((i : Int) + 1) = ((i + 1 : Nat) : Int) := by rw [gm (by omega) (by omega)]; rfl
  simp [hil']
  unfold M.dx.j2
  simp only [q0, q1, gg]
  rw [abj (by omega), amo, bcx, amo, ans, kh, hwi]
  exact ⟨⟨i + 1, rfl, rfl, by omega⟩, by simp [ms, gv]; omega⟩
 ·have hil' : ¬ (i : Int) < n := by omega
  have he : i = n := by omega
  subst he
  simp
  exact h
def MoI (w : World) (l : List Int) (s : Int) : KL := fun x w1 => ∃ (u : Value) (i : Nat), x = [u, .int .u32 ((l.take i).foldl adx (aiv s)), .int .i64 (i : Nat)] ∧ w1 = w ∧ i ≤ l.length
theorem bci {w : World} {v : Value} {l : List Int} (hs : SlB w v l) (hl : l.length ≤ 1000000000) {K : KV} (h : K (.int .u32 (aai l)) w) : gb P F.ez [v] w K := by
 rw [M.em.fcall]
 apply M.em.calls
 unfold M.em
 rw [M.ea.fcall]
 apply M.ea.calls
 unfold M.ea
 rw [asy, gg, hs.im (by kernel_rfl)]
 refine ⟨MoI w l 0, fun x _ => l.length - ms x 2, ⟨_, 0, rfl, rfl, Nat.zero_le _⟩, ?_⟩
 rintro x w1 ⟨u, i, rfl, rfl, hi⟩
 generalize hf : (l.take i).foldl adx (aiv 0) = f
 have q0 : gv [u, .int .u32 f, .int .i64 (i : Nat)] 0 = u := rfl
 have q1 : gv [u, .int .u32 f, .int .i64 (i : Nat)] 1 = .int .u32 f := rfl
 have q2 : gv [u, .int .u32 f, .int .i64 (i : Nat)] 2 = .int .i64 (i : Nat) := rfl
 simp only [q2, gg]
 by_cases hil : i < l.length
 ·have hil' : (i : Int) < l.length := by omega
  have hwi : IntKind.i64.wrap ((i : Int) + 1) = ((i + 1 : Nat) : Int) := by rw [gm (by omega) (by omega)]; rfl
  obtain ⟨b, o, cap, hv, _, _, hc⟩ := hs.at hil
  have c0 := hc 0 _ rfl
  simp only [Nat.mul_one, Nat.add_zero] at c0
  have htk : (l.take (i + 1)).foldl adx (aiv 0) = adx f l[i] := by
   rw [List.take_succ_eq_append_getElem hil, List.foldl_append, hf]; rfl
  generalize l[i] = c at *
  simp [hil']
  unfold M.ea.j2
  simp only [q1, q2, gg]
  rw [hv]
  simp [hil, c0]
  rw [nl (ks := .u8) (kd := .u32) (by kernel_rfl) (by kernel_rfl), ans]
  refine bei (n := 8) (by omega) ?_
  rw [hwi]
  exact ⟨⟨.int .u8 c, i + 1, by rw [htk]; rfl, rfl, by omega⟩, by simp [ms, gv]; omega⟩
 ·have hil' : ¬ (i : Int) < l.length := by omega
  simp [hil']
  rw [List.take_of_length_le (by omega)] at hf
  have q4 : gv [v, .int .i64 (l.length : Nat), .int .i64 (i : Nat), u, .int .u32 f] 4 = .int .u32 f := rfl
  try simp only [q0, q1, q4]
  rw [asy, ← hf]
  exact h
def b8 (x : Int) : Int := IntKind.u8.wrap x
def s8 (x : Int) : Int := x.fdiv (2 ^ min (8 : Int).toNat IntKind.u32.bits)
def vn (n : Int) : List Int := (List.range 4).map fun i => b8 (tz s8 i n)
section
variable {w0 w : World} {R : List Asn} {v : Value} {l : List Int}
theorem bkn (S : St w0 w R) (x : Int) : St w0 (w.alloc (.cells #[.int .u8 x] T.ak)) (jq (.slice (some ⟨w.heap.size, 0, none⟩) 1 1) [x] :: R) := St.uy (l := [x]) S jj rfl (by unfold maxLen; simp)
def P3I (w0 : World) (l : List Int) (n : Int) (R : List Asn) : KL := fun x w1 => ∃ (v : Value) (i : Nat), x = [v, .int .u32 (tz s8 i n), .int .i64 (i : Nat)] ∧ i ≤ 4 ∧ St w0 w1 (jq v (l ++ (vn n).take i) :: R)
theorem si (n : Int) : (vn n).length = 4 := by simp [vn]
theorem awb (n : Int) {i : Nat} (hi : i < 4) : (vn n).take (i + 1) = (vn n).take i ++ [b8 (tz s8 i n)] := by
 rw [List.take_succ_eq_append_getElem (by rw [si]; exact hi)]
 simp [vn]
theorem aqh (S : St w0 w (jq v l :: R)) (hl : l.length ≤ 100000000) (n : Int) {K : KV} (h : ∀ w' v', St w0 w' (jq v' (l ++ vn n) :: R) → K v' w') : gb P F.em [v, .int .u32 n] w K := by
 rw [M.dw.fcall]
 apply M.dw.calls
 unfold M.dw
 rw [gg]
 refine ⟨P3I w0 l n R, fun x _ => 4 - ms x 2, ⟨v, 0, rfl, by omega, by simpa using S⟩, ?_⟩
 rintro x w1 ⟨v, i, rfl, hi, S⟩
 have q0 : gv [v, .int .u32 (tz s8 i n), .int .i64 (i : Nat)] 0 = v := rfl
 have q1 : gv [v, .int .u32 (tz s8 i n), .int .i64 (i : Nat)] 1 = .int .u32 (tz s8 i n) := rfl
 have q2 : gv [v, .int .u32 (tz s8 i n), .int .i64 (i : Nat)] 2 = .int .i64 (i : Nat) := rfl
 simp only [q2, gg]
 by_cases hil : i < 4
 ·have hil' : (i : Int) < 4 := by omega
  have hwi : IntKind.i64.wrap ((i : Int) + 1) = ((i + 1 : Nat) : Int) := by rw [gm (by omega) (by omega)]; rfl
  simp [hil']
  unfold M.dw.j2
  simp only [q0, q1, q2, gg]
  rw [nl (ks := .u32) (kd := .u8) (by kernel_rfl) (by kernel_rfl)]
  simp
  have S1 := bkn S (b8 (tz s8 i n))
  refine Go.Eng.ud et.f jj vu S1.swap (l2 := [b8 (tz s8 i n)]) (S1.row jj) (by simp [si]; omega) (by decide) fun w2 v2 S2 => ?_
  rw [abj (by omega), hwi]
  refine ⟨⟨v2, i + 1, rfl, by omega, ?_⟩, by simp [ms, gv]; omega⟩
  rw [awb n hil, ← List.append_assoc]
  exact S2.swap.drop
 ·have hil' : ¬ (i : Int) < 4 := by omega
  have he : i = 4 := by omega
  subst he
  simp
  rw [List.take_of_length_le (by rw [si]; omega)] at S
  exact h w1 v S
def shE (c : Int) (i : Nat) : Int := IntKind.u32.wrap (IntKind.u32.wrap c * 2 ^ min (8 * i) IntKind.u32.bits)
def aan (l : List Int) : Nat → Int
 | 0 => 0
 | i + 1 => orE (aan l i) (shE (l.getD i 0) i)
def xy (l : List Int) : Int := aan l 4
def U3I (w : World) (l : List Int) : KL := fun x w1 => ∃ (u0 u1 : Value) (i : Nat), x = [u0, u1, .int .u32 (aan l i), .int .i64 (i : Nat)] ∧ w1 = w ∧ i ≤ 4
theorem bbr (hs : SlB w v l) (hl : 4 ≤ l.length) {K : KV} (h : K (.int .u32 (xy l)) w) : gb P F.fa [v] w K := by
 rw [M.ei.fcall]
 apply M.ei.calls
 unfold M.ei
 obtain ⟨v', s', _, hsub⟩ := hs.sub (P := P) (t := T.f) (lo := none) (hi := some (.int .i64 (4 : Nat))) (i := 0) (j := 4) (by kernel_rfl) (by kernel_rfl) (.inl ⟨rfl, rfl⟩) (.inr ⟨_, rfl⟩) (Nat.zero_le _) hl
 have e4 : (List.take (4 - 0) (List.drop 0 l)) = l.take 4 := by simp
 rw [e4] at s'
 have hsub' : ∀ w1 K, slT P T.f v none (some (.int .i64 4)) none w1 K = K v' w1 := hsub
 have hl4 : (l.take 4).length = 4 := by simp; omega
 rw [gg, hsub', s'.im (by kernel_rfl), hl4]
 refine ⟨U3I w l, fun x _ => 4 - ms x 3, ⟨_, _, 0, rfl, rfl, by omega⟩, ?_⟩
 rintro x w1 ⟨u0, u1, i, rfl, rfl, hi⟩
 have q2 : gv [u0, u1, .int .u32 (aan l i), .int .i64 (i : Nat)] 2 = .int .u32 (aan l i) := rfl
 have q3 : gv [u0, u1, .int .u32 (aan l i), .int .i64 (i : Nat)] 3 = .int .i64 (i : Nat) := rfl
 have q0 : gv [u0, u1, .int .u32 (aan l i), .int .i64 (i : Nat)] 0 = u0 := rfl
 have q1 : gv [u0, u1, .int .u32 (aan l i), .int .i64 (i : Nat)] 1 = u1 := rfl
 simp only [q3, gg]
 by_cases hil : i < 4
 ·have hil' : (i : Int) < ((4 : Nat) : Int) := by omega
  have hwi : IntKind.i64.wrap ((i : Int) + 1) = ((i + 1 : Nat) : Int) := by rw [gm (by omega) (by omega)]; rfl
  have hw8 : IntKind.i64.wrap (8 * (i : Int)) = ((8 * i : Nat) : Int) := by rw [gm (by omega) (by omega)]; omega
  have hwu : IntKind.u64.wrap (8 * (i : Int)) = 8 * (i : Int) := abu (by omega) (by omega)
  have ht8 : (8 * (i : Int)).toNat = 8 * i := by omega
  obtain ⟨b, o, cap, hv, _, _, hc⟩ := s'.at (i := i) (by omega)
  have c0 := hc 0 _ rfl
  simp only [Nat.mul_one, Nat.add_zero] at c0
  have hgd : l.getD i 0 = (l.take 4)[i]'(by omega) := by
   rw [List.getD_eq_getElem?_getD, List.getElem?_eq_getElem (by omega), List.getElem_take]; rfl
  rw [← hgd] at c0
  rw [hl4] at hv
  have e : aan l (i + 1) = orE (aan l i) (shE (l.getD i 0) i) := rfl
  generalize l.getD i 0 = c at *
  rw [km, decide_eq_true hil', Eng.cond_true]
  unfold M.ei.j2
  simp only [q0, q1, q2, q3, gg, uk, hw8]
  rw [hv]
  rw [aet (by kernel_rfl) (by omega) (by omega)]
  have hz : szE P T.f = 1 := by kernel_rfl
  rw [hz]
  simp [c0]
  rw [nl (ks := .u8) (kd := .u32) (by kernel_rfl) (by kernel_rfl), nl (ks := .i64) (kd := .u64) (by kernel_rfl) (by kernel_rfl), hwu, adm (by omega), ht8, bdn, hwi]
  exact ⟨⟨_, _, i + 1, by rw [e]; rfl, rfl, by omega⟩, by simp [ms, gv]; omega⟩
 ·have hil' : ¬ (i : Int) < 4 := by omega
  have he : i = 4 := by omega
  subst he
  simp
  exact h
def kz (n : Int) : List Int := (List.range 8).map fun k => b8 (n.fdiv (2 ^ min (56 - 8 * k) IntKind.u64.bits))
theorem la (n : Int) : (kz n).length = 8 := by simp [kz]
theorem axr (n : Int) {k : Nat} (hk : k < 8) : (kz n).take (k + 1) = (kz n).take k ++ [b8 (n.fdiv (2 ^ min (56 - 8 * k) IntKind.u64.bits))] := by
 rw [List.take_succ_eq_append_getElem (by rw [la]; exact hk)]
 simp [kz]
def P6I (w0 : World) (l : List Int) (n : Int) (R : List Asn) : KL := fun x w1 => ∃ (v : Value) (k : Nat), x = [v, .int .i64 (56 - 8 * (k : Int))] ∧ k ≤ 8 ∧ St w0 w1 (jq v (l ++ (kz n).take k) :: R)
def bjj (x : List Value) : Nat := match gv x 1 with
 | .int _ k => (k + 8).toNat
 | _ => 0
theorem aem (S : St w0 w (jq v l :: R)) (hl : l.length ≤ 100000000) (n : Int) {K : KV} (h : ∀ w' v', St w0 w' (jq v' (l ++ kz n) :: R) → K v' w') : gb P F.ec [v, .int .u64 n] w K := by
 rw [M.dt.fcall]
 apply M.dt.calls
 unfold M.dt
 rw [gg]
 refine ⟨P6I w0 l n R, fun x _ => bjj x, ⟨v, 0, rfl, by omega, by simpa using S⟩, ?_⟩
 rintro x w1 ⟨v, k, rfl, hk, S⟩
 have q0 : gv [v, .int .i64 (56 - 8 * (k : Int))] 0 = v := rfl
 have q1 : gv [v, .int .i64 (56 - 8 * (k : Int))] 1 = .int .i64 (56 - 8 * (k : Int)) := rfl
 simp only [q1, gg]
 by_cases hil : k < 8
 ·have hil' : (0 : Int) ≤ 56 - 8 * (k : Int) := by omega
  have hwu : IntKind.u64.wrap (56 - 8 * (k : Int)) = 56 - 8 * (k : Int) := abu (by omega) (by omega)
  have hwi : IntKind.i64.wrap (56 - 8 * (k : Int) - 8) = 56 - 8 * ((k + 1 : Nat) : Int) := by rw [gm (by omega) (by omega)]; omega
  have htn : (56 - 8 * (k : Int)).toNat = 56 - 8 * k := by omega
  rw [qo, decide_eq_true hil']
  simp only [ge]
  unfold M.dt.j2
  simp only [q0, q1, gg]
  rw [nl (ks := .i64) (kd := .u64) (by kernel_rfl) (by kernel_rfl), hwu, abj hil', htn, nl (ks := .u64) (kd := .u8) (by kernel_rfl) (by kernel_rfl)]
  simp
  have S1 := bkn S (b8 (n.fdiv (2 ^ min (56 - 8 * k) IntKind.u64.bits)))
  refine Go.Eng.ud et.f jj vu S1.swap (l2 := [b8 (n.fdiv (2 ^ min (56 - 8 * k) IntKind.u64.bits))]) (S1.row jj) (by simp [la]; omega) (by decide) fun w2 v2 S2 => ?_
  rw [hwi]
  refine ⟨⟨v2, k + 1, rfl, by omega, ?_⟩, by simp [bjj, gv]; omega⟩
  rw [axr n hil, ← List.append_assoc]
  exact S2.swap.drop
 ·have hil' : ¬ (0 : Int) ≤ 56 - 8 * (k : Int) := by omega
  rw [qo, decide_eq_false hil']
  simp only [ge]
  rw [List.take_of_length_le (by rw [la]; omega)] at S
  exact h w1 v S
def aat (l : List Int) : Nat → Int
 | 0 => 0
 | i + 1 => orL (IntKind.u64.wrap (aat l i * 2 ^ min (8 : Int).toNat IntKind.u64.bits)) (IntKind.u64.wrap (l.getD i 0))
def aip (l : List Int) : Int := aat l 8
def U6I (w : World) (l : List Int) : KL := fun x w1 => ∃ (u0 : Value) (i : Nat), x = [u0, .int .u64 (aat l i), .int .i64 (i : Nat)] ∧ w1 = w ∧ i ≤ 8
theorem akk (hs : SlB w v l) (hl : 8 ≤ l.length) {K : KV} (h : K (.int .u64 (aip l)) w) : gb P F.ek [v] w K := by
 rw [M.ef.fcall]
 apply M.ef.calls
 unfold M.ef
 obtain ⟨v', s', _, hsub⟩ := hs.sub (P := P) (t := T.f) (lo := none) (hi := some (.int .i64 (8 : Nat))) (i := 0) (j := 8) (by kernel_rfl) (by kernel_rfl) (.inl ⟨rfl, rfl⟩) (.inr ⟨_, rfl⟩) (Nat.zero_le _) hl
 have e4 : (List.take (8 - 0) (List.drop 0 l)) = l.take 8 := by simp
 rw [e4] at s'
 have hsub' : ∀ w1 K, slT P T.f v none (some (.int .i64 8)) none w1 K = K v' w1 := hsub
 have hl4 : (l.take 8).length = 8 := by simp; omega
 rw [gg, hsub', s'.im (by kernel_rfl), hl4]
 refine ⟨U6I w l, fun x _ => 8 - ms x 2, ⟨_, 0, rfl, rfl, by omega⟩, ?_⟩
 rintro x w1 ⟨u0, i, rfl, rfl, hi⟩
 have q1 : gv [u0, .int .u64 (aat l i), .int .i64 (i : Nat)] 1 = .int .u64 (aat l i) := rfl
 have q2 : gv [u0, .int .u64 (aat l i), .int .i64 (i : Nat)] 2 = .int .i64 (i : Nat) := rfl
 have q0 : gv [u0, .int .u64 (aat l i), .int .i64 (i : Nat)] 0 = u0 := rfl
 simp only [q2, gg]
 by_cases hil : i < 8
 ·have hil' : (i : Int) < ((8 : Nat) : Int) := by omega
  have hwi : IntKind.i64.wrap ((i : Int) + 1) = ((i + 1 : Nat) : Int) := by rw [gm (by omega) (by omega)]; rfl
  obtain ⟨b, o, cap, hv, _, _, hc⟩ := s'.at (i := i) (by omega)
  have c0 := hc 0 _ rfl
  simp only [Nat.mul_one, Nat.add_zero] at c0
  have hgd : l.getD i 0 = (l.take 8)[i]'(by omega) := by
   rw [List.getD_eq_getElem?_getD, List.getElem?_eq_getElem (by omega), List.getElem_take]; rfl
  rw [← hgd] at c0
  rw [hl4] at hv
  have e : aat l (i + 1) = orL (IntKind.u64.wrap (aat l i * 2 ^ min (8 : Int).toNat IntKind.u64.bits)) (IntKind.u64.wrap (l.getD i 0)) := rfl
  generalize l.getD i 0 = c at *
  rw [km, decide_eq_true hil', Eng.cond_true]
  unfold M.ef.j2
  simp only [q0, q1, q2, gg]
  rw [hv]
  rw [aet (by kernel_rfl) (by omega) (by omega)]
  have hz : szE P T.f = 1 := by kernel_rfl
  rw [hz]
  simp [c0]
  rw [adm (by omega), nl (ks := .u8) (kd := .u64) (by kernel_rfl) (by kernel_rfl), beh, hwi]
  exact ⟨⟨_, i + 1, by rw [e], rfl, by omega⟩, by simp [ms, gv]; omega⟩
 ·have hil' : ¬ (i : Int) < 8 := by omega
  have he : i = 8 := by omega
  subst he
  simp
  exact h
theorem aor {n : Nat} (h : n < 4294967296) : IntKind.u32.wrap (n : Int) = n := by
 show (if (false && decide ((n : Int) % 4294967296 ≥ 2147483648)) = true then (n : Int) % 4294967296 - 4294967296 else (n : Int) % 4294967296) = n
 simp; omega
theorem bch {n : Nat} (h : n < 4294967296) : (BitVec.ofInt IntKind.u32.bits (n : Int)).toNat = n := by
 show (BitVec.ofInt 32 (n : Int)).toNat = n
 rw [BitVec.toNat_ofInt]; omega
theorem ahw {a c i : Nat} (ha : a < 2 ^ i) (hc : 2 ^ i * c + a < 4294967296) : orE (a : Int) ((2 ^ i * c : Nat) : Int) = ((2 ^ i * c + a : Nat) : Int) := by
 unfold orE
 rw [BitVec.toNat_or, bch (by omega), bch (by omega), Nat.or_comm, ← Nat.two_pow_add_eq_or_of_lt ha, aor hc]
theorem bhj {a c : Nat} (ha : a < 256) (hc : 256 * c + a < 18446744073709551616) : orL ((256 * c : Nat) : Int) (a : Int) = ((256 * c + a : Nat) : Int) := by
 have := Nat.two_pow_add_eq_or_of_lt (i := 8) (b := a) ha c
 unfold orL
 rw [BitVec.toNat_or]
 have h1 : (BitVec.ofInt IntKind.u64.bits ((256 * c : Nat) : Int)).toNat = 256 * c := ajn (by omega)
 have h2 : (BitVec.ofInt IntKind.u64.bits (a : Int)).toNat = a := ajn (by omega)
 rw [h1, h2, ← this, abb hc]
theorem agn {n : Nat} : b8 (n : Int) = ((n % 256 : Nat) : Int) := by
 unfold b8
 show (if (false && decide ((n : Int) % 256 ≥ 128)) = true then (n : Int) % 256 - 256 else (n : Int) % 256) = _
 simp
theorem asx {n : Nat} : s8 (n : Int) = ((n / 256 : Nat) : Int) := ahu n 8
theorem agi {n : Nat} (hn : n < 4294967296) (r : List Int) : xy (vn (n : Int) ++ r) = n := by
 have e : vn (n : Int) = [((n % 256 : Nat) : Int), ((n / 256 % 256 : Nat) : Int), ((n / 256 / 256 % 256 : Nat) : Int), ((n / 256 / 256 / 256 % 256 : Nat) : Int)] := by
  show [b8 (n : Int), b8 (s8 n), b8 (s8 (s8 n)), b8 (s8 (s8 (s8 n)))] = _
  rw [asx, asx, asx, agn, agn, agn, agn]
 rw [e]
 generalize h0 : n % 256 = c0
 generalize h1 : n / 256 % 256 = c1
 generalize h2 : n / 256 / 256 % 256 = c2
 generalize h3 : n / 256 / 256 / 256 % 256 = c3
 have sh : ∀ (c i : Nat), c < 256 → i < 4 → 2 ^ (8 * i) * c < 4294967296 → shE (c : Int) i = ((2 ^ (8 * i) * c : Nat) : Int) := fun c i hc hi hb => by
  unfold shE
  rw [aor (by omega)]
  have hm : min (8 * i) IntKind.u32.bits = 8 * i := Nat.min_eq_left (by show 8 * i ≤ 32; omega)
  rw [hm]
  have : (c : Int) * 2 ^ (8 * i) = ((2 ^ (8 * i) * c : Nat) : Int) := by rw [Int.mul_comm]; simp
  rw [this, aor hb]
 show orE (orE (orE (orE 0 (shE (c0 : Int) 0)) (shE (c1 : Int) 1)) (shE (c2 : Int) 2)) (shE (c3 : Int) 3) = n
 rw [sh c0 0 (by omega) (by omega) (by simp; omega), sh c1 1 (by omega) (by omega) (by simp; omega), sh c2 2 (by omega) (by omega) (by simp; omega), sh c3 3 (by omega) (by omega) (by simp; omega)]
 have z0 := ahw (a := 0) (c := c0) (i := 0) (by simp) (by simp; omega)
 have z1 := ahw (a := c0) (c := c1) (i := 8) (by simp; omega) (by simp; omega)
 have z2 := ahw (a := 256 * c1 + c0) (c := c2) (i := 16) (by simp; omega) (by simp; omega)
 have z3 := ahw (a := 65536 * c2 + (256 * c1 + c0)) (c := c3) (i := 24) (by simp; omega) (by simp; omega)
 simp only [Nat.mul_zero, Nat.pow_zero, Nat.one_mul, Nat.add_zero, Nat.mul_one] at z0 z1 z2 z3 ⊢
 rw [show ((0 : Int)) = ((0 : Nat) : Int) from rfl, z0, z1]
 rw [show 2 ^ 8 * c1 + c0 = 256 * c1 + c0 from rfl, show 8 * 2 = 16 from rfl, z2, show 2 ^ 16 * c2 + (256 * c1 + c0) = 65536 * c2 + (256 * c1 + c0) from rfl, show 8 * 3 = 24 from rfl, z3]
 congr 1
 show 16777216 * c3 + (65536 * c2 + (256 * c1 + c0)) = n
 omega
theorem amz {n : Nat} (hn : n < 18446744073709551616) (r : List Int) : aip (kz (n : Int) ++ r) = n := by
 have hb : ∀ k, k < 8 → (kz (n : Int) ++ r).getD k 0 = ((n / 2 ^ (56 - 8 * k) % 256 : Nat) : Int) := fun k hk => by
  rw [List.getD_eq_getElem?_getD, List.getElem?_append_left (by rw [la]; exact hk)]
  unfold kz
  rw [List.getElem?_map, List.getElem?_range hk]
  show b8 ((n : Int).fdiv (2 ^ min (56 - 8 * k) IntKind.u64.bits)) = _
  have hm : min (56 - 8 * k) IntKind.u64.bits = 56 - 8 * k := Nat.min_eq_left (by show 56 - 8 * k ≤ 64; omega)
  rw [hm, ahu, agn]
 have key : ∀ i, i ≤ 8 → aat (kz (n : Int) ++ r) i = ((n / 2 ^ (64 - 8 * i) : Nat) : Int) := by
  intro i
  induction i with
  | zero => intro _; show (0 : Int) = _; simp; omega
  | succ i ih =>
   intro hi
   show orL (IntKind.u64.wrap (aat (kz (n : Int) ++ r) i * 2 ^ 8)) (IntKind.u64.wrap ((kz (n : Int) ++ r).getD i 0)) = _
   rw [ih (by omega), hb i (by omega)]
   have e1 : n / 2 ^ (64 - 8 * i) = n / 2 ^ (56 - 8 * i) / 256 := by
    rw [Nat.div_div_eq_div_mul]
    congr 1
    rw [show (256 : Nat) = 2 ^ 8 from rfl, ← Nat.pow_add]
    congr 1; omega
   have e2 : 64 - 8 * (i + 1) = 56 - 8 * i := by omega
   rw [e1, e2]
   have hlt : n / 2 ^ (56 - 8 * i) ≤ n := Nat.div_le_self _ _
   generalize n / 2 ^ (56 - 8 * i) = m at *
   have e3 : ((m / 256 : Nat) : Int) * 2 ^ 8 = ((256 * (m / 256) : Nat) : Int) := by rw [Int.mul_comm]; simp
   rw [e3, abb (by omega), abb (by omega), bhj (by omega) (by omega)]
   congr 1; omega
 show aat _ 8 = _
 rw [key 8 (by omega)]; simp
theorem aih (z : Int) : ∃ n : Nat, IntKind.u32.wrap z = (n : Int) ∧ n < 4294967296 := by
 have : IntKind.u32.wrap z = z % 4294967296 := by
  show (if (false && decide (z % 4294967296 ≥ 2147483648)) = true then z % 4294967296 - 4294967296 else z % 4294967296) = _
  simp
 exact ⟨(z % 4294967296).toNat, by rw [this]; omega, by omega⟩
theorem aqu (l : List Int) : ∃ n : Nat, aai l = (n : Int) ∧ n < 4294967296 := by
 unfold aai
 rw [aiv, aqw]
 exact aih _
end
end Go.Proofs.YtfnhoaemapheoaaGreat
