/-
  Sorting a row of whole numbers (uint64): the partial insertion sort, the range turned round. No condition.
-/
import Derived.Test.YtfnhoaemapheoaaGreatZWl8
import Derived.Test.YtfnhoaemapheoaaGreatZSpn0
import Derived.Test.YtfnhoaemapheoaaGreatZEngSl
import Derived.Test.YtfnhoaemapheoaaGreatZMs0
import Derived.Test.YtfnhoaemapheoaaGreatM
import Derived.Test.YtfnhoaemapheoaaGreatFacts
import Derived.Test.YtfnhoaemapheoaaGreatZKeyD
set_option maxRecDepth 100000
namespace Go.Proofs.YtfnhoaemapheoaaGreat.Suint64
open Go.Eng Go.Sort
def RvI (w : World) (g : Nat) (e : TypeId) (cap n : Nat) (R : Array Int) : KL := fun x w1 => ∃ (i j : Nat) (d : Array Int), x = [.int .i64 (i : Int), .int .i64 (j : Int)] ∧ Rf w w1 g e cap d ∧ d.size = n ∧ i ≤ n ∧ j < n ∧ reverseLoop i j d = R
theorem aec {w : World} {g cap n : Nat} {e : TypeId} {d : Array Int} (H : Rw w g e cap d) (hn : d.size = n) (h6 : n < 100000) {a b : Nat} (hb : b ≤ n) (hab : a < b) {K : KV}
  (h : ∀ w', Rf w w' g e cap (reverseRange d a b) → K (.tuple #[]) w') : ij P F.af [.slice (some ⟨g, 0, none⟩) n cap, .int .i64 a, .int .i64 b] w K := by
 apply M.ai.calls
 unfold M.ai
 have hw2 : IntKind.i64.wrap ((b : Int) - 1) = ((b - 1 : Nat) : Int) := by rw [fj (by omega) (by omega)]; omega
 simp only [ja, hw2]
 unfold reverseRange at h
 generalize hR : reverseLoop a (b - 1) d = R at *
 refine ⟨RvI w g e cap n R, fun x _ => ms x 1 - ms x 0, ⟨a, b - 1, d, rfl, H.lx, hn, by omega, by omega, hR⟩, ?_⟩
 clear hR
 rintro x w1 ⟨i, j, d1, rfl, H1, hn1, hi, hj, hR⟩
 simp only [fh, g20, g21]
 unfold reverseLoop at hR
 by_cases hij : i < j
 ·have hij' : (i : Int) < j := by omega
  rw [if_pos hij] at hR
  simp only [ka, hij', decide_true, Eng.cond_true]
  unfold M.ai.j1
  have c1 := H1.row.at (show i < d1.size by omega)
  have c2 := H1.row.at (show j < d1.size by omega)
  have e1 : (i : Int) < n := by omega
  have e2 : (j : Int) < n := by omega
  have f1 := H1.row.frz i
  have f2 := H1.row.frz j
  have hw3 : IntKind.i64.wrap ((i : Int) + 1) = ((i + 1 : Nat) : Int) := jg (by omega)
  have hw4 : IntKind.i64.wrap ((j : Int) - 1) = ((j - 1 : Nat) : Int) := by rw [fj (by omega) (by omega)]; omega
  simp [g20, g21, e1, e2, c1, c2, f1, f2, gj, gp, hw3, hw4, -Int.natCast_add]
  refine ⟨⟨i + 1, j - 1, _, rfl, (H1.dr 1).swp (by omega) (by omega), by rw [size_swp]; exact hn1, by omega, by omega, hR⟩, ?_⟩
  simp [ms, gv]; omega
 ·have hij' : ¬ (i : Int) < j := by omega
  rw [if_neg hij] at hR
  subst hR
  simp only [ka, hij', decide_false, Eng.cond_false]
  exact h w1 H1
theorem zc (d : Array Int) (b : Nat) : ∀ m i, b - i ≤ m → i ≤ b → i ≤ scanSorted ltInt d b i ∧ scanSorted ltInt d b i ≤ b := by
 intro m
 induction m with
 | zero =>
  intro i hm hi
  unfold scanSorted
  rw [if_neg (by simp; omega)]
  omega
 | succ m ih =>
  intro i hm hi
  unfold scanSorted
  split
  ·rename_i h
   simp at h
   have := ih (i + 1) (by omega) (by omega)
   omega
  ·omega
theorem rh : ∀ (j : Nat) (d : Array Int), (shiftDown ltInt j d).size = d.size
 | 0, _ => rfl
 | j + 1, d => by
  unfold shiftDown
  split
  ·rfl
  ·rw [rh j, size_swp]
theorem aak (b : Nat) : ∀ (m j : Nat) (d : Array Int), b - j ≤ m → (shiftUp ltInt b j d).size = d.size := by
 intro m
 induction m with
 | zero =>
  intro j d hm
  unfold shiftUp
  rw [if_neg (by omega)]
 | succ m ih =>
  intro j d hm
  unfold shiftUp
  split
  ·split
   ·rfl
   ·rw [ih _ _ (by omega), size_swp]
  ·rfl
section
variable {w : World} {g cap n : Nat} {e : TypeId} {d : Array Int}
def SsI (w : World) (g : Nat) (e : TypeId) (cap : Nat) (d : Array Int) (a b r : Nat) : KL := fun x w1 => ∃ i : Nat, x = [.int .i64 (i : Int)] ∧ Rf w w1 g e cap d ∧ a < i ∧ i ≤ b ∧ scanSorted ltInt d b i = r
theorem ahv (H : Rw w g e cap d) (hn : d.size = n) (h6 : n < 100000) {a b i : Nat} (hb : b ≤ n) (ha : a < i) (hi : i ≤ b) {K4 : KL} {K : KV}
  (h : ∀ w', Rf w w' g e cap d → K4 [.int .i64 (scanSorted ltInt d b i : Nat)] w') :
  fc (fun K4 => gm [.int .i64 (i : Int)] w fun K5 x5 w => M.b.j5 x5 (.int .i64 (b : Int)) (.slice (some ⟨g, 0, none⟩) n cap) K4 K5 w K) K4 := by
 rw [fh]
 generalize hr : scanSorted ltInt d b i = r at *
 refine ⟨SsI w g e cap d a b r, fun x _ => b - ms x 0, ⟨i, rfl, H.lx, ha, hi, hr⟩, ?_⟩
 clear hr
 rintro x w1 ⟨k, rfl, H1, hak, hkb, hR⟩
 unfold M.b.j5
 unfold scanSorted at hR
 by_cases hk : k < b
 ·have a1 := H1.row.at (show k < d.size by omega)
  have a2 := H1.row.at (show k - 1 < d.size by omega)
  have b1 : (k : Int) < n := by omega
  have b2 : ((k - 1 : Nat) : Int) < n := by omega
  have b3 : (k : Int) < b := by omega
  have hw : IntKind.i64.wrap ((k : Int) - 1) = ((k - 1 : Nat) : Int) := by rw [fj (by omega) (by omega)]; omega
  simp [g0, b1, b2, b3, a1, a2, hw]
  refine jo _ _ ?_
  cases hl : ltInt d[k]! d[k - 1]! with
  | true =>
   rw [if_neg (by simp [hl])] at hR
   simp
   rw [← hR] at h
   exact h _ (H1.dr 1)
  | false =>
   rw [if_pos (by simp [hl, hk])] at hR
   simp [jg (show k < 1000000 by omega)]
   refine ⟨⟨k + 1, by simp, H1.dr 1, by omega, by omega, hR⟩, ?_⟩
   simp [ms, gv]; omega
 ·have b3 : ¬ (k : Int) < b := by omega
  rw [if_neg (by simp [hk])] at hR
  simp [g0, b3]
  rw [← hR] at h
  exact h _ (H1.dr 1)
def SdI (w : World) (g : Nat) (e : TypeId) (cap n : Nat) (R : Array Int) : KL := fun x w1 => ∃ (j : Nat) (d : Array Int), x = [.int .i64 (j : Int)] ∧ Rf w w1 g e cap d ∧ d.size = n ∧ j < n ∧ shiftDown ltInt j d = R
theorem aid (H : Rw w g e cap d) (hn : d.size = n) (h6 : n < 100000) {j : Nat} (hj : j < n) {K9 : KL} {K : KV}
  (h : ∀ w' v, Rf w w' g e cap (shiftDown ltInt j d) → K9 [v] w') :
  gm [.int .i64 (j : Int)] w fun K10 x10 w => fc (fun K11 => en P .geq T.b (.tmp 64) (.const (.int .i64 1)) (gv x10 0) (.int .i64 1) w fun t65 w => fg t65 (K11 [] w) (K9 [(gv x10 0)] w)) fun x11 w => M.b.j11 (.slice (some ⟨g, 0, none⟩) n cap) x10 K9 K10 w K := by
 generalize hr : shiftDown ltInt j d = R at *
 refine ⟨SdI w g e cap n R, fun x _ => ms x 0, ⟨j, d, rfl, H.lx, hn, hj, hr⟩, ?_⟩
 clear hr
 rintro x w1 ⟨k, d1, rfl, H1, hn1, hk, hR⟩
 simp only [fh, g0, ke]
 cases k with
 | zero =>
  have hk0 : ¬ (1 : Int) ≤ ((0 : Nat) : Int) := by omega
  simp only [hk0, decide_false, Eng.cond_false]
  unfold shiftDown at hR
  subst hR
  exact h _ _ H1
 | succ k =>
  have hk0 : (1 : Int) ≤ ((k + 1 : Nat) : Int) := by omega
  simp only [hk0, decide_true, Eng.cond_true]
  unfold M.b.j11
  unfold shiftDown at hR
  have a1 := H1.row.at (show k + 1 < d1.size by omega)
  have a2 := H1.row.at (show k < d1.size by omega)
  have b1 : ((k + 1 : Nat) : Int) < n := by omega
  have b2 : (k : Int) < n := by omega
  have f1 := H1.row.frz (k + 1)
  have f2 := H1.row.frz k
  have hw : IntKind.i64.wrap (((k + 1 : Nat) : Int) - 1) = (k : Int) := by rw [fj (by omega) (by omega)]; omega
  simp [g0, b1, b2, a1, a2, hw, -Int.natCast_add]
  refine jo _ _ ?_
  cases hl : ltInt d1[k + 1]! d1[k]! with
  | false =>
   rw [if_pos (by simp [hl])] at hR
   subst hR
   simp
   exact h _ _ (H1.dr 1)
  | true =>
   rw [if_neg (by simp [hl])] at hR
   simp [-Int.natCast_add]
   unfold M.b.j13
   simp [g0, b1, b2, a1, a2, f1, f2, hw, gj, gp, -Int.natCast_add]
   refine ⟨⟨k, _, rfl, ((H1.dr 1).dr 1).swp (by omega) (by omega), by rw [size_swp]; exact hn1, by omega, hR⟩, ?_⟩
   simp [ms, gv]
def SuI (w : World) (g : Nat) (e : TypeId) (cap n b : Nat) (R : Array Int) : KL := fun x w1 => ∃ (j : Nat) (d : Array Int), x = [.int .i64 (j : Int)] ∧ Rf w w1 g e cap d ∧ d.size = n ∧ 1 ≤ j ∧ j ≤ b ∧ shiftUp ltInt b j d = R
theorem anh (H : Rw w g e cap d) (hn : d.size = n) (h6 : n < 100000) {j b : Nat} (hb : b ≤ n) (hj : 1 ≤ j) (hjb : j ≤ b) {K3 : KL} {x4 x8 x9 : List Value} {K : KV}
  (h : ∀ w' v, Rf w w' g e cap (shiftUp ltInt b j d) → K3 [gv x4 0, gv x8 0, gv x9 0, v] w') :
  gm [.int .i64 (j : Int)] w fun K14 x14 w => M.b.j14 x14 (.int .i64 (b : Int)) K3 x4 x8 x9 (.slice (some ⟨g, 0, none⟩) n cap) K14 w K := by
 generalize hr : shiftUp ltInt b j d = R at *
 refine ⟨SuI w g e cap n b R, fun x _ => b - ms x 0, ⟨j, d, rfl, H.lx, hn, hj, hjb, hr⟩, ?_⟩
 clear hr
 rintro x w1 ⟨k, d1, rfl, H1, hn1, hk1, hk, hR⟩
 unfold M.b.j14
 simp only [fh, g0, ka]
 unfold shiftUp at hR
 by_cases hkb : k < b
 ·have hkb' : (k : Int) < b := by omega
  rw [if_pos hkb] at hR
  simp only [hkb', decide_true, Eng.cond_true]
  unfold M.b.j15
  have a1 := H1.row.at (show k < d1.size by omega)
  have a2 := H1.row.at (show k - 1 < d1.size by omega)
  have b1 : (k : Int) < n := by omega
  have b2 : ((k - 1 : Nat) : Int) < n := by omega
  have f1 := H1.row.frz k
  have f2 := H1.row.frz (k - 1)
  have hw : IntKind.i64.wrap ((k : Int) - 1) = ((k - 1 : Nat) : Int) := by rw [fj (by omega) (by omega)]; omega
  simp [g0, b1, b2, a1, a2, hw]
  refine jo _ _ ?_
  cases hl : ltInt d1[k]! d1[k - 1]! with
  | false =>
   rw [if_pos (by simp [hl])] at hR
   subst hR
   simp
   exact h _ _ (H1.dr 1)
  | true =>
   rw [if_neg (by simp [hl])] at hR
   simp
   unfold M.b.j17
   simp [g0, b1, b2, a1, a2, f1, f2, hw, gj, gp, jg (show k < 1000000 by omega)]
   refine ⟨⟨k + 1, _, by simp, ((H1.dr 1).dr 1).swp (by omega) (by omega), by rw [size_swp]; exact hn1, by omega, by omega, hR⟩, ?_⟩
   simp [ms, gv]; omega
 ·have hkb' : ¬ (k : Int) < b := by omega
  rw [if_neg hkb] at hR
  simp only [hkb', decide_false, Eng.cond_false]
  subst hR
  exact h _ _ H1
end
def PiI (w : World) (g : Nat) (e : TypeId) (cap n a b : Nat) (R : Array Int × Bool) : KL := fun x w1 => ∃ (u1 u2 u3 : Value) (i s : Nat) (d : Array Int), x = [.int .i64 (i : Int), u1, u2, u3, .int .i64 ((5 - s : Nat) : Int)] ∧ Rf w w1 g e cap d ∧ d.size = n ∧ s ≤ 5 ∧ a < i ∧ i ≤ b ∧ partialIns ltInt a b s i d = R
theorem yx {w : World} {g cap n : Nat} {e : TypeId} {d : Array Int} (H : Rw w g e cap d) (hn : d.size = n) (h6 : n < 100000) {a b : Nat} (hb : b ≤ n) (hab : a < b) {K : KV}
  (h : ∀ w', Rf w w' g e cap (partialInsertionSort ltInt d a b).1 → K (.bool (partialInsertionSort ltInt d a b).2) w') : ij P F.n [.slice (some ⟨g, 0, none⟩) n cap, .int .i64 a, .int .i64 b] w K := by
 apply M.b.calls
 unfold M.b
 simp only [iw, jg (show a < 1000000 by omega), fh]
 unfold partialInsertionSort at h
 generalize hR : partialIns ltInt a b 5 (a + 1) d = R at *
 refine ⟨PiI w g e cap n a b R, fun x _ => 5 - ms x 4, ⟨_, _, _, a + 1, 5, d, rfl, H.lx, hn, by omega, by omega, by omega, hR⟩, ?_⟩
 clear hR
 rintro x w1 ⟨u1, u2, u3, i, s, d1, rfl, H1, hn1, hs, hai, hib, hR⟩
 have q0 : ∀ a b c d e : Value, gv [a, b, c, d, e] 0 = a := fun _ _ _ _ _ => rfl
 have q1 : ∀ a b c d e : Value, gv [a, b, c, d, e] 1 = b := fun _ _ _ _ _ => rfl
 have q2 : ∀ a b c d e : Value, gv [a, b, c, d, e] 2 = c := fun _ _ _ _ _ => rfl
 have q3 : ∀ a b c d e : Value, gv [a, b, c, d, e] 3 = d := fun _ _ _ _ _ => rfl
 have q4 : ∀ a b c d e : Value, gv [a, b, c, d, e] 4 = e := fun _ _ _ _ _ => rfl
 unfold M.b.j1
 simp only [fh, q0, q1, q2, q3, q4, ka]
 cases s with
 | zero =>
  simp
  unfold partialIns at hR
  subst hR
  exact h _ H1
 | succ s =>
  rw [show 5 - (s + 1) = 4 - s from by omega]
  have hs5 : ((4 - s : Nat) : Int) < 5 := by omega
  simp only [hs5, decide_true, Eng.cond_true]
  unfold M.b.j2
  unfold partialIns at hR
  simp only at hR
  rw [fh]
  simp only [q0, q1, q2, q3, q4]
  refine ahv (a := a) H1.row hn1 h6 hb hai hib fun w2 H2 => ?_
  have hsc := zc d1 b _ i (Nat.le_refl _) hib
  generalize scanSorted ltInt d1 b i = i2 at *
  have H2' := H1.trans H2
  simp only [fh, g0, rm]
  by_cases hib2 : i2 = b
  ·have : (i2 : Int) = b := by omega
   rw [if_pos hib2] at hR
   simp only [this, decide_true, Eng.cond_true]
   subst hR
   exact h _ H2'
  have hib2' : ¬ (i2 : Int) = b := by omega
  rw [if_neg hib2] at hR
  simp only [hib2', decide_false, Eng.cond_false]
  unfold M.b.j7
  have hw0 : IntKind.i64.wrap ((b : Int) - a) = ((b - a : Nat) : Int) := na (by omega) (by omega)
  simp only [fh, ja, hw0, ka]
  by_cases h50 : b - a < 50
  ·have : ((b - a : Nat) : Int) < 50 := by omega
   rw [if_pos h50] at hR
   simp only [this, decide_true, Eng.cond_true]
   subst hR
   exact h _ H2'
  have h50' : ¬ ((b - a : Nat) : Int) < 50 := by omega
  rw [if_neg h50] at hR
  simp only [h50', decide_false, Eng.cond_false]
  unfold M.b.j8
  have a1 := H2.row.at (show i2 < d1.size by omega)
  have a2 := H2.row.at (show i2 - 1 < d1.size by omega)
  have b1 : (i2 : Int) < n := by omega
  have b2 : ((i2 - 1 : Nat) : Int) < n := by omega
  have f1 := H2.row.frz i2
  have f2 := H2.row.frz (i2 - 1)
  have hw : IntKind.i64.wrap ((i2 : Int) - 1) = ((i2 - 1 : Nat) : Int) := by rw [fj (by omega) (by omega)]; omega
  have hwa : IntKind.i64.wrap ((i2 : Int) - a) = ((i2 - a : Nat) : Int) := na (by omega) (by omega)
  simp [g0, b1, b2, a1, a2, f1, f2, hw, hwa, gj, gp, -fh]
  have H3 := (H2'.dr 1).swp (i := i2) (j := i2 - 1) (by omega) (by omega)
  generalize ((dr w2 1).setCell ⟨g, i2, none⟩ (.int .u64 d1[i2 - 1]!)).setCell ⟨g, i2 - 1, none⟩ (.int .u64 d1[i2]!) = w3 at *
  have hn3 : (Sort.swp d1 i2 (i2 - 1)).size = n := by rw [size_swp]; exact hn1
  generalize Sort.swp d1 i2 (i2 - 1) = d3 at *
  -- behind the shift gh
  have tail : ∀ (x9 : List Value) (w4 : World) (d4 : Array Int), Rf w w4 g e cap d4 → d4.size = n → partialIns ltInt a b s i2 (if b - i2 ≥ 2 then shiftUp ltInt b (i2 + 1) d4 else d4) = R → ∀ (K3 : KL) (x8 x1 : List Value),
    (∀ w' v, ∀ d5, Rf w w' g e cap d5 → d5.size = n → partialIns ltInt a b s i2 d5 = R → K3 [.int .i64 (i2 : Int), gv x8 0, gv x9 0, v] w') →
    M.b.j9 (.int .i64 b) [.int .i64 i2] K3 x8 x9 (.slice (some ⟨g, 0, none⟩) n cap) x1 w4 K := by
   intro x9 w4 d4 H4 hn4 hR4 K3 x8 x1 hK
   unfold M.b.j9
   have hwb : IntKind.i64.wrap ((b : Int) - i2) = ((b - i2 : Nat) : Int) := na (by omega) (by omega)
   simp only [g0, ja, hwb, ke]
   by_cases h2 : b - i2 ≥ 2
   ·have h2' : (2 : Int) ≤ ((b - i2 : Nat) : Int) := by omega
    rw [if_pos h2] at hR4
    simp only [h2', decide_true, Eng.cond_true, iw, jg (show i2 < 1000000 by omega)]
    refine anh H4.row hn4 h6 hb (by omega) (by omega) fun w5 v H5 => ?_
    exact hK _ v _ (H4.trans H5) (by rw [aak _ _ _ _ (Nat.le_refl _)]; exact hn4) hR4
   ·have h2' : ¬ (2 : Int) ≤ ((b - i2 : Nat) : Int) := by omega
    rw [if_neg h2] at hR4
    simp only [h2', decide_false, Eng.cond_false]
    exact hK _ _ _ H4 hn4 hR4
  have fin : ∀ w' (x : List Value) d5, gv x 0 = .int .i64 i2 → Rf w w' g e cap d5 → d5.size = n → partialIns ltInt a b s i2 d5 = R →
    PiI w g e cap n a b R [gv x 0, gv x 1, gv x 2, gv x 3, .int .i64 (IntKind.i64.wrap (((4 - s : Nat) : Int) + 1))] w' ∧ 5 - ms [gv x 0, gv x 1, gv x 2, gv x 3, .int .i64 (IntKind.i64.wrap (((4 - s : Nat) : Int) + 1))] 4 < 5 - ms [.int .i64 (i : Int), u1, u2, u3, .int .i64 ((4 - s : Nat) : Int)] 4 := by
   intro w' x d5 hx H5 hn5 hR5
   have : IntKind.i64.wrap (((4 - s : Nat) : Int) + 1) = ((5 - s : Nat) : Int) := by rw [fj (by omega) (by omega)]; omega
   rw [this, hx]
   refine ⟨⟨_, _, _, i2, s, d5, rfl, H5, hn5, by omega, by omega, by omega, hR5⟩, ?_⟩
   simp only [ms, q4]; omega
  by_cases h2 : i2 - a ≥ 2
  ·have h2' : (2 : Int) ≤ ((i2 - a : Nat) : Int) := by omega
   rw [if_pos h2] at hR
   simp only [fh, h2', decide_true, Eng.cond_true]
   refine aid H3.row hn3 h6 (by omega) fun w4 v H4 => ?_
   refine tail _ _ _ (H3.trans H4) (by rw [rh]; exact hn3) hR _ _ _ fun w' v d5 H5 hn5 hR5 => ?_
   exact fin w' [.int .i64 (i2 : Int), _, _, v] d5 rfl H5 hn5 hR5
  ·have h2' : ¬ (2 : Int) ≤ ((i2 - a : Nat) : Int) := by omega
   rw [if_neg h2] at hR
   simp only [fh, h2', decide_false, Eng.cond_false]
   refine tail _ _ _ H3 hn3 hR _ _ _ fun w' v d5 H5 hn5 hR5 => ?_
   exact fin w' [.int .i64 (i2 : Int), _, _, v] d5 rfl H5 hn5 hR5
set_option maxRecDepth 100000
open Go.Eng Go.Sort
theorem Rf.vz {w w' w'' : World} {g cap sb : Nat} {e : TypeId} {d : Array Int} (h : Rf w w' g e cap d) (f : Fr (fun b => b = sb) w' w'') (hs : w.heap.size ≤ sb) (hne : sb ≠ g) : Rf w w'' g e cap d :=
 ⟨h.row.fr f fun h => hne h.symm, h.fr.kg f fun b hb he => by omega⟩
theorem Rf.new {w w' : World} {g cap : Nat} {e : TypeId} {d : Array Int} (h : Rf w w' g e cap d) (o : Obj) : Rf w (w'.alloc o) g e cap d :=
 ⟨h.row.fr ((Fr.refl (fun _ => False) w').alloc o) fun h => h, h.fr.alloc o⟩
def Sw (w : World) (sb : Nat) : Prop := ∃ x e, w.heap[sb]? = some (.cells #[.int .i64 x] e (0, 0))
theorem ug {w : World} {g cap n sb : Nat} {e : TypeId} {d : Array Int} (H : Rw w g e cap d) (hn : d.size = n) (S : Sw w sb) (hne : sb ≠ g) {a b : Nat} (ha : a < n) (hb : b < n) {K : KV}
  (h : ∀ w' x y, (x = a ∧ y = b ∨ x = b ∧ y = a) → Sw w' sb → Fr (fun b => b = sb) w w' → K (.tuple #[.int .i64 (x : Nat), .int .i64 (y : Nat)]) w') :
  ey P F.v [.slice (some ⟨g, 0, none⟩) n cap, .int .i64 a, .int .i64 b, .pointer (some ⟨sb, 0, none⟩)] w K := by
 rw [M.bl.fcall]
 apply M.bl.calls
 unfold M.bl
 have a1 := H.at (show a < d.size by omega)
 have a2 := H.at (show b < d.size by omega)
 have b1 : (a : Int) < n := by omega
 have b2 : (b : Int) < n := by omega
 simp [b1, b2, a1, a2]
 refine jo _ _ ?_
 obtain ⟨x, e', hx⟩ := S
 cases hl : ltInt d[b]! d[a]! with
 | false =>
  simp
  exact h _ a b (.inl ⟨rfl, rfl⟩) ⟨x, e', hx⟩ ((Fr.refl _ _).dr 1)
 | true =>
  have c0 := fm hx 0
  have f0 := kj hx 0
  simp only [List.size_toArray, List.getElem?_toArray, List.getElem?_cons_zero] at c0
  simp [c0, f0]
  exact h _ b a (.inr ⟨rfl, rfl⟩) ⟨IntKind.i64.wrap (x + 1), e', zy hx⟩ (((Fr.refl (fun b => b = sb) w).dr 1).setCell (.inl rfl) _ _)
theorem yn {w : World} {g cap n sb : Nat} {e : TypeId} {d : Array Int} (H : Rw w g e cap d) (hn : d.size = n) (S : Sw w sb) (hne : sb ≠ g) {a b c : Nat} (ha : a < n) (hb : b < n) (hc : c < n) {K : KV}
  (h : ∀ w' x, (x = a ∨ x = b ∨ x = c) → Sw w' sb → Fr (fun b => b = sb) w w' → K (.int .i64 (x : Nat)) w') :
  ey P F.u [.slice (some ⟨g, 0, none⟩) n cap, .int .i64 a, .int .i64 b, .int .i64 c, .pointer (some ⟨sb, 0, none⟩)] w K := by
 rw [M.bk.fcall]
 apply M.bk.calls
 unfold M.bk
 refine ug H hn S hne ha hb fun w1 x1 y1 h1 S1 f1 => ?_
 simp
 have H1 := H.fr f1 fun h => hne h.symm
 refine ug H1 hn S1 hne (a := y1) (b := c) (by omega) hc fun w2 x2 y2 h2 S2 f2 => ?_
 simp
 have H2 := H1.fr f2 fun h => hne h.symm
 refine ug H2 hn S2 hne (a := x1) (b := x2) (by omega) (by omega) fun w3 x3 y3 h3 S3 f3 => ?_
 simp
 exact h w3 y3 (by omega) S3 ((f1.trans f2).trans f3)
theorem aan {w : World} {g cap n sb : Nat} {e : TypeId} {d : Array Int} (H : Rw w g e cap d) (hn : d.size = n) (h6 : n < 100000) (S : Sw w sb) (hne : sb ≠ g) {a : Nat} (ha : 1 ≤ a) (hb : a + 1 < n) {K : KV}
  (h : ∀ w' x, (x = a - 1 ∨ x = a ∨ x = a + 1) → Sw w' sb → Fr (fun b => b = sb) w w' → K (.int .i64 (x : Nat)) w') :
  ey P F.f [.slice (some ⟨g, 0, none⟩) n cap, .int .i64 a, .pointer (some ⟨sb, 0, none⟩)] w K := by
 rw [M.aw.fcall]
 apply M.aw.calls
 unfold M.aw
 have hw1 : IntKind.i64.wrap ((a : Int) - 1) = ((a - 1 : Nat) : Int) := by rw [fj (by omega) (by omega)]; omega
 have hw2 : IntKind.i64.wrap ((a : Int) + 1) = ((a + 1 : Nat) : Int) := jg (by omega)
 simp only [ja, iw, hw1, hw2]
 refine yn H hn S hne (by omega) (by omega) (by omega) fun w' x hx S' f' => ?_
 exact h w' x hx S' f'
theorem ahz {w : World} {g cap n : Nat} {e : TypeId} {d : Array Int} (H : Rw w g e cap d) (hn : d.size = n) (h6 : n < 100000) {a b : Nat} (hb : b ≤ n) (hab : a + 12 < b) {K : KV}
  (h : ∀ w' (p hint : Nat), a ≤ p → p < b → hint ≤ 2 → Rf w w' g e cap d → K (.tuple #[.int .i64 (p : Nat), .int .i64 (hint : Nat)]) w') :
  ij P F.ag [.slice (some ⟨g, 0, none⟩) n cap, .int .i64 a, .int .i64 b] w K := by
 apply M.x.calls
 unfold M.x
 have hw0 : IntKind.i64.wrap ((b : Int) - a) = ((b - a : Nat) : Int) := na (by omega) (by omega)
 generalize hl : b - a = l at *
 have q4 : IntKind.i64.wrap (((l : Nat) : Int).tdiv 4) = ((l / 4 : Nat) : Int) := by rw [Int.tdiv_eq_ediv_of_nonneg (by omega), fj (by omega) (by omega)]; omega
 have m1 : IntKind.i64.wrap (((l / 4 : Nat) : Int) * 1) = ((l / 4 : Nat) : Int) := by rw [fj (by omega) (by omega)]; omega
 have m2 : IntKind.i64.wrap (((l / 4 : Nat) : Int) * 2) = ((l / 4 * 2 : Nat) : Int) := by rw [fj (by omega) (by omega)]; omega
 have m3 : IntKind.i64.wrap (((l / 4 : Nat) : Int) * 3) = ((l / 4 * 3 : Nat) : Int) := by rw [fj (by omega) (by omega)]; omega
 have s1 : IntKind.i64.wrap ((a : Int) + ((l / 4 : Nat) : Int)) = ((a + l / 4 : Nat) : Int) := by rw [fj (by omega) (by omega)]; omega
 have s2 : IntKind.i64.wrap ((a : Int) + ((l / 4 * 2 : Nat) : Int)) = ((a + l / 4 * 2 : Nat) : Int) := by rw [fj (by omega) (by omega)]; omega
 have s3 : IntKind.i64.wrap ((a : Int) + ((l / 4 * 3 : Nat) : Int)) = ((a + l / 4 * 3 : Nat) : Int) := by rw [fj (by omega) (by omega)]; omega
 have bq : ∀ (x : Int) (t : TypeId) (rx ry : Operand) (w : World) (K : KV), en P .quo t rx ry (.int .i64 x) (.int .i64 4) w K = K (.int .i64 (IntKind.i64.wrap (x.tdiv 4))) w := fun x t rx ry w K => zw (by decide)
 have al : ∀ (w : World) (K : KV), alT P T.b w K = K (.pointer (some ⟨w.heap.size, 0, none⟩)) (w.alloc (.cells #[.int .i64 0] T.b)) := fun w K => Eq.trans (by kernel_rfl) rfl
 have c8 : (8 : Int) ≤ (l : Int) := by omega
 simp only [ja, iw, sq, bq, hw0, q4, m1, m2, m3, s1, s2, s3, al, ke, c8, decide_true, Eng.cond_true]
 clear q4 m1 m2 m3 s1 s2 s3 bq al c8 hw0
 have H0 := H.lx.new (.cells #[.int .i64 0] T.b)
 have S0 : Sw (w.alloc (.cells #[.int .i64 0] T.b)) w.heap.size := ⟨0, T.b, by rw [fx, if_pos rfl]⟩
 have hne : w.heap.size ≠ g := by have := H.lt; omega
 generalize w.alloc (.cells #[.int .i64 0] T.b) = w0 at *
 have fin : ∀ (w1 : World) (p : Nat) (v1 v2 : Value), a ≤ p → p < b → Rf w w1 g e cap d → Sw w1 w.heap.size → M.x.j0 (.pointer (some ⟨w.heap.size, 0, none⟩)) [v1, .int .i64 (p : Nat), v2] w1 K := by
  intro w1 p v1 v2 hp1 hp2 H1 S1
  obtain ⟨x, e', hx⟩ := S1
  unfold M.x.j0
  have c0 := fm hx 0
  simp only [List.size_toArray, List.getElem?_toArray, List.getElem?_cons_zero] at c0
  have q1 : ∀ a b c : Value, gv [a, b, c] 1 = b := fun _ _ _ => rfl
  by_cases x0 : x = 0
  ·simp [c0, q1, x0]
   exact h w1 p 1 hp1 hp2 (by decide) H1
  by_cases x12 : x = 12
  ·simp [c0, q1, x12]
   exact h w1 p 2 hp1 hp2 (by decide) H1
  ·simp [c0, q1, x0, x12]
   exact h w1 p 0 hp1 hp2 (by decide) H1
 simp only [fh]
 have jl : ∀ (w1 : World) (x y z : Nat), a ≤ x → x < b → a ≤ y → y < b → a ≤ z → z < b → Rf w w1 g e cap d → Sw w1 w.heap.size →
   ey P F.u [.slice (some ⟨g, 0, none⟩) n cap, gv [.int .i64 (x : Int), .int .i64 (y : Int), .int .i64 (z : Int)] 0, gv [.int .i64 (x : Int), .int .i64 (y : Int), .int .i64 (z : Int)] 1, gv [.int .i64 (x : Int), .int .i64 (y : Int), .int .i64 (z : Int)] 2, .pointer (some ⟨w.heap.size, 0, none⟩)] w1 fun t48 w' =>
    M.x.j0 (.pointer (some ⟨w.heap.size, 0, none⟩)) [gv [.int .i64 (x : Int), .int .i64 (y : Int), .int .i64 (z : Int)] 0, t48, gv [.int .i64 (x : Int), .int .i64 (y : Int), .int .i64 (z : Int)] 2] w' K := by
  intro w1 x y z hx1 hx2 hy1 hy2 hz1 hz2 H1 S1
  refine yn H1.row hn S1 hne (a := x) (b := y) (c := z) (by omega) (by omega) (by omega) fun w2 p hp S2 f2 => ?_
  exact fin w2 p _ _ (by omega) (by omega) (H1.vz f2 (Nat.le_refl _) hne) S2
 by_cases h50 : 50 ≤ l
 ·have h50' : (50 : Int) ≤ (l : Int) := by omega
  simp only [h50', decide_true, Eng.cond_true]
  refine aan H0.row hn h6 S0 hne (by omega) (by omega) fun w1 x hx S1 f1 => ?_
  have H1 := H0.vz f1 (Nat.le_refl _) hne
  refine aan H1.row hn h6 S1 hne (by omega) (by omega) fun w2 y hy S2 f2 => ?_
  have H2 := H1.vz f2 (Nat.le_refl _) hne
  refine aan H2.row hn h6 S2 hne (by omega) (by omega) fun w3 z hz S3 f3 => ?_
  have H3 := H2.vz f3 (Nat.le_refl _) hne
  exact jl w3 x y z (by omega) (by omega) (by omega) (by omega) (by omega) (by omega) H3 S3
 ·have h50' : ¬ (50 : Int) ≤ (l : Int) := by omega
  simp only [h50', decide_false, Eng.cond_false]
  exact jl w0 (a + l / 4) (a + l / 4 * 2) (a + l / 4 * 3) (by omega) (by omega) (by omega) (by omega) (by omega) (by omega) H0 S0
def BpI (w : World) (g : Nat) (e : TypeId) (cap n a b idx0 : Nat) (d : Array Int) : KL := fun x w1 => ∃ (u : Value) (k : Nat) (d1 : Array Int) (r : Int), x = [u, .int .i64 ((idx0 + k : Nat) : Int)] ∧ Rf w w1 g e cap d1 ∧ d1.size = n ∧ k ≤ 3 ∧ PermIn a b d d1 ∧ 0 ≤ r ∧ r < 18446744073709551616 ∧ w1.heap[w.heap.size]? = some (.cells #[.int .u64 r] T.q (0, 0))
theorem ahw {w : World} {g cap n : Nat} {e : TypeId} {d : Array Int} (H : Rw w g e cap d) (hn : d.size = n) (h6 : n < 60000) {a b : Nat} (hb : b ≤ n) (hab : a + 12 < b) {K : KV}
  (h : ∀ w' d', PermIn a b d d' → Rf w w' g e cap d' → K (.tuple #[]) w') :
  ij P F.aa [.slice (some ⟨g, 0, none⟩) n cap, .int .i64 a, .int .i64 b] w K := by
 apply M.m.calls
 unfold M.m
 have hw0 : IntKind.i64.wrap ((b : Int) - a) = ((b - a : Nat) : Int) := na (by omega) (by omega)
 have hlb : a + (b - a) = b := by omega
 generalize hl : b - a = l at *
 have bq : ∀ (x : Int) (t : TypeId) (rx ry : Operand) (w : World) (K : KV), en P .quo t rx ry (.int .i64 x) (.int .i64 4) w K = K (.int .i64 (IntKind.i64.wrap (x.tdiv 4))) w := fun x t rx ry w K => zw (by decide)
 have q4 : IntKind.i64.wrap (((l : Nat) : Int).tdiv 4) = ((l / 4 : Nat) : Int) := by rw [Int.tdiv_eq_ediv_of_nonneg (by omega), fj (by omega) (by omega)]; omega
 have m2 : IntKind.i64.wrap (((l / 4 : Nat) : Int) * 2) = ((l / 4 * 2 : Nat) : Int) := by rw [fj (by omega) (by omega)]; omega
 have s2 : IntKind.i64.wrap ((a : Int) + ((l / 4 * 2 : Nat) : Int)) = ((a + l / 4 * 2 : Nat) : Int) := by rw [fj (by omega) (by omega)]; omega
 have s3 : IntKind.i64.wrap (((a + l / 4 * 2 : Nat) : Int) - 1) = ((a + l / 4 * 2 - 1 + 0 : Nat) : Int) := by rw [fj (by omega) (by omega)]; omega
 have s4 : IntKind.i64.wrap (((a + l / 4 * 2 : Nat) : Int) + 1) = ((a + l / 4 * 2 + 1 : Nat) : Int) := jg (by omega)
 have c8 : (8 : Int) ≤ (l : Int) := by omega
 have i64B : qm P T.b .i64 = true := by kernel_rfl
 have uB : qm P T.ay .u64 = true := by kernel_rfl
 have xB : qm P T.q .u64 = true := by kernel_rfl
 simp only [ja, hw0, ke, c8, decide_true, Eng.cond_true]
 rw [kf i64B xB, xg (by omega)]
 have hx0 : (w.alloc (.cells #[.int .u64 0] T.q)).heap[w.heap.size]? = some (.cells #[.int .u64 0] T.q (0, 0)) := by rw [fx, if_pos rfl]
 have H0 := H.lx.new (.cells #[.int .u64 0] T.q)
 have hne : w.heap.size ≠ g := by have := H.lt; omega
 have c0 := fm hx0 0
 have f0 := kj hx0 0
 simp only [List.size_toArray, List.getElem?_toArray, List.getElem?_cons_zero] at c0
 simp [c0, f0, -fh]
 have hx1 : ((w.alloc (.cells #[.int .u64 0] T.q)).setCell ⟨w.heap.size, 0, none⟩ (.int .u64 l)).heap[w.heap.size]? = some (.cells #[.int .u64 l] T.q (0, 0)) := jv hx0
 have H1 := H0.vz ((Fr.refl (fun b => b = w.heap.size) _).setCell (.inl rfl) 0 (.int .u64 (l : Int))) (Nat.le_refl _) hne
 generalize (w.alloc (.cells #[.int .u64 0] T.q)).setCell ⟨w.heap.size, 0, none⟩ (.int .u64 (l : Int)) = w1 at *
 rw [M.bs.fcall]
 refine asg (by omega) ?_
 have hp2 : 2 ^ bitsLen l ≤ 2 * l := two_pow_bitsLen_le (by omega)
 have hp1 : 0 < 2 ^ bitsLen l := Nat.pow_pos (by decide)
 simp only [bq, q4, sq, m2, iw, s2, ja, s3]
 generalize 2 ^ bitsLen l = md at *
 generalize hi0 : a + l / 4 * 2 - 1 = i0 at *
 refine ⟨BpI w g e cap n a b i0 d, fun x _ => i0 + 3 - ms x 1, ⟨_, 0, d, l, rfl, H1, hn, by omega, permIn_refl d a b, by omega, by omega, hx1⟩, ?_⟩
 rintro x w2 ⟨u, k, d2, r, rfl, H2, hn2, hk, hP, hr0, hr1, hx2⟩
 unfold M.m.j0
 simp only [fh, bq, q4, sq, m2, iw, s2, s4, g21, xv]
 by_cases hk3 : k < 3
 ·have hle : ((i0 + k : Nat) : Int) ≤ ((a + l / 4 * 2 + 1 : Nat) : Int) := by omega
  simp only [hle, decide_true, Eng.cond_true]
  unfold M.m.j1
  simp only [fh, g21]
  rw [M.bt.fcall]
  refine aio hx2 fun w3 y hy0 hy1 hx3 f3 => ?_
  have H3 := H2.vz f3 (Nat.le_refl _) hne
  obtain ⟨z, rfl⟩ : ∃ z : Nat, y = z := ⟨y.toNat, by omega⟩
  have hm1 : IntKind.u64.wrap ((md : Int) - 1) = ((md - 1 : Nat) : Int) := by rw [we (by omega) (by omega)]; omega
  have hand : (BitVec.ofInt IntKind.u64.bits (z : Int) &&& BitVec.ofInt IntKind.u64.bits ((md - 1 : Nat) : Int)).toNat ≤ md - 1 := axg (x := z) (y := md - 1) (by omega) (by omega)
  simp only [ja, hm1, akx]
  generalize (BitVec.ofInt IntKind.u64.bits (z : Int) &&& BitVec.ofInt IntKind.u64.bits ((md - 1 : Nat) : Int)).toNat = o at *
  rw [xg (by omega), kf uB i64B, ajr (by omega)]
  have tail : ∀ (o : Nat), o < l → M.m.j3 (.int .i64 a) [.int .i64 (o : Nat)] (.slice (some ⟨g, 0, none⟩) n cap) [u, .int .i64 ((i0 + k : Nat) : Int)] (fun x2 w' => BpI w g e cap n a b i0 d [gv x2 0, .int .i64 (IntKind.i64.wrap (((i0 + k : Nat) : Int) + 1))] w' ∧ i0 + 3 - ms [gv x2 0, .int .i64 (IntKind.i64.wrap (((i0 + k : Nat) : Int) + 1))] 1 < i0 + 3 - ms [u, .int .i64 ((i0 + k : Nat) : Int)] 1) w3 K := by
   intro o ho
   unfold M.m.j3
   have wr : IntKind.i64.wrap ((a : Int) + (o : Int)) = ((a + o : Nat) : Int) := by rw [fj (by omega) (by omega)]; omega
   have a1 := H3.row.at (show i0 + k < d2.size by omega)
   have a2 := H3.row.at (show a + o < d2.size by omega)
   have b1 : ((i0 + k : Nat) : Int) < n := by omega
   have b2 : ((a + o : Nat) : Int) < n := by omega
   have f1 := H3.row.frz (i0 + k)
   have f2 := H3.row.frz (a + o)
   simp [g0, g21, wr, b1, b2, a1, a2, f1, f2, gj, gp, -Int.natCast_add]
   have hw5 : IntKind.i64.wrap (((i0 + k : Nat) : Int) + 1) = ((i0 + (k + 1) : Nat) : Int) := by rw [fj (by omega) (by omega)]; omega
   rw [hw5]
   refine ⟨⟨_, k + 1, _, z, rfl, (H3.dr 1).swp (by omega) (by omega), by rw [size_swp]; exact hn2, by omega, permIn_trans _ _ _ a b hP (swp_permIn _ a b _ _ (by omega) (by omega) (by omega) (by omega) (by omega)), by omega, by omega, ?_⟩, ?_⟩
   ·rw [zk (by omega), zk (by omega)]; exact hx3
   ·simp only [ms, g21]; omega
  simp only [fh, ke, iw]
  by_cases hol : l ≤ o
  ·have hol' : (l : Int) ≤ o := by omega
   have hwo : IntKind.i64.wrap ((o : Int) - l) = ((o - l : Nat) : Int) := na (by omega) (by omega)
   simp only [hol', decide_true, Eng.cond_true, ja, hwo]
   exact tail (o - l) (by omega)
  ·have hol' : ¬ (l : Int) ≤ o := by omega
   simp only [hol', decide_false, Eng.cond_false]
   exact tail o (by omega)
 ·have hle : ¬ ((i0 + k : Nat) : Int) ≤ ((a + l / 4 * 2 + 1 : Nat) : Int) := by omega
  simp only [hle, decide_false, Eng.cond_false]
  exact h w2 d2 hP H2
section
theorem f5 (a0 a1 a2 a3 a4 a5 a6 a7 a8 a9 a10 a11 a12 a13 : Value) : gv [a0, a1, a2, a3, a4, a5, a6, a7, a8, a9, a10, a11, a12, a13] 5 = a5 := rfl
theorem f13 (a0 a1 a2 a3 a4 a5 a6 a7 a8 a9 a10 a11 a12 a13 : Value) : gv [a0, a1, a2, a3, a4, a5, a6, a7, a8, a9, a10, a11, a12, a13] 13 = a13 := rfl
end
structure ayr (w w1 : World) (g : Nat) (e : TypeId) (cap n a0 b0 : Nat) (d0 : Array Int) (a b limit : Nat) (wb wp : Bool) (d : Array Int) : Prop where
 rf : Rf w w1 g e cap d
 sz : d.size = n
 ab : a ≤ b
 bb : b - a ≤ b0 - a0
 bn : b ≤ n
 be : Below ltInt a b d
 fin : ∀ R, PermIn a b d R → SortedIn ltInt a b R → PermIn a0 b0 d0 R ∧ SortedIn ltInt a0 b0 R
def PdI (w : World) (g : Nat) (e : TypeId) (cap n a0 b0 : Nat) (d0 : Array Int) : KL := fun x w1 => ∃ (u0 u2 u3 u4 u6 u7 u9 u10 u11 : Value) (a b limit : Nat) (wb wp : Bool) (d : Array Int),
 x = [u0, .int .i64 (limit : Nat), u2, u3, u4, .int .i64 (a : Nat), u6, u7, .bool wp, u9, u10, u11, .bool wb, .int .i64 (b : Nat)] ∧ limit < 1000 ∧ ayr w w1 g e cap n a0 b0 d0 a b limit wb wp d
def IH (m : Nat) : Prop := ∀ {w : World} {g cap n : Nat} {e : TypeId} {d : Array Int} (_ : Rw w g e cap d) (_ : d.size = n) (_ : n < 60000) {a b limit : Nat} (_ : b - a ≤ m) (_ : a ≤ b) (_ : b ≤ n) (_ : limit < 1000) (_ : Below ltInt a b d) {K : KV}
  (_ : ∀ w' d', PermIn a b d d' → SortedIn ltInt a b d' → Rf w w' g e cap d' → K (.tuple #[]) w'), ij P F.r [.slice (some ⟨g, 0, none⟩) n cap, .int .i64 a, .int .i64 b, .int .i64 limit] w K
section
variable {m : Nat} {w : World} {g cap n : Nat} {e : TypeId} {d d5 : Array Int} {a0 b0 a b pv hint4 lim2 : Nat} {wb wp : Bool} {x0 : List Value} {K : KV}
theorem acj (ih : IH m) (h6 : n < 60000) (hm : b0 - a0 ≤ m + 1) (hbb : b - a ≤ b0 - a0) (hbn : b ≤ n) (hab : a ≤ b) (hpv1 : a ≤ pv) (hpv2 : pv < b) (hlim2 : lim2 < 1000) {w5 : World} (H5 : Rf w w5 g e cap d5) (hn5 : d5.size = n) (B5 : Below ltInt a b d5)
  (hfin5 : ∀ R, PermIn a b d5 R → SortedIn ltInt a b R → PermIn a0 b0 d R ∧ SortedIn ltInt a0 b0 R) (e5 : gv x0 5 = .int .i64 (a : Nat)) (e8 : gv x0 8 = .bool wp) (e12 : gv x0 12 = .bool wb) (e13 : gv x0 13 = .int .i64 (b : Nat)) (m5 : ms x0 5 = a) (m13 : ms x0 13 = b) (v0 : Value) :
  M.d.j6 (.slice (some ⟨g, 0, none⟩) n cap) [v0, .int .i64 (a : Nat)] x0 [.int .i64 (pv : Nat), .int .i64 (hint4 : Nat)] (.int .i64 ((b - a : Nat) : Int)) [.int .i64 (lim2 : Nat)] (fun x' w' => PdI w g e cap n a0 b0 d x' w' ∧ ms x' 13 - ms x' 5 < ms x0 13 - ms x0 5) w5 K := by
 unfold M.d.j6
 simp only [g20, g21, e13]
 rw [M.e.fcall]
 refine aaq H5.row hn5 (by omega) hbn hpv1 hpv2 fun w7 H7 => ?_
 have H7' := H5.trans H7
 obtain ⟨r1, r2, r3, rBa, rBr, rL, rR⟩ := round_part swo_ltInt (partition_holds ltInt) hpv1 hpv2 (by omega) B5 (show partition ltInt d5 a b pv = ((partition ltInt d5 a b pv).1, (partition ltInt d5 a b pv).2.1, (partition ltInt d5 a b pv).2.2) from rfl)
 generalize (partition ltInt d5 a b pv).1 = mid at *
 generalize (partition ltInt d5 a b pv).2.1 = ap at *
 generalize (partition ltInt d5 a b pv).2.2 = d7 at *
 have hn7 : d7.size = n := by omega
 have wl : IntKind.i64.wrap ((mid : Int) - a) = ((mid - a : Nat) : Int) := na (by omega) (by omega)
 have wr : IntKind.i64.wrap ((b : Int) - mid) = ((b - mid : Nat) : Int) := na (by omega) (by omega)
 have wm : IntKind.i64.wrap ((mid : Int) + 1) = ((mid + 1 : Nat) : Int) := jg (by omega)
 have bq : ∀ (x : Int) (t : TypeId) (rx ry : Operand) (w : World) (K : KV), en P .quo t rx ry (.int .i64 x) (.int .i64 8) w K = K (.int .i64 (IntKind.i64.wrap (x.tdiv 8))) w := fun x t rx ry w K => zw (by decide)
 simp only [aev, afs, g0, ja, wl, wr, bq, ka, ke]
 by_cases hlt : mid - a < b - mid
 ·have hlt' : ((mid - a : Nat) : Int) < ((b - mid : Nat) : Int) := by omega
  simp only [hlt', decide_true, Eng.cond_true]
  rw [M.d.fcall]
  refine ih H7.row hn7 h6 (by omega) r1 (by omega) hlim2 rBa fun w8 d8 P8 S8 H8 => ?_
  obtain ⟨hBL, hfinL⟩ := rL d8 P8 S8
  simp only [iw, wm]
  refine ⟨⟨_, _, _, _, _, _, _, _, _, mid + 1, b, lim2, _, ap, d8, rfl, hlim2, ⟨H7'.trans H8, by rw [P8.1]; exact hn7, by omega, by omega, hbn, hBL, fun R h1 h2 => ?_⟩⟩, ?_⟩
  ·obtain ⟨k1, k2⟩ := hfinL R h1 h2
   exact hfin5 R k1 k2
  ·have : ∀ y0 y1 y2 y3 y4 y6 y7 y8 y9 y10 y11 y12 : Value, ms [y0, y1, y2, y3, y4, .int .i64 ((mid + 1 : Nat) : Int), y6, y7, y8, y9, y10, y11, y12, .int .i64 (b : Nat)] 13 = b ∧ ms [y0, y1, y2, y3, y4, .int .i64 ((mid + 1 : Nat) : Int), y6, y7, y8, y9, y10, y11, y12, .int .i64 (b : Nat)] 5 = mid + 1 := fun _ _ _ _ _ _ _ _ _ _ _ _ => ⟨rfl, rfl⟩
   rw [(this _ _ _ _ _ _ _ _ _ _ _ _).1, (this _ _ _ _ _ _ _ _ _ _ _ _).2, m5, m13]; omega
 ·have hlt' : ¬ ((mid - a : Nat) : Int) < ((b - mid : Nat) : Int) := by omega
  simp only [hlt', decide_false, Eng.cond_false, iw, wm]
  rw [M.d.fcall]
  refine ih H7.row hn7 h6 (by omega) (by omega) hbn hlim2 rBr fun w8 d8 P8 S8 H8 => ?_
  obtain ⟨hBL, hfinL⟩ := rR d8 P8 S8
  refine ⟨⟨_, _, _, _, _, _, _, _, _, a, mid, lim2, _, ap, d8, rfl, hlim2, ⟨H7'.trans H8, by rw [P8.1]; exact hn7, by omega, by omega, by omega, hBL, fun R h1 h2 => ?_⟩⟩, ?_⟩
  ·obtain ⟨k1, k2⟩ := hfinL R h1 h2
   exact hfin5 R k1 k2
  ·have : ∀ y0 y1 y2 y3 y4 y6 y7 y8 y9 y10 y11 y12 : Value, ms [y0, y1, y2, y3, y4, .int .i64 (a : Nat), y6, y7, y8, y9, y10, y11, y12, .int .i64 (mid : Nat)] 13 = mid ∧ ms [y0, y1, y2, y3, y4, .int .i64 (a : Nat), y6, y7, y8, y9, y10, y11, y12, .int .i64 (mid : Nat)] 5 = a := fun _ _ _ _ _ _ _ _ _ _ _ _ => ⟨rfl, rfl⟩
   rw [(this _ _ _ _ _ _ _ _ _ _ _ _).1, (this _ _ _ _ _ _ _ _ _ _ _ _).2, m5, m13]; omega
theorem aso (ih : IH m) (h6 : n < 60000) (hm : b0 - a0 ≤ m + 1) (hbb : b - a ≤ b0 - a0) (hbn : b ≤ n) (hab : a ≤ b) (hpv1 : a ≤ pv) (hpv2 : pv < b) (hlim2 : lim2 < 1000) {w5 : World} (H5 : Rf w w5 g e cap d5) (hn5 : d5.size = n) (B5 : Below ltInt a b d5)
  (hfin5 : ∀ R, PermIn a b d5 R → SortedIn ltInt a b R → PermIn a0 b0 d R ∧ SortedIn ltInt a0 b0 R) (e5 : gv x0 5 = .int .i64 (a : Nat)) (e8 : gv x0 8 = .bool wp) (e12 : gv x0 12 = .bool wb) (e13 : gv x0 13 = .int .i64 (b : Nat)) (m5 : ms x0 5 = a) (m13 : ms x0 13 = b) :
  M.d.j5 x0 (.slice (some ⟨g, 0, none⟩) n cap) [.int .i64 (pv : Nat), .int .i64 (hint4 : Nat)] (fun x' w' => PdI w g e cap n a0 b0 d x' w' ∧ ms x' 13 - ms x' 5 < ms x0 13 - ms x0 5) (.int .i64 ((b - a : Nat) : Int)) [.int .i64 (lim2 : Nat)] w5 K := by
 unfold M.d.j5
 simp only [fh, ol, me, e5, e13, g20, true_and, and_true, nt, qj]
 by_cases ha0 : 0 < a
 ·have ha0' : (0 : Int) < (a : Int) := by omega
  have hwa : IntKind.i64.wrap ((a : Int) - 1) = ((a - 1 : Nat) : Int) := by rw [fj (by omega) (by omega)]; omega
  have a1 := H5.row.at (show a - 1 < d5.size by omega)
  have a2 := H5.row.at (show pv < d5.size by omega)
  have b1 : ((a - 1 : Nat) : Int) < n := by omega
  have b2 : (pv : Int) < n := by omega
  simp [ha0, ha0', hwa, a1, a2, b1, b2]
  refine jo _ _ ?_
  cases hl : ltInt d5[a - 1]! d5[pv]! with
  | true =>
   simp
   exact acj ih h6 hm hbb hbn hab hpv1 hpv2 hlim2 (H5.dr 1) hn5 B5 hfin5 e5 e8 e12 e13 m5 m13 _
  | false =>
   simp
   rw [M.h.fcall]
   refine ut (H5.dr 1).row hn5 (by omega) hbn hpv1 hpv2 fun w7 H7 => ?_
   have H7' := (H5.dr 1).trans H7
   obtain ⟨r1, r2, r3, rB, rF⟩ := round_eq swo_ltInt (partitionEqual_holds ltInt) ha0 hpv1 hpv2 (by omega) B5 hl (show partitionEqual ltInt d5 a b pv = ((partitionEqual ltInt d5 a b pv).1, (partitionEqual ltInt d5 a b pv).2) from rfl)
   generalize (partitionEqual ltInt d5 a b pv).1 = mid at *
   generalize (partitionEqual ltInt d5 a b pv).2 = d7 at *
   have hn7 : d7.size = n := by omega
   refine ⟨⟨_, _, _, _, _, _, _, _, _, mid, b, lim2, wb, wp, d7, by rw [e8, e12], hlim2, ⟨H7', hn7, r2, by omega, hbn, rB, fun R h1 h2 => ?_⟩⟩, ?_⟩
   ·obtain ⟨k1, k2⟩ := rF R h1 h2
    exact hfin5 R k1 k2
   ·have : ∀ y0 y1 y2 y3 y4 y6 y7 y8 y9 y10 y11 y12 : Value, ms [y0, y1, y2, y3, y4, .int .i64 (mid : Nat), y6, y7, y8, y9, y10, y11, y12, .int .i64 (b : Nat)] 13 = b ∧ ms [y0, y1, y2, y3, y4, .int .i64 (mid : Nat), y6, y7, y8, y9, y10, y11, y12, .int .i64 (b : Nat)] 5 = mid := fun _ _ _ _ _ _ _ _ _ _ _ _ => ⟨rfl, rfl⟩
    rw [(this _ _ _ _ _ _ _ _ _ _ _ _).1, (this _ _ _ _ _ _ _ _ _ _ _ _).2, m5, m13]; omega
 ·have ha0' : ¬ (0 : Int) < (a : Int) := by omega
  simp [ha0, ha0']
  exact acj ih h6 hm hbb hbn hab hpv1 hpv2 hlim2 (H5.dr 1) hn5 B5 hfin5 e5 e8 e12 e13 m5 m13 _
theorem ach {d1 : Array Int} (ih : IH m) (h6 : n < 60000) (hm : b0 - a0 ≤ m + 1) (hbb : b - a ≤ b0 - a0) (hbn : b ≤ n) (hab : a ≤ b) (hlim2 : lim2 < 1000) (h12 : ¬ b - a ≤ 12) (hn1 : d1.size = n) (hB1 : Below ltInt a b d1)
  (hfin : ∀ R, PermIn a b d1 R → SortedIn ltInt a b R → PermIn a0 b0 d R ∧ SortedIn ltInt a0 b0 R) (h : ∀ w' d', PermIn a0 b0 d d' → SortedIn ltInt a0 b0 d' → Rf w w' g e cap d' → K (.tuple #[]) w')
  (e5 : gv x0 5 = .int .i64 (a : Nat)) (e8 : gv x0 8 = .bool wp) (e12 : gv x0 12 = .bool wb) (e13 : gv x0 13 = .int .i64 (b : Nat)) (m5 : ms x0 5 = a) (m13 : ms x0 13 = b) {w4 : World} {d4 : Array Int} (H4 : Rf w w4 g e cap d4) (P4 : PermIn a b d1 d4) (hpv1 : a ≤ pv) (hpv2 : pv < b) :
  M.d.j4 x0 [.int .i64 (pv : Nat), .int .i64 (hint4 : Nat)] (.slice (some ⟨g, 0, none⟩) n cap) (fun x' w' => PdI w g e cap n a0 b0 d x' w' ∧ ms x' 13 - ms x' 5 < ms x0 13 - ms x0 5) (.int .i64 ((b - a : Nat) : Int)) [.int .i64 (lim2 : Nat)] w4 K := by
 have hn4 : d4.size = n := by rw [P4.1]; exact hn1
 have B4 := hB1.perm (by omega) P4
 have st5 : ∀ (w5 : World) (d5 : Array Int), Rf w w5 g e cap d5 → PermIn a b d1 d5 →
   M.d.j5 x0 (.slice (some ⟨g, 0, none⟩) n cap) [.int .i64 (pv : Nat), .int .i64 (hint4 : Nat)] (fun x' w' => PdI w g e cap n a0 b0 d x' w' ∧ ms x' 13 - ms x' 5 < ms x0 13 - ms x0 5) (.int .i64 ((b - a : Nat) : Int)) [.int .i64 (lim2 : Nat)] w5 K := fun w5 d5 H5 P5 =>
  aso ih h6 hm hbb hbn hab hpv1 hpv2 hlim2 H5 (by rw [P5.1]; exact hn1) (hB1.perm (by omega) P5) (fun R h1 h2 => hfin R (permIn_trans _ _ _ a b P5 h1) h2) e5 e8 e12 e13 m5 m13
 unfold M.d.j4
 simp only [fh, e5, e8, e12, e13, qj, g21]
 cases wb with
 | false => simp; exact st5 w4 d4 H4 P4
 | true =>
  cases wp with
  | false => simp; exact st5 w4 d4 H4 P4
  | true =>
   by_cases hh1 : hint4 = 1
   ·have hd : decide ((hint4 : Int) = 1) = true := by rw [decide_eq_true_eq]; omega
    simp only [qj, acq, rz, beq_self_eq_true, _root_.cond_true, rm, hd, Eng.cond_true]
    rw [M.b.fcall]
    refine yx H4.row hn4 (by omega) hbn (by omega) fun w5 H5 => ?_
    have hpi := partialInsertionSort_holds swo_ltInt d4 a b (by omega) (by omega) B4
    cases hr : (partialInsertionSort ltInt d4 a b).2 with
    | true =>
     simp
     obtain ⟨p1, p2⟩ := hfin _ (permIn_trans _ _ _ a b P4 hpi.1) (hpi.2 hr)
     exact h w5 _ p1 p2 (H4.trans H5)
    | false =>
     simp
     exact st5 w5 _ (H4.trans H5) (permIn_trans _ _ _ a b P4 hpi.1)
   ·have hd : decide ((hint4 : Int) = 1) = false := by rw [decide_eq_false_iff_not]; omega
    simp only [qj, acq, rz, beq_self_eq_true, _root_.cond_true, rm, hd, Eng.cond_false]
    exact st5 w4 d4 H4 P4
theorem zz {d1 : Array Int} (ih : IH m) (h6 : n < 60000) (hm : b0 - a0 ≤ m + 1) (hbb : b - a ≤ b0 - a0) (hbn : b ≤ n) (hab : a ≤ b) (hlim2 : lim2 < 1000) (h12 : ¬ b - a ≤ 12) (hn1 : d1.size = n) (hB1 : Below ltInt a b d1)
  (hfin : ∀ R, PermIn a b d1 R → SortedIn ltInt a b R → PermIn a0 b0 d R ∧ SortedIn ltInt a0 b0 R) (h : ∀ w' d', PermIn a0 b0 d d' → SortedIn ltInt a0 b0 d' → Rf w w' g e cap d' → K (.tuple #[]) w')
  (e5 : gv x0 5 = .int .i64 (a : Nat)) (e8 : gv x0 8 = .bool wp) (e12 : gv x0 12 = .bool wb) (e13 : gv x0 13 = .int .i64 (b : Nat)) (m5 : ms x0 5 = a) (m13 : ms x0 13 = b) {w2 : World} {d2 : Array Int} (H2 : Rf w w2 g e cap d2) (P2 : PermIn a b d1 d2) :
  M.d.j3 (.slice (some ⟨g, 0, none⟩) n cap) x0 (fun x' w' => PdI w g e cap n a0 b0 d x' w' ∧ ms x' 13 - ms x' 5 < ms x0 13 - ms x0 5) (.int .i64 ((b - a : Nat) : Int)) [.int .i64 (lim2 : Nat)] w2 K := by
 have hn2 : d2.size = n := by rw [P2.1]; exact hn1
 have B2 := hB1.perm (by omega) P2
 unfold M.d.j3
 simp only [e5, e13, fh]
 rw [M.x.fcall]
 refine ahz H2.row hn2 (by omega) hbn (by omega) fun w3 p hint hp1 hp2 hh H3 => ?_
 have H3' := H2.trans H3
 simp only [aev, afs, rm]
 by_cases hh2 : hint = 2
 ·have hh2' : (hint : Int) = 2 := by omega
  simp only [hh2', decide_true, Eng.cond_true]
  rw [M.ai.fcall]
  refine aec H3.row hn2 (by omega) hbn (by omega) fun w4 H4 => ?_
  have hrev := reverseRange_holds d2 a b hab (by omega)
  have w1' : IntKind.i64.wrap ((b : Int) - 1) = ((b - 1 : Nat) : Int) := by rw [fj (by omega) (by omega)]; omega
  have w2' : IntKind.i64.wrap ((p : Int) - a) = ((p - a : Nat) : Int) := na (by omega) (by omega)
  have w3' : IntKind.i64.wrap (((b - 1 : Nat) : Int) - ((p - a : Nat) : Int)) = ((b - 1 - (p - a) : Nat) : Int) := na (by omega) (by omega)
  simp only [ja, w1', w2', w3']
  exact ach (hint4 := 1) ih h6 hm hbb hbn hab hlim2 h12 hn1 hB1 hfin h e5 e8 e12 e13 m5 m13 (H3'.trans H4) (permIn_trans _ _ _ a b P2 hrev) (by omega) (by omega)
 ·have hh2' : ¬ (hint : Int) = 2 := by omega
  simp only [hh2', decide_false, Eng.cond_false]
  exact ach ih h6 hm hbb hbn hab hlim2 h12 hn1 hB1 hfin h e5 e8 e12 e13 m5 m13 H3' P2 hp1 hp2
end
theorem aoa : ∀ (m : Nat), IH m := by
 intro m
 induction m with
 | zero =>
  intro w g cap n e d H hn h6 a b limit hm hab hb hlim hB K h
  -- nothing to sort
  have hba : b = a := by omega
  subst hba
  apply M.d.calls
  unfold M.d
  refine ⟨fun x w1 => x = [undef, .int .i64 (limit : Nat), undef, undef, undef, .int .i64 (b : Nat), undef, undef, .bool true, undef, undef, undef, .bool true, .int .i64 (b : Nat)] ∧ w1 = w, fun _ _ => 0, ⟨rfl, rfl⟩, ?_⟩
  rintro x w1 ⟨rfl, rfl⟩
  unfold M.d.j0
  have hw0 : IntKind.i64.wrap ((b : Int) - b) = 0 := by rw [fj (by omega) (by omega)]; omega
  simp only [f13, f5, ja, hw0, fh, xv]
  rw [M.i.fcall]
  simp
  refine tt H hn (by omega) hb hb fun w2 H2 => ?_
  have hi := insertionSort_holds swo_ltInt d b b (Nat.le_refl _) (by omega)
  exact h w2 _ hi.1 hi.2 H2
 | succ m ih =>
  intro w g cap n e d H hn h6 a0 b0 limit0 hm hab0 hb0 hlim0 hB K h
  apply M.d.calls
  unfold M.d
  refine ⟨PdI w g e cap n a0 b0 d, fun x _ => ms x 13 - ms x 5, ⟨_, _, _, _, _, _, _, _, _, a0, b0, limit0, true, true, d, rfl, hlim0, ⟨H.lx, hn, hab0, Nat.le_refl _, hb0, hB, fun R h1 h2 => ⟨h1, h2⟩⟩⟩, ?_⟩
  rintro x w1 ⟨u0, u2, u3, u4, u6, u7, u9, u10, u11, a, b, limit, wb, wp, d1, rfl, hlim, ⟨H1, hn1, hab, hbb, hbn, hB1, hfin⟩⟩
  generalize hx0 : [u0, .int .i64 (limit : Nat), u2, u3, u4, .int .i64 (a : Nat), u6, u7, .bool wp, u9, u10, u11, .bool wb, .int .i64 (b : Nat)] = x0
  have e1 : gv x0 1 = .int .i64 (limit : Nat) := by rw [← hx0]; rfl
  have e5 : gv x0 5 = .int .i64 (a : Nat) := by rw [← hx0]; rfl
  have e8 : gv x0 8 = .bool wp := by rw [← hx0]; rfl
  have e12 : gv x0 12 = .bool wb := by rw [← hx0]; rfl
  have e13 : gv x0 13 = .int .i64 (b : Nat) := by rw [← hx0]; rfl
  have m5 : ms x0 5 = a := by simp [ms, e5]
  have m13 : ms x0 13 = b := by simp [ms, e13]
  clear hx0
  have hw0 : IntKind.i64.wrap ((b : Int) - a) = ((b - a : Nat) : Int) := na (by omega) (by omega)
  unfold M.d.j0
  simp only [e13, e5, ja, hw0, fh, xv]
  by_cases h12 : b - a ≤ 12
  ·have h12' : ((b - a : Nat) : Int) ≤ 12 := by omega
   simp only [h12', decide_true, Eng.cond_true]
   rw [M.i.fcall]
   refine tt H1.row hn1 (by omega) hbn (by omega) fun w2 H2 => ?_
   have hi := insertionSort_holds swo_ltInt d1 a b hab (by omega)
   obtain ⟨p1, p2⟩ := hfin _ hi.1 hi.2
   exact h w2 _ p1 p2 (H1.trans H2)
  have h12' : ¬ ((b - a : Nat) : Int) ≤ 12 := by omega
  simp only [h12', decide_false, Eng.cond_false]
  unfold M.d.j1
  simp only [e1, e5, e13, fh, rm]
  by_cases hl0 : limit = 0
  ·have hl0' : (limit : Int) = 0 := by omega
   simp only [hl0', decide_true, Eng.cond_true]
   rw [M.q.fcall]
   refine abz H1.row hn1 (by omega) hbn (by omega) fun w2 H2 => ?_
   have hi := heapSort_holds swo_ltInt d1 a b hab (by omega)
   obtain ⟨p1, p2⟩ := hfin _ hi.1 hi.2
   exact h w2 _ p1 p2 (H1.trans H2)
  have hl0' : ¬ (limit : Int) = 0 := by omega
  simp only [hl0', decide_false, Eng.cond_false]
  unfold M.d.j2
  simp only [e12, e1, e5, e13, fh, ant]
  cases wb with
  | true =>
   simp
   exact zz ih h6 hm hbb hbn hab hlim h12 hn1 hB1 hfin h e5 e8 e12 e13 m5 m13 H1 (permIn_refl d1 a b)
  | false =>
   simp
   rw [M.m.fcall]
   refine ahw H1.row hn1 h6 hbn (by omega) fun w2 d2 P2 H2 => ?_
   have wl : IntKind.i64.wrap ((limit : Int) - 1) = ((limit - 1 : Nat) : Int) := by rw [fj (by omega) (by omega)]; omega
   simp only [wl]
   exact zz ih h6 hm hbb hbn hab (by omega) h12 hn1 hB1 hfin h e5 e8 e12 e13 m5 m13 (H1.trans H2) P2
theorem alc {w : World} {g cap n : Nat} {e : TypeId} {d : Array Int} (H : Rw w g e cap d) (hn : d.size = n) (h6 : n < 60000) {K : KV}
  (h : ∀ w', Rf w w' g e cap (d.toList.mergeSort fun x y => decide (x ≤ y)).toArray → K (.tuple #[]) w') : ij P F.an [.slice (some ⟨g, 0, none⟩) n cap] w K := by
 apply M.bb.calls
 unfold M.bb
 have i64B : qm P T.b .i64 = true := by kernel_rfl
 have uB : qm P T.ay .u64 = true := by kernel_rfl
 simp
 rw [kf i64B uB, xg (by omega), M.cl.fcall]
 refine act (by omega) ?_
 rw [M.d.fcall]
 have hlen : bitsLen n ≤ 16 := (bitsLen_le_iff n 16).2 (by omega)
 refine aoa n (a := 0) H hn h6 (by omega) (Nat.zero_le _) (Nat.le_refl _) (by omega) (.inl rfl) fun w' d' h1 h2 H' => ?_
 have hs : d'.toList = d.toList.mergeSort (fun x y => decide (x ≤ y)) := by
  have := sorted_unique_holds swo_ltInt (fun x y h1 h2 => by simp [ltInt] at h1 h2; omega) d d' (by rw [hn]; exact h1) (by rw [hn]; exact h2)
  rw [this]
  congr 1
  funext x y
  simp only [ltInt]
  by_cases hxy : x ≤ y
  ·simp [hxy]
  ·have : y < x := by omega
   simp [hxy, this]
 refine h w' ?_
 rw [← hs]
 exact H'
set_option maxRecDepth 100000
open Go.Eng Go.Sort
abbrev aab (x : Int) : Value := .int .u64 x
abbrev mj (x : Int) : List Value := [.int .u64 x]
abbrev OwN (w : World) (base : Nat) (v : Value) (l : List Int) : Prop := Ow w base T.e 1 mj v l
theorem bar : asv P T.h T.e aab 8 where
 et := et.h
 by5 := by decide
 ld := fun b i w K => Eq.trans (by kernel_rfl) rfl
 st := fun b i a n c w K => Eq.trans (by kernel_rfl) rfl
 bs := fun x w K => Eq.trans (by kernel_rfl) rfl
 one := fun _ => rfl
 ne := by decide
theorem ads {g : FuncId} {gn : Func} (hg : P.funcs[g]? = some gn) (hgn : (gn.name == "runtime.NumGoroutine") = false) (hgb : gn.body.isNone = false) {cap : List Value} {w : World} {Out : List Int → Prop} (hs : aii P g cap aab Out 60000 w) {K : KV}
  (h : ∀ w' v xs, Out xs → OwN w' w.heap.size v xs → Fr (fun _ => False) w w' → K v w') : ij P F.bv [.func (.func g) #[] cap.toArray] w K := by
 apply M.cj.calls
 unfold M.cj
 have hf : ∀ (args : List Value) (w : World) (K : KV), ey P F.c args w K = ij P F.c args w K := fun args w K => agh FN.c.at (by kernel_rfl) (by kernel_rfl) args w K
 rw [hf]
 exact afq (tQ := T.bd) bar FN.c.at (by kernel_rfl) (by kernel_rfl) (by kernel_rfl) hg hgn hgb hs h
theorem Ow.rw {w : World} {base g n cap : Nat} {l : List Int} (h : OwN w base (.slice (some ⟨g, 0, none⟩) n cap) l) : n = l.length ∧ base ≤ g ∧ cap ≤ maxLen ∧ Rw w g T.e cap l.toArray := by
 rcases h.2 with ⟨h0, _⟩ | ⟨g', cap', cur, hv, hb, hc, h1, h2, h3, h4⟩
 ·cases h0
 ·injection hv with q1 q2 q3
  injection q1 with q1
  injection q1 with q1
  subst q1 q2 q3
  refine ⟨rfl, hb, h2, cur, hc, by simpa using h3, by simpa using h1, fun j hj => ?_⟩
  have hj' : j < l.length := by simpa using hj
  have h5 : (cur.toList.take (l.length * 1))[j]? = (l.flatMap mj)[j]? := by rw [h4]
  rw [List.getElem?_take_of_lt (by omega)] at h5
  have h6 : (l.flatMap mj)[j]? = some (.int .u64 l[j]) := by
   have := xf (enc := mj) (sz := 1) (fun _ => rfl) l j l[j] 0 (.int .u64 l[j]) (List.getElem?_eq_getElem hj') rfl
   simpa using this
  rw [h6] at h5
  simpa [hj'] using h5
theorem xt : ∀ l : List Int, l.flatMap mj = l.map aab
 | [] => rfl
 | x :: l => by rw [List.flatMap_cons, xt l]; rfl
theorem aua {w : World} {base g cap : Nat} {l : List Int} (hb : base ≤ g) (hm : cap ≤ maxLen) (h : Rw w g T.e cap l.toArray) : OwN w base (.slice (some ⟨g, 0, none⟩) l.length cap) l := by
 obtain ⟨cur, h1, h2, h3, h4⟩ := h
 refine ⟨by rw [xt]; simp, .inr ⟨g, cap, cur, rfl, hb, h1, by simpa using h3, hm, by simpa using h2, ?_⟩⟩
 rw [xt]
 apply List.ext_getElem?
 intro j
 by_cases hj : j < l.length
 ·rw [List.getElem?_take_of_lt (by omega)]
  have := h4 j (by simpa using hj)
  simp [hj] at this ⊢
  exact this
 ·rw [List.getElem?_take_eq_none (by omega), List.getElem?_eq_none (by simp; omega)]
theorem ahh {w : World} {K : KV} (h : K (.tuple #[]) w) : ij P F.an [.slice none 0 0] w K := by
 apply M.bb.calls
 unfold M.bb
 have i64B : qm P T.b .i64 = true := by kernel_rfl
 have uB : qm P T.ay .u64 = true := by kernel_rfl
 simp
 rw [kf i64B uB, show IntKind.u64.wrap 0 = ((0 : Nat) : Int) from by decide, M.cl.fcall]
 refine act (by omega) ?_
 rw [M.d.fcall]
 apply M.d.calls
 unfold M.d
 refine ⟨fun x w1 => gv x 5 = .int .i64 0 ∧ gv x 13 = .int .i64 0 ∧ w1 = w, fun _ _ => 0, ⟨rfl, rfl, rfl⟩, ?_⟩
 rintro x w1 ⟨e5, e13, rfl⟩
 unfold M.d.j0
 have w0 : IntKind.i64.wrap 0 = 0 := by decide
 simp [e5, e13, w0]
 rw [M.i.fcall]
 apply M.i.calls
 unfold M.i
 have w1' : IntKind.i64.wrap 1 = 1 := by decide
 simp [w1']
 refine ⟨fun x w2 => gv x 1 = .int .i64 1 ∧ w2 = w1, fun _ _ => 0, ⟨rfl, rfl⟩, ?_⟩
 rintro x w2 ⟨e1, rfl⟩
 unfold M.i.j0
 simp [e1]
 exact h
def mn (l : List Int) : List Int := l.mergeSort fun x y => decide (x ≤ y)
theorem mf (l : List Int) : (mn l).Perm l := List.mergeSort_perm ..
theorem th {l l' : List Int} (h : l.Perm l') : mn l = mn l' := by
 unfold mn
 have hs : ∀ l : List Int, (l.mergeSort fun x y => decide (x ≤ y)).Pairwise fun a b => decide (a ≤ b) = true := fun l => List.pairwise_mergeSort (fun a b c h1 h2 => by simp at *; omega) (fun a b => by simp; omega) l
 exact List.Perm.eq_of_pairwise (fun a b _ _ h1 h2 => by simp at h1 h2; omega) (hs l) (hs l') (((List.mergeSort_perm ..).trans h).trans (List.mergeSort_perm ..).symm)
theorem aga {g : FuncId} {gn : Func} (hg : P.funcs[g]? = some gn) (hgn : (gn.name == "runtime.NumGoroutine") = false) (hgb : gn.body.isNone = false) {cap : List Value} {w : World} {ks : List Int} (hk : ks.length < 60000) (hs : aii P g cap aab (fun xs => xs.Perm ks) 60000 w) {K : KV}
  (h : ∀ w' v, OwN w' w.heap.size v (mn ks) → Fr (fun _ => False) w w' → K v w') : ij P F.aw [.func (.func g) #[] cap.toArray] w K := by
 apply M.cm.calls
 unfold M.cm
 rw [M.cj.fcall]
 refine ads hg hgn hgb hs fun w1 v xs hx o1 f1 => ?_
 rw [M.bb.fcall]
 have hlen := hx.length_eq
 rcases o1.2 with ⟨rfl, h0⟩ | ⟨g1, cap1, cur, rfl, hb1, _⟩
 ·refine ahh ?_
  have hx0 : xs = [] := List.length_eq_zero_iff.1 h0
  have hk0 : ks = [] := List.length_eq_zero_iff.1 (by rw [← hlen, hx0]; rfl)
  refine h w1 _ ?_ f1
  subst hk0
  rw [show mn [] = [] from by simp [mn]]
  exact Ow.none
 ·obtain ⟨_, hbg, hcm, hrw⟩ := Ow.rw o1
  refine alc hrw (by simp) (by omega) fun w2 H2 => ?_
  have hp : mn xs = mn ks := th hx
  have hl : (mn xs).length = xs.length := (mf xs).length_eq
  refine h w2 _ ?_ (f1.kg H2.fr fun b hb he => by omega)
  rw [← hp]
  have := aua (base := w.heap.size) (l := mn xs) hbg hcm H2.row
  rw [hl] at this
  exact this
end Go.Proofs.YtfnhoaemapheoaaGreat.Suint64
set_option maxRecDepth 100000
namespace Go.Proofs.YtfnhoaemapheoaaGreat.KeyV
open Go.Eng Go.Sort Go.Proofs.YtfnhoaemapheoaaGreat.Suint64
end Go.Proofs.YtfnhoaemapheoaaGreat.KeyV
set_option maxRecDepth 100000
namespace Go.Proofs.YtfnhoaemapheoaaGreat.CM
open Go.Eng
end Go.Proofs.YtfnhoaemapheoaaGreat.CM
set_option maxRecDepth 100000
namespace Go.Proofs.YtfnhoaemapheoaaGreat
open Go.Eng
set_option maxRecDepth 100000
section
variable {w0 w : World} {R : List Asn} {r : Nat} {A L : List Mem} {tv : Value}
theorem xx {m : MP} (S : St w0 w (jz r .u64 m :: R)) : nj w r .u64 m ∧ (im m).Nodup := by
 obtain ⟨B, h1, _⟩ := S.open
 exact h1.1
theorem apn {m : MP} (S : St w0 w (jz r .u64 m :: R)) {o : Obj} {k : Int} {v : Value} (h : nj (World.setObj w r o) r .u64 (qg m k v)) : St w0 (World.setObj w r o) (jz r .u64 (qg m k v) :: R) := by
 obtain ⟨B, ⟨k1, k2⟩, hB, cl⟩ := S.open
 refine cl (World.setObj w r o) [jz r .u64 (qg m k v)] ((Fr.refl B w).setObj (.inl k2) o) (Rs.one (B := B) ⟨⟨h, ?_⟩, k2⟩ fun b hb => .inl hb)
 rw [ajh]
 split
 ·exact k1.2
 ·rename_i hx
  rw [List.nodup_append]
  exact ⟨k1.2, by simp, fun a ha b hb' hab => by
   simp at hb'
   exact hx (by rw [← hb', ← hab]; exact ha)⟩
end
set_option maxRecDepth 100000
open Go.Eng
section
variable {w0 w : World} {R : List Asn} {r : Nat} {A L : List Mem} {tv : Value}
end
set_option maxRecDepth 100000
open Go.Eng
structure Nd where
 id : Int
 bpq : Int
 bqf : Int
 now : Int
 due : Int
 left : Bool
 v : List Mem
 h : MP
section
variable {n : Nd} {frm now pick : Int} {l : List Mem}
end
set_option maxRecDepth 100000
open Go.Eng
section
variable {w0 w : World} {R : List Asn}
end
set_option maxRecDepth 100000
open Go.Eng
section
variable {w0 w : World} {R : List Asn} {p r : Nat} {v : Value} {n : Nd}
end
set_option maxRecDepth 100000
open Go.Eng
section
variable {w0 w : World} {R : List Asn}
end
set_option maxRecDepth 100000
open Go.Eng
section
variable {w0 w : World} {R : List Asn} {p r : Nat} {v : Value} {n : Nd}
end
set_option maxRecDepth 100000
open Go.Eng
def vg (tr : Int) : List Int → List Spn → Bool
 | _, [] => true
 | met, s :: r => (decide (yj s = 0) && (decide (s.ny = tr) && !(decide (s.id ∈ met)))) && vg tr (met ++ [s.id]) r
def vh (tr : Int) (l : List Spn) : Bool := vg tr [] l && (decide (0 < l.length) && decide (l.length ≤ 16))
theorem aob {tr : Int} {met : List Int} {s : Spn} {r : List Spn} (h : ¬ (yj s = 0 ∧ s.ny = tr ∧ s.id ∉ met)) : vg tr met (s :: r) = false := by
 rw [vg]
 by_cases h1 : yj s = 0 <;> by_cases h2 : s.ny = tr <;> by_cases h3 : s.id ∈ met <;> simp_all
theorem aqm {tr : Int} {met : List Int} {s : Spn} {r : List Spn} (h1 : yj s = 0) (h2 : s.ny = tr) (h3 : s.id ∉ met) : vg tr met (s :: r) = vg tr (met ++ [s.id]) r := by
 rw [vg]; simp [h1, h2, h3]
def MsI (W : World) (mb : Nat) (tr : Int) (l : List Spn) : KL := fun x w1 => ∃ (u0 u1 : Value) (i : Nat) (m : MP), x = [u0, u1, .int .i64 (i : Nat)] ∧ i ≤ l.length ∧ St W w1 (jz mb .u64 m :: []) ∧ (∀ k, ko m k = if k ∈ (l.take i).map Spn.id then some (.bool true) else none) ∧ vg tr [] l = vg tr ((l.take i).map Spn.id) (l.drop i)
theorem amc {w : World} {v : Value} {l : List Spn} {tr : Int} (hs : SlS w v l) (hlen : l.length ≤ 1000000) {K : KV} (h : ∀ w', Fr (fun _ => False) w w' → K (.bool (vh tr l)) w') : ey P F.cx [.int .u64 tr, v] w K := by
 rw [M.br.fcall]
 apply M.br.calls
 unfold M.br
 rw [apm]
 have hlv : ∀ w' K, biT P .len #[T.ad] T.b [false] [v] w' K = K (.int .i64 l.length) w' := fun w' K => hs.ii (by kernel_rfl) [false]
 have S0 : St w (w.alloc (.map #[] 0)) (jz w.heap.size .u64 [] :: []) := (St.jy w).add ((Fr.refl _ w).alloc _) (B := fun x => x = w.heap.size) ⟨⟨afo w .u64, by simp [im]⟩, rfl⟩ fun x hx => by subst hx; rw [ig]; omega
 generalize w.alloc (.map #[] 0) = w1 at *
 generalize w.heap.size = mb at *
 simp [hlv]
 refine ⟨MsI w mb tr l, fun x _ => l.length - ms x 2, ⟨_, _, 0, [], rfl, Nat.zero_le _, S0, fun k => by simp [ko], rfl⟩, ?_⟩
 rintro x w2 ⟨u0, u1, i, m, rfl, hi, S2, hm, hg⟩
 by_cases hil : i < l.length
 ·have hili : (i : Int) < (l.length : Int) := by omega
  simp [hil]
  unfold M.br.j2
  have hs2 : SlS w2 v l := hs.fr S2.fr fun _ _ _ h => h
  obtain ⟨b, o, cap, hv, _, _, hc⟩ := hs2.at hil
  have hia : ∀ w' K, iaT P T.ad v (.int .i64 (i : Nat)) w' K = K (.pointer (some ⟨b, o + i * 8, none⟩)) w' := fun w' K => by rw [hv]; simp [hil]
  have hld : ∀ K, ldN P 8 b (o + i * 8) w2 K = K (xd l[i]) w2 := fun K => ldS (fun k u hk => hc k u hk) K
  have hdrop : l.drop i = l[i] :: l.drop (i + 1) := List.drop_eq_getElem_cons hil
  rw [hdrop] at hg
  have htk : (l.take (i + 1)).map Spn.id = (l.take i).map Spn.id ++ [l[i].id] := by rw [List.take_succ_eq_append_getElem hil, List.map_append]; rfl
  generalize l[i] = s at *
  simp [hia, hld]
  unfold xd
  simp
  have S3 : St w (w2.alloc (.cells #[.int .u64 0, .int .u64 0, .int .u64 0, .int .u64 0, .int .u64 0, .string ⟨#[]⟩, .string ⟨#[]⟩, .bool false] T.ae)) (fq w2.heap.size #[.int .u64 0, .int .u64 0, .int .u64 0, .int .u64 0, .int .u64 0, .string ⟨#[]⟩, .string ⟨#[]⟩, .bool false] T.ae :: jz mb .u64 m :: []) := S2.add ((Fr.refl _ w2).alloc _) (B := fun x => x = w2.heap.size) ⟨by rw [fx, if_pos rfl], rfl⟩ fun x hx => by subst hx; rw [ig]; omega
  generalize w2.heap.size = sb at *
  refine iu (vs := aaf s) S3.blk rfl (aoz s) fun w4 b4 f4 => ?_
  have S4 : St w w4 (fq sb (aaf s).toArray T.ae :: jz mb .u64 m :: []) := S3.kh f4 b4
  have spC : ∀ {W : World}, St w W (fq sb (aaf s).toArray T.ae :: jz mb .u64 m :: []) → fi W sb 0 = some (.int .u64 s.ny) ∧ fi W sb 1 = some (.int .u64 s.id) ∧ ∀ K, ldN P 8 sb 0 W K = K (xd s) W := fun {W} S' => by
   have hh : bek W sb s := S'.blk
   exact ⟨akz hh 0 _ rfl, akz hh 1 _ rfl, fun K => ldS (fun k v hk => by rw [Nat.zero_add]; exact akz hh k v hk) K⟩
  obtain ⟨_, _, sl⟩ := spC S4
  simp [sl]
  rw [M.dg.fcall]
  refine baa s fun w5 f5 => ?_
  have S5 := S4.iq f5
  obtain ⟨s0, s1, _⟩ := spC S5
  have bad : ¬ (yj s = 0 ∧ s.ny = tr ∧ s.id ∉ (l.take i).map Spn.id) → K (.bool false) w5 := fun hb => by
   have := h w5 S5.fr
   unfold vh at this
   rw [hg, aob hb] at this
   simpa using this
  have hmap := (xx S5.swap).1
  have hw : IntKind.i64.wrap ((i : Int) + 1) = ((i + 1 : Nat) : Int) := by rw [fj (by omega) (by omega)]; omega
  by_cases h1 : yj s = 0
  case neg =>
   simp [h1]
   exact bad fun hh => h1 hh.1
  by_cases h2 : s.ny = tr
  case neg =>
   simp [h1, s0, h2]
   exact bad fun hh => h2 hh.2.1
  have hmk := hm s.id
  by_cases h3 : s.id ∈ (l.take i).map Spn.id
  ·rw [if_pos h3] at hmk
   simp [h1, s0, h2, s1, abi mt.ar hmap, hmk]
   exact bad fun hh => hh.2.2 h3
  ·rw [if_neg h3] at hmk
   simp [h1, s0, h2, s1, abi mt.ar hmap, hmk]
   refine amv mt.ar hmap s.id _ _ fun ob hob => ?_
   have S6 := apn S5.swap hob
   rw [hw]
   refine ⟨⟨_, _, i + 1, _, rfl, hil, (S6.swap).drop, fun k => ?_, ?_⟩, by simp [ms, gv]; omega⟩
   ·rw [abm, hm k, htk]
    by_cases hk : s.id = k
    ·subst hk; simp
    ·have hk' : ¬ k = s.id := fun e => hk e.symm
     simp [hk, hk']
   ·rw [hg, aqm h1 h2 h3, htk]
 ·have hili : ¬ (i : Int) < (l.length : Int) := by omega
  simp [hil]
  unfold M.br.j0
  rw [List.drop_of_length_le (by omega)] at hg
  have fin := h w2 S2.fr
  unfold vh at fin
  rw [hg, vg] at fin
  by_cases h1 : 0 < l.length
  ·have h1i : (0 : Int) < (l.length : Int) := by omega
   by_cases h2 : l.length ≤ 16
   ·have h2i : (l.length : Int) ≤ 16 := by omega
    simp [hlv, h1]
    try rw [hlv]
    simp [h2i]
    simpa [h1, h2] using fin
   ·have h2i : ¬ (l.length : Int) ≤ 16 := by omega
    simp [hlv, h1]
    try rw [hlv]
    simp [h2i]
    simpa [h1, h2] using fin
  ·have h1i : ¬ (0 : Int) < (l.length : Int) := by omega
   simp [hlv, h1i]
   simpa [h1] using fin
theorem alz {w : World} {v : Value} {l : List Int} (hs : SlU w v l) (hlen : l.length ≤ 1000000) {K : KV} (h : ∀ w' v', SlU w' v' l → (∀ x, v'.ownBlock = some x → w.heap.size ≤ x) → Fr (fun _ => False) w w' → K v' w') : ey P F.aj [v] w K := by
 rw [M.bn.fcall]
 apply M.bn.calls
 unfold M.bn
 simp only [fh]
 have hs' := hs
 obtain ⟨a, cap, rfl, _⟩ := hs'
 cases a with
 | none =>
  simp
  have hz : l = [] := by
   obtain ⟨a', cap', hv, _, _, h3⟩ := hs
   cases l with
   | nil => rfl
   | cons x l =>
    obtain ⟨b, o, ha, _⟩ := h3 0 x rfl
    injection hv with h1 _ _
    rw [← h1] at ha; cases ha
  subst hz
  exact h w _ Sl.nil (fun x hx => by simp [Value.ownBlock] at hx) (Fr.refl _ _)
 | some a =>
  simp
  have f0 : Fr (fun _ => False) w (w.alloc (.cells #[] T.e)) := (Fr.refl _ w).alloc _
  refine xi et.h ahn aya (base := w.heap.size) (Ow.empty (by rw [fx, if_pos rfl]) (Nat.le_refl _)) (hs.fr f0 fun _ _ _ h => h) (by simp; omega) (by decide) (by simp) _ fun v3 w3 o3 f3 g3 => ?_
  rw [List.nil_append] at o3
  exact h w3 v3 (o3.sl ahn) (fun x hx => (o3.lt hx).1) (f0.kg f3 fun b hb hv => by simp [Value.ownBlock] at hv; omega)
inductive ThR (w : World) (p : Pk) (ls : List Spn) (lm : List Mem) (lu : List Int) : Value → Prop
 | qt (v : Value) : (p.fu = 1 ∨ p.fu = 2) → SlS w v ls → ThR w p ls lm lu (.iface T.s (.agg #[.int .u64 p.tr, .bool (decide (p.fu = 2)), v]))
 | afn (v : Value) : p.fu = 3 → SlM w v lm → ThR w p ls lm lu (.iface T.t (.agg #[v]))
 | ask : (p.fu = 4 ∨ p.fu = 6) → ThR w p ls lm lu (agc p.tr p.b p.v)
 | xc : (p.fu = 5 ∨ p.fu = 7) → ThR w p ls lm lu (.iface T.n (.agg #[.int .u64 p.tr, .int .u64 p.b.n, .int .u64 p.b.fo, .bool p.ok, .int .u64 p.ic.n, .int .u64 p.ic.fo, .int .i64 p.v, .bool (decide (p.fu = 7))]))
 | qa : p.fu = 8 → ThR w p ls lm lu (.iface T.y (.agg #[.int .u64 p.tr, .int .i64 p.v]))
 | uh (v : Value) : p.fu = 9 → SlS w v ls → ThR w p ls lm lu (.iface T.r (.agg #[.int .u64 p.tr, .int .u64 p.b.n, .int .u64 p.b.fo, v]))
 | xn (v : Value) : p.fu = 10 → SlU w v lu → ThR w p ls lm lu (.iface T.v (.agg #[.int .u64 p.tr, v]))
 | none : ¬ (1 ≤ p.fu ∧ p.fu ≤ 10) → ThR w p ls lm lu .nilIface
theorem alk {w : World} {p : Pk} {ls : List Spn} {lm : List Mem} {lu : List Int} (hp : sk w p ls lm lu) {K : KV} (h : ∀ w' t, ThR w' p ls lm lu t → Fr (fun _ => False) w w' → K t w') : ey P F.cg [pkA p] w K := by
 by_cases ha : p.fu = 4 ∨ p.fu = 6
 ·exact aqv ha fun w' f => h w' _ (.ask ha) f
 rw [M.ae.fcall]
 apply M.ae.calls
 unfold M.ae
 rw [amw hp]
 have S1 : St w (w.alloc (.cells (pkC p).toArray T.a)) (fq w.heap.size (pkC p).toArray T.a :: []) := (St.jy w).add ((Fr.refl _ w).alloc _) (B := fun x => x = w.heap.size) ⟨by rw [fx, if_pos rfl], rfl⟩ fun x hx => by subst hx; rw [ig]; omega
 generalize w.alloc (.cells (pkC p).toArray T.a) = w1 at *
 generalize w.heap.size = pb at *
 have f1 := S1.fr
 have hp1 := hp.fr f1
 have fd : Fr (fun _ => False) w1 (dr w1 1) := (Fr.refl _ w1).dr 1
 have hpd := hp1.fr fd
 have Sd := S1.iq fd
 obtain ⟨_, _, e2, _⟩ := km Sd
 obtain ⟨c0, c1, c2, c4, c6, c7, c8, c9, c10, _⟩ := km S1
 obtain ⟨⟨a1, k1, h1⟩, ⟨a2, k2, h2⟩, a3, k3, h3⟩ := hp.one
 have n4 : ¬ p.fu = 4 := fun h => ha (.inl h)
 have n6 : ¬ p.fu = 6 := fun h => ha (.inr h)
 by_cases q1 : p.fu = 1 ∨ p.fu = 2
 ·have fin : ∀ d : Bool, d = decide (p.fu = 2) → ∀ w2 v2, SlS w2 v2 ls → Fr (fun _ => False) (dr w1 1) w2 → K (.iface T.s (.agg #[.int .u64 p.tr, .bool d, v2])) w2 := fun d hd w2 v2 s2 f2 => by
   subst hd
   exact h w2 _ (.qt v2 q1 s2) (f1.trans (fd.trans f2))
  have c8' := c8
  rw [h1] at c8'
  rcases q1 with q | q
  ·simp [c0, q]
   unfold M.ae.j1
   simp [c1, c0, q, c8']
   rw [← h1, M.ah.fcall]
   refine aba hpd.s hpd.ls fun w2 v2 s2 _ f2 => ?_
   obtain ⟨a, c, hv, _⟩ := id s2
   have fin' := fin false (by simp [q]) w2 v2 s2 f2
   have S2 := Sd.iq f2
   obtain ⟨d0, d1, _⟩ := km S2
   rw [hv] at fin' ⊢
   simp [d0, d1, q]
   exact fin'
  ·simp [c0, q]
   unfold M.ae.j1
   simp [c1, c0, q, c8']
   rw [← h1, M.ah.fcall]
   refine aba hpd.s hpd.ls fun w2 v2 s2 _ f2 => ?_
   obtain ⟨a, c, hv, _⟩ := id s2
   have fin' := fin true (by simp [q]) w2 v2 s2 f2
   have S2 := Sd.iq f2
   obtain ⟨d0, d1, _⟩ := km S2
   rw [hv] at fin' ⊢
   simp [d0, d1, q]
   exact fin'
 have n1 : ¬ p.fu = 1 := fun h => q1 (.inl h)
 have n2 : ¬ p.fu = 2 := fun h => q1 (.inr h)
 simp [c0, n1, n2]
 unfold M.ae.j1
 by_cases q3 : p.fu = 3
 ·have c9' := c9
  rw [h2] at c9'
  simp [q3, c9']
  rw [← h2]
  refine aln hp1.m hp1.lm fun w2 v2 s2 _ f2 => ?_
  obtain ⟨a, c, hv, _⟩ := id s2
  have fin := h w2 _ (.afn v2 q3 s2) (f1.trans f2)
  rw [hv] at fin ⊢
  simp
  exact fin
 simp [q3, n4, n6]
 unfold M.ae.j2
 by_cases q5 : p.fu = 5 ∨ p.fu = 7
 ·have fin := h w1 _ (.xc (ls := ls) (lm := lm) (lu := lu) q5) f1
  unfold jm at c2 c4
  rcases q5 with q | q
  ·simp [q]
   unfold M.ae.j3
   simp [c0, c1, c2, c4, c6, c7, q]
   simp [q] at fin
   exact fin
  ·simp [q]
   unfold M.ae.j3
   simp [c0, c1, c2, c4, c6, c7, q]
   simp [q] at fin
   exact fin
 have n5 : ¬ p.fu = 5 := fun h => q5 (.inl h)
 have n7 : ¬ p.fu = 7 := fun h => q5 (.inr h)
 simp [n5, n7]
 unfold M.ae.j3
 by_cases q8 : p.fu = 8
 ·simp [q8, c1, c6]
  exact h w1 _ (.qa q8) f1
 by_cases q9 : p.fu = 9
 ·have c8' := c8
  rw [h1] at c8'
  unfold jm at c2 e2
  simp [q9, c1, c2, e2, c8']
  rw [← h1, M.ah.fcall]
  refine aba hpd.s hpd.ls fun w2 v2 s2 _ f2 => ?_
  obtain ⟨a, c, hv, _⟩ := id s2
  have fin := h w2 _ (.uh v2 q9 s2) (f1.trans (fd.trans f2))
  have S2 := Sd.iq f2
  obtain ⟨_, d1, d2, _⟩ := km S2
  unfold jm at d2
  rw [hv] at fin ⊢
  simp [d1, d2]
  exact fin
 by_cases q10 : p.fu = 10
 ·have c10' := c10
  rw [h3] at c10'
  simp [q10, c1, c10']
  rw [← h3]
  refine alz hpd.u hpd.lu fun w2 v2 s2 _ f2 => ?_
  obtain ⟨a, c, hv, _⟩ := id s2
  have fin := h w2 _ (.xn v2 q10 s2) (f1.trans (fd.trans f2))
  have S2 := Sd.iq f2
  obtain ⟨_, d1, _⟩ := km S2
  rw [hv] at fin ⊢
  simp [d1]
  exact fin
 simp [q8, q9, q10]
 exact h w1 _ (.none (by omega)) f1
def aez (tr : Int) (l : List Spn) : Bool := decide (0 < tr) && vh tr l
theorem aml {w : World} {tr : Int} {d : Bool} {v : Value} {l : List Spn} (hs : SlS w v l) (hlen : l.length ≤ 1000000) {K : KV} (h : ∀ w', Fr (fun _ => False) w w' → K (.bool (aez tr l)) w') : ey P F.ai [.iface T.s (.agg #[.int .u64 tr, .bool d, v])] w K := by
 rw [M.aa.fcall]
 apply M.aa.calls
 unfold M.aa
 obtain ⟨a, c, hv, _⟩ := id hs
 rw [hv]
 simp
 have S0 : St w (w.alloc (.cells #[.int .u64 0, .int .u64 0] T.c)) (fq w.heap.size #[.int .u64 0, .int .u64 0] T.c :: []) := (St.jy w).add ((Fr.refl _ w).alloc _) (B := fun x => x = w.heap.size) ⟨by rw [fx, if_pos rfl], rfl⟩ fun x hx => by subst hx; rw [ig]; omega
 refine iu (vs := [.int .u64 0, .int .u64 0]) S0.blk rfl (by simp [jf]) fun w2 b2 f2 => ?_
 have S2 := S0.kh f2 b2
 have S3 : St w (w2.alloc (.cells #[.int .u64 0, .bool false, .slice none 0 0] T.s)) (fq w2.heap.size #[.int .u64 0, .bool false, .slice none 0 0] T.s :: _) := S2.add ((Fr.refl _ w2).alloc _) (B := fun x => x = w2.heap.size) ⟨by rw [fx, if_pos rfl], rfl⟩ fun x hx => by subst hx; rw [ig]; omega
 refine iu (vs := [.int .u64 tr, .bool d, .slice a l.length c]) S3.blk rfl (by simp [jf]) fun w4 b4 f4 => ?_
 have S4 := S3.kh f4 b4
 generalize w2.heap.size = ob at *
 have c0 : fi w4 ob 0 = some (.int .u64 tr) := by rw [fm b4]; rfl
 have c2 : fi w4 ob 2 = some (.slice a l.length c) := by rw [fm b4]; rfl
 unfold aez at h
 by_cases h1 : 0 < tr
 ·simp [c0, c2, h1]
  rw [← hv]
  refine amc (hs.fr S4.fr fun _ _ _ h => h) hlen fun w5 f5 => ?_
  have fin := h w5 (S4.fr.trans f5)
  simpa [h1] using fin
 ·have fin := h w4 S4.fr
  simp [c0, h1]
  simpa [h1] using fin
def agq (tr : Int) (b : Bal) (l : List Spn) : Bool := decide (0 < tr) && decide (0 < b.n) && vh tr l
theorem ala {w : World} {tr : Int} {b : Bal} {v : Value} {l : List Spn} (hs : SlS w v l) (hlen : l.length ≤ 1000000) {K : KV} (h : ∀ w', Fr (fun _ => False) w w' → K (.bool (agq tr b l)) w') : ey P F.ai [.iface T.r (.agg #[.int .u64 tr, .int .u64 b.n, .int .u64 b.fo, v])] w K := by
 rw [M.aa.fcall]
 apply M.aa.calls
 unfold M.aa
 obtain ⟨a, c, hv, _⟩ := id hs
 rw [hv]
 simp [abj, zh, yy, abl, acv]
 have S0 : St w (w.alloc (.cells #[.int .u64 0, .int .u64 0] T.c)) (fq w.heap.size #[.int .u64 0, .int .u64 0] T.c :: []) := (St.jy w).add ((Fr.refl _ w).alloc _) (B := fun x => x = w.heap.size) ⟨by rw [fx, if_pos rfl], rfl⟩ fun x hx => by subst hx; rw [ig]; omega
 refine iu (vs := [.int .u64 0, .int .u64 0]) S0.blk rfl (by simp [jf]) fun w2 b2 f2 => ?_
 have S2 := S0.kh f2 b2
 have S3 : St w (w2.alloc (.cells #[.int .u64 0, .int .u64 0, .int .u64 0, .slice none 0 0] T.r)) (fq w2.heap.size #[.int .u64 0, .int .u64 0, .int .u64 0, .slice none 0 0] T.r :: _) := S2.add ((Fr.refl _ w2).alloc _) (B := fun x => x = w2.heap.size) ⟨by rw [fx, if_pos rfl], rfl⟩ fun x hx => by subst hx; rw [ig]; omega
 refine iu (vs := [.int .u64 tr, .int .u64 b.n, .int .u64 b.fo, .slice a l.length c]) S3.blk rfl (by simp [jf]) fun w4 b4 f4 => ?_
 have S4 := S3.kh f4 b4
 generalize w2.heap.size = ob at *
 have c0 : fi w4 ob 0 = some (.int .u64 tr) := by rw [fm b4]; rfl
 have c1 : fi w4 ob 1 = some (.int .u64 b.n) := by rw [fm b4]; rfl
 have c3 : fi w4 ob 3 = some (.slice a l.length c) := by rw [fm b4]; rfl
 unfold agq at h
 by_cases h1 : 0 < tr
 ·by_cases h2 : 0 < b.n
  ·simp [c0, c1, c3, h1, h2]
   rw [← hv]
   refine amc (hs.fr S4.fr fun _ _ _ h => h) hlen fun w5 f5 => ?_
   have fin := h w5 (S4.fr.trans f5)
   simpa [h1, h2] using fin
  ·have fin := h w4 S4.fr
   simp [c0, c1, h1, h2]
   simpa [h1, h2] using fin
 ·have fin := h w4 S4.fr
  simp [c0, h1]
  simpa [h1] using fin
def amu (tr v : Int) : Bool := decide (0 < tr) && mu v
theorem aqf {w : World} {tr v : Int} {K : KV} (h : ∀ w', Fr (fun _ => False) w w' → K (.bool (amu tr v)) w') : ey P F.ai [.iface T.y (.agg #[.int .u64 tr, .int .i64 v])] w K := by
 rw [M.aa.fcall]
 apply M.aa.calls
 unfold M.aa
 simp [aej, abp, acb, ael]
 have S0 : St w (w.alloc (.cells #[.int .u64 0, .int .u64 0] T.c)) (fq w.heap.size #[.int .u64 0, .int .u64 0] T.c :: []) := (St.jy w).add ((Fr.refl _ w).alloc _) (B := fun x => x = w.heap.size) ⟨by rw [fx, if_pos rfl], rfl⟩ fun x hx => by subst hx; rw [ig]; omega
 refine iu (vs := [.int .u64 0, .int .u64 0]) S0.blk rfl (by simp [jf]) fun w2 b2 f2 => ?_
 have S2 := S0.kh f2 b2
 have S3 : St w (w2.alloc (.cells #[.int .u64 0, .int .i64 0] T.y)) (fq w2.heap.size #[.int .u64 0, .int .i64 0] T.y :: _) := S2.add ((Fr.refl _ w2).alloc _) (B := fun x => x = w2.heap.size) ⟨by rw [fx, if_pos rfl], rfl⟩ fun x hx => by subst hx; rw [ig]; omega
 refine iu (vs := [.int .u64 tr, .int .i64 v]) S3.blk rfl (by simp [jf]) fun w4 b4 f4 => ?_
 have S4 := S3.kh f4 b4
 generalize w2.heap.size = ob at *
 have c0 : fi w4 ob 0 = some (.int .u64 tr) := by rw [fm b4]; rfl
 have c1 : fi w4 ob 1 = some (.int .i64 v) := by rw [fm b4]; rfl
 have fin := h w4 S4.fr
 unfold amu at fin
 by_cases h1 : 0 < tr
 ·simp [c0, c1, h1]
  refine ahm ?_
  simpa [h1] using fin
 ·simp [c0, h1]
  simpa [h1] using fin
def wz : Int → List Int → Bool
 | _, [] => true
 | jl, m :: l => decide (jl < m) && wz m l
def RuI (W : World) (l : List Int) : KL := fun x w1 => ∃ (u0 u1 : Value) (jl : Int) (i : Nat), x = [u0, u1, .int .u64 jl, .int .i64 (i : Nat)] ∧ i ≤ l.length ∧ wz 0 l = wz jl (l.drop i) ∧ Fr (fun _ => False) W w1
theorem arr {w : World} (m : Int) {K : KV} (h : K (.int .u64 m) w) : ku P (.func (.func F.cn) #[] #[]) [.int .u64 m] w K := by
 rw [M.df.rcall]
 apply M.df.calls
 unfold M.df
 exact h
theorem bat {w : World} {v : Value} {l : List Int} (hs : SlU w v l) (hlen : l.length ≤ 1000000) {K : KV} (h : ∀ w', Fr (fun _ => False) w w' → K (.bool (wz 0 l && (decide (0 < l.length) && decide (l.length ≤ 16)))) w') :
  ey P F.ce [v, .int .i64 16, .func (.func F.cn) #[] #[]] w K := by
 rw [M.av.fcall]
 apply M.av.calls
 unfold M.av
 simp only [fh]
 rw [hs.ii (by kernel_rfl)]
 refine ⟨RuI w l, fun x _ => l.length - ms x 3, ⟨_, _, 0, 0, rfl, Nat.zero_le _, rfl, Fr.refl _ _⟩, ?_⟩
 rintro x w1 ⟨u0, u1, jl, i, rfl, hi, hr, f1⟩
 have q2 : gv [u0, u1, .int .u64 jl, .int .i64 (i : Nat)] 2 = .int .u64 jl := rfl
 have q3 : gv [u0, u1, .int .u64 jl, .int .i64 (i : Nat)] 3 = .int .i64 (i : Nat) := rfl
 have hs1 := hs.fr f1 fun _ _ _ h => h
 simp only [q3]
 by_cases hil : i < l.length
 ·have hil' : (i : Int) < l.length := by omega
  simp [hil']
  unfold M.av.j2
  obtain ⟨b, o, cap, hv, hb, _, hc⟩ := hs1.at hil
  have hld := hc 0 _ rfl
  have hwi : IntKind.i64.wrap ((i : Int) + 1) = ((i + 1 : Nat) : Int) := by rw [fj (by omega) (by omega)]; rfl
  have hdrop : l.drop i = l[i] :: l.drop (i + 1) := List.drop_eq_getElem_cons hil
  rw [hdrop] at hr
  generalize l[i] = m at *
  subst hv
  have hld' : fi w1 b (o + i) = some (.int .u64 m) := by simpa using hld
  simp [q2, q3, hil, hld']
  refine arr m ?_
  simp
  by_cases hle : m ≤ jl
  ·have hlt : ¬ jl < m := by omega
   simp [hle]
   have hf : wz 0 l = false := by rw [hr]; unfold wz; simp [hlt]
   rw [hf] at h
   exact h w1 f1
  ·have hlt : jl < m := by omega
   simp [hle]
   refine arr m ?_
   simp [hwi]
   refine ⟨⟨_, _, m, i + 1, rfl, by omega, ?_, f1⟩, by simp [ms, gv]; omega⟩
   rw [hr]
   show (decide (jl < m) && wz m (l.drop (i + 1))) = _
   simp [hlt]
 ·have hil' : ¬ (i : Int) < l.length := by omega
  have hr1 : wz 0 l = true := by rw [hr, List.drop_of_length_le (by omega)]; rfl
  simp [hil']
  unfold M.av.j0
  rw [hs1.ii (by kernel_rfl)]
  rw [hr1] at h
  by_cases h0 : 0 < l.length
  ·have h0' : (0 : Int) < l.length := by omega
   have hx : decide ((l.length : Int) ≤ 16) = decide (l.length ≤ 16) := by
    by_cases h16 : l.length ≤ 16
    ·rw [decide_eq_true h16, decide_eq_true (by omega)]
    ·rw [decide_eq_false h16, decide_eq_false (by omega)]
   simp [h0]
   rw [hs1.ii (by kernel_rfl)]
   simp
   rw [hx]
   have := h w1 f1
   simpa [h0] using this
  ·simp [h0]
   have := h w1 f1
   simpa [h0] using this
def ajk (tr : Int) (l : List Int) : Bool := decide (0 < tr) && (wz 0 l && (decide (0 < l.length) && decide (l.length ≤ 16)))
theorem amk {w : World} {tr : Int} {v : Value} {l : List Int} (hs : SlU w v l) (hlen : l.length ≤ 1000000) {K : KV} (h : ∀ w', Fr (fun _ => False) w w' → K (.bool (ajk tr l)) w') : ey P F.ai [.iface T.v (.agg #[.int .u64 tr, v])] w K := by
 rw [M.aa.fcall]
 apply M.aa.calls
 unfold M.aa
 obtain ⟨a, c, hv, _⟩ := id hs
 rw [hv]
 simp [adc, aad, aav, acx, aeo, abk]
 have S0 : St w (w.alloc (.cells #[.int .u64 0, .int .u64 0] T.c)) (fq w.heap.size #[.int .u64 0, .int .u64 0] T.c :: []) := (St.jy w).add ((Fr.refl _ w).alloc _) (B := fun x => x = w.heap.size) ⟨by rw [fx, if_pos rfl], rfl⟩ fun x hx => by subst hx; rw [ig]; omega
 refine iu (vs := [.int .u64 0, .int .u64 0]) S0.blk rfl (by simp [jf]) fun w2 b2 f2 => ?_
 have S2 := S0.kh f2 b2
 have S3 : St w (w2.alloc (.cells #[.int .u64 0, .slice none 0 0] T.v)) (fq w2.heap.size #[.int .u64 0, .slice none 0 0] T.v :: _) := S2.add ((Fr.refl _ w2).alloc _) (B := fun x => x = w2.heap.size) ⟨by rw [fx, if_pos rfl], rfl⟩ fun x hx => by subst hx; rw [ig]; omega
 refine iu (vs := [.int .u64 tr, .slice a l.length c]) S3.blk rfl (by simp [jf]) fun w4 b4 f4 => ?_
 have S4 := S3.kh f4 b4
 generalize w2.heap.size = ob at *
 have c0 : fi w4 ob 0 = some (.int .u64 tr) := by rw [fm b4]; rfl
 have c1 : fi w4 ob 1 = some (.slice a l.length c) := by rw [fm b4]; rfl
 unfold ajk at h
 by_cases h1 : 0 < tr
 ·simp [c0, c1, h1]
  rw [← hv]
  refine bat (hs.fr S4.fr fun _ _ _ h => h) hlen fun w5 f5 => ?_
  have fin := h w5 (S4.fr.trans f5)
  simpa [h1] using fin
 ·have fin := h w4 S4.fr
  simp [c0, h1]
  simpa [h1] using fin
def afd (tr : Int) (b : Bal) (ok : Bool) (ic : Bal) (v : Int) (gh : Bool) : Bool :=
 if tr = 0 ∨ b.n = 0 then false else if ok = false then decide (v = 0) && !(decide (ic = gy)) else if gh = true then decide (v = 0) && decide (ic = gy) else (mu v && !(decide (ic = gy))) || (decide (v = 0) && decide (ic = gy))
theorem amj {w : World} {tr v : Int} {b ic : Bal} {ok gh : Bool} {K : KV} (h : ∀ w', Fr (fun _ => False) w w' → K (.bool (afd tr b ok ic v gh)) w') : ey P F.ai [.iface T.n (.agg #[.int .u64 tr, .int .u64 b.n, .int .u64 b.fo, .bool ok, .int .u64 ic.n, .int .u64 ic.fo, .int .i64 v, .bool gh])] w K := by
 rw [M.aa.fcall]
 apply M.aa.calls
 unfold M.aa
 simp [adj, abb, aap]
 have S0 : St w (w.alloc (.cells #[.int .u64 0, .int .u64 0] T.c)) (fq w.heap.size #[.int .u64 0, .int .u64 0] T.c :: []) := (St.jy w).add ((Fr.refl _ w).alloc _) (B := fun x => x = w.heap.size) ⟨by rw [fx, if_pos rfl], rfl⟩ fun x hx => by subst hx; rw [ig]; omega
 refine iu (vs := [.int .u64 0, .int .u64 0]) S0.blk rfl (by simp [jf]) fun w2 b2 f2 => ?_
 have S2 := S0.kh f2 b2
 have S3 : St w (w2.alloc (.cells #[.int .u64 0, .int .u64 0, .int .u64 0, .bool false, .int .u64 0, .int .u64 0, .int .i64 0, .bool false] T.n)) (fq w2.heap.size #[.int .u64 0, .int .u64 0, .int .u64 0, .bool false, .int .u64 0, .int .u64 0, .int .i64 0, .bool false] T.n :: _) := S2.add ((Fr.refl _ w2).alloc _) (B := fun x => x = w2.heap.size) ⟨by rw [fx, if_pos rfl], rfl⟩ fun x hx => by subst hx; rw [ig]; omega
 refine iu (vs := [.int .u64 tr, .int .u64 b.n, .int .u64 b.fo, .bool ok, .int .u64 ic.n, .int .u64 ic.fo, .int .i64 v, .bool gh]) S3.blk rfl (by simp [jf]) fun w4 b4 f4 => ?_
 have S4 := S3.kh f4 b4
 have fin := h w4 S4.fr
 have z0 : ∀ K, ldN P 2 w.heap.size 0 w4 K = K (jm gy) w4 := fun K => by
  have hh := S4.swap.blk
  exact aby (by rw [fm hh]; rfl) (by rw [fm hh]; rfl) K
 generalize w2.heap.size = ob at *
 generalize w.heap.size = zb at *
 have c0 : fi w4 ob 0 = some (.int .u64 tr) := by rw [fm b4]; rfl
 have c1 : fi w4 ob 1 = some (.int .u64 b.n) := by rw [fm b4]; rfl
 have c3 : fi w4 ob 3 = some (.bool ok) := by rw [fm b4]; rfl
 have c4 : ∀ K, ldN P 2 ob 4 w4 K = K (jm ic) w4 := fun K => aby (by rw [fm b4]; rfl) (by rw [fm b4]; rfl) K
 have c6 : fi w4 ob 6 = some (.int .i64 v) := by rw [fm b4]; rfl
 have c7 : fi w4 ob 7 = some (.bool gh) := by rw [fm b4]; rfl
 unfold afd at fin
 by_cases h1 : tr = 0
 ·simp [c0, h1]
  simpa [h1] using fin
 by_cases h2 : b.n = 0
 ·simp [c0, c1, h1, h2]
  simpa [h2] using fin
 cases ok with
 | false =>
  by_cases h3 : v = 0
  ·simp [c0, c1, c3, c6, c4, z0, h1, h2, h3, adb]
   simpa [h1, h2, h3] using fin
  ·simp [c0, c1, c3, c6, h1, h2, h3]
   simpa [h1, h2, h3] using fin
 | true =>
 cases gh with
 | true =>
  by_cases h3 : v = 0
  ·simp [c0, c1, c3, c6, c7, c4, z0, h1, h2, h3, ux]
   simpa [h1, h2, h3] using fin
  ·simp [c0, c1, c3, c6, c7, h1, h2, h3]
   simpa [h1, h2, h3] using fin
 | false =>
 simp [c0, c1, c3, c7, h1, h2]
 unfold M.aa.j1
 simp [c6]
 refine ahm ?_
 by_cases h4 : mu v = true
 ·have hv0 : ¬ v = 0 := fun hh => by subst hh; exact absurd h4 (by decide)
  by_cases h5 : ic = gy
  ·simp [h4, c4, z0, adb, h5, c6, hv0]
   simpa [h1, h2, h4, h5, hv0] using fin
  ·simp [h4, c4, z0, adb, h5]
   simpa [h1, h2, h4, h5] using fin
 ·by_cases h3 : v = 0
  ·subst h3
   have ht : mu 0 = false := by decide
   simp [ht, c6, c4, z0, ux]
   simpa [h1, h2, ht] using fin
  ·simp [h4, c6, h3]
   simpa [h1, h2, h4, h3] using fin
abbrev ir : Value := .slice none 0 0
theorem ww {w W : World} {pb : Nat} {R : List Asn} {q : Pk} (S : St w W (fq pb (pkC q).toArray T.a :: R)) (K : KV) : ldN P 11 pb 0 W K = K (pkA q) W := (km S).2.2.2.2.2.2.2.2.2 K
theorem aax {w W : World} {pb : Nat} {R : List Asn} {q : Pk} (S : St w W (fq pb (pkC q).toArray T.a :: R)) (K : KV) : og P T.a (.pointer (some ⟨pb, 0, none⟩)) W K = K (pkA q) W := by rw [agj]; exact ww S K
theorem so {k tr v : Int} {b s : Bal} {ok : Bool} {a1 a2 a3 : Option Addr} {l1 l2 l3 c1 c2 c3 : Nat} : ∀ u ∈ pkC ⟨k, tr, b, s, v, ok, .slice a1 l1 c1, .slice a2 l2 c2, .slice a3 l3 c3⟩, jf u = true := fun u hu => by
 simp only [pkC, List.mem_cons, List.not_mem_nil, or_false] at hu
 rcases hu with rfl | rfl | rfl | rfl | rfl | rfl | rfl | rfl | rfl | rfl | rfl <;> rfl
theorem afa (w : World) : St w (w.alloc (.cells #[.int .i64 0, .int .u64 0, .int .u64 0, .int .u64 0, .int .u64 0, .int .u64 0, .int .i64 0, .bool false, .slice none 0 0, .slice none 0 0, .slice none 0 0] T.a)) (fq w.heap.size #[.int .i64 0, .int .u64 0, .int .u64 0, .int .u64 0, .int .u64 0, .int .u64 0, .int .i64 0, .bool false, .slice none 0 0, .slice none 0 0, .slice none 0 0] T.a :: []) := (St.jy w).add ((Fr.refl _ w).alloc _) (B := fun x => x = w.heap.size) ⟨by rw [fx, if_pos rfl], rfl⟩ fun x hx => by subst hx; rw [ig]; omega
theorem acs {w0 w : World} {R : List Asn} (S : St w0 w R) (cs : Array Value) (t : TypeId) : St w0 (w.alloc (.cells cs t)) (fq w.heap.size cs t :: R) := S.add ((Fr.refl _ w).alloc _) (B := fun x => x = w.heap.size) ⟨by rw [fx, if_pos rfl], rfl⟩ fun x hx => by subst hx; rw [ig]; omega
theorem ami {w : World} {tr v : Int} {K : KV} (h : ∀ w', Fr (fun _ => False) w w' → K (pkA ⟨8, tr, gy, gy, v, false, ir, ir, ir⟩) w') : ey P F.ac [.iface T.y (.agg #[.int .u64 tr, .int .i64 v])] w K := by
 rw [M.ab.fcall]
 apply M.ab.calls
 unfold M.ab
 simp [aej, abp, acb, ael]
 have S0 := afa w
 have z0 : (w.alloc (.cells #[.int .i64 0, .int .u64 0, .int .u64 0, .int .u64 0, .int .u64 0, .int .u64 0, .int .i64 0, .bool false, .slice none 0 0, .slice none 0 0, .slice none 0 0] T.a)).heap.size = w.heap.size + 1 := ig _ _
 generalize w.alloc (.cells #[.int .i64 0, .int .u64 0, .int .u64 0, .int .u64 0, .int .u64 0, .int .u64 0, .int .i64 0, .bool false, .slice none 0 0, .slice none 0 0, .slice none 0 0] T.a) = w1 at *
 have S1 := acs S0 #[.int .u64 0, .int .i64 0] T.y
 rw [z0] at S1
 generalize w.heap.size = pb at *
 generalize pb + 1 = ob at *
 refine iu (vs := [.int .u64 tr, .int .i64 v]) S1.blk rfl (by simp [jf]) fun w2 b2 f2 => ?_
 have S2 := S1.kh f2 b2
 have c0 : fi w2 ob 0 = some (.int .u64 tr) := by rw [fm b2]; rfl
 have c1 : fi w2 ob 1 = some (.int .i64 v) := by rw [fm b2]; rfl
 simp [c0, c1]
 refine iu (vs := pkC ⟨8, tr, gy, gy, v, false, ir, ir, ir⟩) S2.swap.blk rfl so fun w3 b3 f3 => ?_
 have S3 := S2.swap.kh f3 b3
 rw [ww S3]
 have e : pkA ⟨8, tr, gy, gy, v, false, ir, ir, ir⟩ = .agg #[.int .i64 8, .int .u64 tr, .int .u64 0, .int .u64 0, .int .u64 0, .int .u64 0, .int .i64 v, .bool false, .slice none 0 0, .slice none 0 0, .slice none 0 0] := rfl
 rw [e]
 simp
 refine iu (vs := pkC ⟨8, tr, gy, gy, v, false, ir, ir, ir⟩) S3.blk rfl so fun w5 b5 f5 => ?_
 have S5 := S3.kh f5 b5
 rw [aax S5]
 exact ⟨rfl, h w5 S5.fr⟩
theorem ake {w : World} {tr v : Int} {b ic : Bal} {ok gh : Bool} {K : KV} (h : ∀ w', Fr (fun _ => False) w w' → K (pkA ⟨if gh = true then 7 else 5, tr, b, ic, v, ok, ir, ir, ir⟩) w') : ey P F.ac [.iface T.n (.agg #[.int .u64 tr, .int .u64 b.n, .int .u64 b.fo, .bool ok, .int .u64 ic.n, .int .u64 ic.fo, .int .i64 v, .bool gh])] w K := by
 rw [M.ab.fcall]
 apply M.ab.calls
 unfold M.ab
 simp [adj, abb, aap]
 have S0 := afa w
 have z0 : (w.alloc (.cells #[.int .i64 0, .int .u64 0, .int .u64 0, .int .u64 0, .int .u64 0, .int .u64 0, .int .i64 0, .bool false, .slice none 0 0, .slice none 0 0, .slice none 0 0] T.a)).heap.size = w.heap.size + 1 := ig _ _
 generalize w.alloc (.cells #[.int .i64 0, .int .u64 0, .int .u64 0, .int .u64 0, .int .u64 0, .int .u64 0, .int .i64 0, .bool false, .slice none 0 0, .slice none 0 0, .slice none 0 0] T.a) = w1 at *
 have S1 := acs S0 #[.int .u64 0, .int .u64 0, .int .u64 0, .bool false, .int .u64 0, .int .u64 0, .int .i64 0, .bool false] T.n
 rw [z0] at S1
 generalize w.heap.size = pb at *
 generalize pb + 1 = ob at *
 refine iu (vs := [.int .u64 tr, .int .u64 b.n, .int .u64 b.fo, .bool ok, .int .u64 ic.n, .int .u64 ic.fo, .int .i64 v, .bool gh]) S1.blk rfl (by simp [jf]) fun w2 b2 f2 => ?_
 have S2 := S1.kh f2 b2
 have reC : ∀ {W : World} {R : List Asn}, St w W (fq ob [.int .u64 tr, .int .u64 b.n, .int .u64 b.fo, .bool ok, .int .u64 ic.n, .int .u64 ic.fo, .int .i64 v, .bool gh].toArray T.n :: R) → fi W ob 0 = some (.int .u64 tr) ∧ (∀ K, ldN P 2 ob 1 W K = K (.agg #[.int .u64 b.n, .int .u64 b.fo]) W) ∧ fi W ob 3 = some (.bool ok) ∧ (∀ K, ldN P 2 ob 4 W K = K (.agg #[.int .u64 ic.n, .int .u64 ic.fo]) W) ∧ fi W ob 6 = some (.int .i64 v) ∧ fi W ob 7 = some (.bool gh) := fun {W R} S' => by
  have hh := S'.blk
  exact ⟨by rw [fm hh]; rfl, fun K => aby (by rw [fm hh]; rfl) (by rw [fm hh]; rfl) K, by rw [fm hh]; rfl, fun K => aby (by rw [fm hh]; rfl) (by rw [fm hh]; rfl) K, by rw [fm hh]; rfl, by rw [fm hh]; rfl⟩
 obtain ⟨c0, c1, c3, c4, c6, _⟩ := reC S2
 simp [c0, c1, c3, c4, c6]
 refine iu (vs := pkC ⟨5, tr, b, ic, v, ok, ir, ir, ir⟩) S2.swap.blk rfl so fun w3 b3 f3 => ?_
 have S3 := S2.swap.kh f3 b3
 obtain ⟨_, _, _, _, _, d7⟩ := reC S3.swap
 cases gh with
 | false =>
  simp [d7]
  rw [ww S3]
  have e : pkA ⟨5, tr, b, ic, v, ok, ir, ir, ir⟩ = .agg #[.int .i64 5, .int .u64 tr, .int .u64 b.n, .int .u64 b.fo, .int .u64 ic.n, .int .u64 ic.fo, .int .i64 v, .bool ok, .slice none 0 0, .slice none 0 0, .slice none 0 0] := rfl
  rw [e]
  simp
  refine iu (vs := pkC ⟨5, tr, b, ic, v, ok, ir, ir, ir⟩) S3.blk rfl so fun w5 b5 f5 => ?_
  have S5 := S3.kh f5 b5
  rw [aax S5]
  exact ⟨rfl, h w5 S5.fr⟩
 | true =>
  have e0 := yi S3.blk 0 _ rfl
  have ez := kj S3.blk
  simp [d7, e0, ez]
  have S4 : St w (w3.setCell ⟨pb, 0, none⟩ (.int .i64 7)) (fq pb (pkC ⟨7, tr, b, ic, v, ok, ir, ir, ir⟩).toArray T.a :: _) := S3.kh ((Fr.refl (fun x => x = pb) w3).setCell (.inl rfl) _ _) ((jv S3.blk).trans rfl)
  rw [ww S4]
  have e : pkA ⟨7, tr, b, ic, v, ok, ir, ir, ir⟩ = .agg #[.int .i64 7, .int .u64 tr, .int .u64 b.n, .int .u64 b.fo, .int .u64 ic.n, .int .u64 ic.fo, .int .i64 v, .bool ok, .slice none 0 0, .slice none 0 0, .slice none 0 0] := rfl
  rw [e]
  simp
  refine iu (vs := pkC ⟨7, tr, b, ic, v, ok, ir, ir, ir⟩) S4.blk rfl so fun w5 b5 f5 => ?_
  have S5 := S4.kh f5 b5
  rw [aax S5]
  exact ⟨rfl, h w5 S5.fr⟩
theorem ajz {w : World} {tr : Int} {d : Bool} {v : Value} {l : List Spn} (hs : SlS w v l) (hlen : l.length ≤ 1000000) {K : KV} (h : ∀ w' v', SlS w' v' l → Fr (fun _ => False) w w' → K (pkA ⟨if d = true then 2 else 1, tr, gy, gy, 0, false, v', ir, ir⟩) w') : ey P F.ac [.iface T.s (.agg #[.int .u64 tr, .bool d, v])] w K := by
 rw [M.ab.fcall]
 apply M.ab.calls
 unfold M.ab
 obtain ⟨a, c, hv, _⟩ := id hs
 rw [hv]
 simp
 have S0 := afa w
 have z0 : (w.alloc (.cells #[.int .i64 0, .int .u64 0, .int .u64 0, .int .u64 0, .int .u64 0, .int .u64 0, .int .i64 0, .bool false, .slice none 0 0, .slice none 0 0, .slice none 0 0] T.a)).heap.size = w.heap.size + 1 := ig _ _
 generalize w.alloc (.cells #[.int .i64 0, .int .u64 0, .int .u64 0, .int .u64 0, .int .u64 0, .int .u64 0, .int .i64 0, .bool false, .slice none 0 0, .slice none 0 0, .slice none 0 0] T.a) = w1 at *
 have S1 := acs S0 #[.int .u64 0, .bool false, .slice none 0 0] T.s
 rw [z0] at S1
 generalize w.heap.size = pb at *
 generalize pb + 1 = ob at *
 refine iu (vs := [Value.int .u64 tr, .bool d, .slice a l.length c]) S1.blk rfl (by simp [jf]) fun w2 b2 f2 => ?_
 have S2 := S1.kh f2 b2
 have thC : ∀ {W : World} {R : List Asn}, St w W (fq ob [Value.int .u64 tr, .bool d, .slice a l.length c].toArray T.s :: R) → fi W ob 0 = some (.int .u64 tr) ∧ fi W ob 1 = some (.bool d) ∧ fi W ob 2 = some (.slice a l.length c) := fun {W R} S' => by
  have hh := S'.blk
  exact ⟨by rw [fm hh]; rfl, by rw [fm hh]; rfl, by rw [fm hh]; rfl⟩
 have hpl : pb < w2.heap.size := (Array.getElem?_eq_some_iff.1 S2.swap.blk).1
 have fd : Fr (fun _ => False) w2 (dr w2 1) := (Fr.refl _ w2).dr 1
 have Sd := S2.iq fd
 obtain ⟨c0, c1, c2⟩ := thC S2
 obtain ⟨e0, e1, e2⟩ := thC Sd
 simp [c0, c2, e0, e2]
 rw [← hv]
 rw [M.ah.fcall]
 refine aba ((hs.fr Sd.fr fun _ _ _ h => h)) hlen fun w3 v3 s3 n3 f3 => ?_
 obtain ⟨a3, c3, hv3, _⟩ := id s3
 have S3 := Sd.iq f3
 obtain ⟨g0, g1, g2⟩ := thC S3
 have hnn : ∀ b, v3.ownBlock = some b → b ≠ pb := fun b hb => by
  have := n3 b hb
  have := fd.size
  omega
 rw [hv3] at s3 hnn ⊢
 simp [g0, g2]
 refine iu (vs := pkC ⟨1, tr, gy, gy, 0, false, .slice a3 l.length c3, ir, ir⟩) S3.swap.blk rfl so fun w4 b4 f4 => ?_
 have S4 := S3.swap.kh f4 b4
 have s4 : SlS w4 (.slice a3 l.length c3) l := s3.fr f4 fun b hb _ => hnn b hb
 obtain ⟨i0, i1, i2⟩ := thC S4.swap
 cases d with
 | false =>
  simp [i0, i2, i1]
  rw [ww S4]
  have e : pkA ⟨1, tr, gy, gy, 0, false, .slice a3 l.length c3, ir, ir⟩ = .agg #[.int .i64 1, .int .u64 tr, .int .u64 0, .int .u64 0, .int .u64 0, .int .u64 0, .int .i64 0, .bool false, .slice a3 l.length c3, .slice none 0 0, .slice none 0 0] := rfl
  rw [e]
  simp
  refine iu (vs := pkC ⟨1, tr, gy, gy, 0, false, .slice a3 l.length c3, ir, ir⟩) S4.blk rfl so fun w5 b5 f5 => ?_
  have S5 := S4.kh f5 b5
  rw [aax S5]
  exact ⟨rfl, h w5 _ (s4.fr f5 fun b hb _ => hnn b hb) S5.fr⟩
 | true =>
  have e0 := yi S4.blk 0 _ rfl
  have ez := kj S4.blk
  simp [i0, i2, i1, e0, ez]
  have f6 : Fr (fun x => x = pb) w4 (w4.setCell ⟨pb, 0, none⟩ (.int .i64 2)) := (Fr.refl (fun x => x = pb) w4).setCell (.inl rfl) _ _
  have S6 : St w (w4.setCell ⟨pb, 0, none⟩ (.int .i64 2)) (fq pb (pkC ⟨2, tr, gy, gy, 0, false, .slice a3 l.length c3, ir, ir⟩).toArray T.a :: _) := S4.kh f6 ((jv S4.blk).trans rfl)
  have s6 : SlS (w4.setCell ⟨pb, 0, none⟩ (.int .i64 2)) (.slice a3 l.length c3) l := s4.fr f6 fun b hb _ => hnn b hb
  rw [ww S6]
  have e : pkA ⟨2, tr, gy, gy, 0, false, .slice a3 l.length c3, ir, ir⟩ = .agg #[.int .i64 2, .int .u64 tr, .int .u64 0, .int .u64 0, .int .u64 0, .int .u64 0, .int .i64 0, .bool false, .slice a3 l.length c3, .slice none 0 0, .slice none 0 0] := rfl
  rw [e]
  simp
  refine iu (vs := pkC ⟨2, tr, gy, gy, 0, false, .slice a3 l.length c3, ir, ir⟩) S6.blk rfl so fun w5 b5 f5 => ?_
  have S5 := S6.kh f5 b5
  rw [aax S5]
  exact ⟨rfl, h w5 _ (s6.fr f5 fun b hb _ => hnn b hb) S5.fr⟩
theorem ajo {w : World} {tr : Int} {b : Bal} {v : Value} {l : List Spn} (hs : SlS w v l) (hlen : l.length ≤ 1000000) {K : KV} (h : ∀ w' v', SlS w' v' l → Fr (fun _ => False) w w' → K (pkA ⟨9, tr, b, gy, 0, false, v', ir, ir⟩) w') : ey P F.ac [.iface T.r (.agg #[.int .u64 tr, .int .u64 b.n, .int .u64 b.fo, v])] w K := by
 rw [M.ab.fcall]
 apply M.ab.calls
 unfold M.ab
 obtain ⟨a, c, hv, _⟩ := id hs
 rw [hv]
 simp [abj, zh, yy, abl, acv]
 have S0 := afa w
 have z0 : (w.alloc (.cells #[.int .i64 0, .int .u64 0, .int .u64 0, .int .u64 0, .int .u64 0, .int .u64 0, .int .i64 0, .bool false, .slice none 0 0, .slice none 0 0, .slice none 0 0] T.a)).heap.size = w.heap.size + 1 := ig _ _
 generalize w.alloc (.cells #[.int .i64 0, .int .u64 0, .int .u64 0, .int .u64 0, .int .u64 0, .int .u64 0, .int .i64 0, .bool false, .slice none 0 0, .slice none 0 0, .slice none 0 0] T.a) = w1 at *
 have S1 := acs S0 #[.int .u64 0, .int .u64 0, .int .u64 0, .slice none 0 0] T.r
 rw [z0] at S1
 generalize w.heap.size = pb at *
 generalize pb + 1 = ob at *
 refine iu (vs := [Value.int .u64 tr, .int .u64 b.n, .int .u64 b.fo, .slice a l.length c]) S1.blk rfl (by simp [jf]) fun w2 b2 f2 => ?_
 have S2 := S1.kh f2 b2
 have thC : ∀ {W : World} {R : List Asn}, St w W (fq ob [Value.int .u64 tr, .int .u64 b.n, .int .u64 b.fo, .slice a l.length c].toArray T.r :: R) → fi W ob 0 = some (.int .u64 tr) ∧ (∀ K, ldN P 2 ob 1 W K = K (.agg #[.int .u64 b.n, .int .u64 b.fo]) W) ∧ fi W ob 3 = some (.slice a l.length c) := fun {W R} S' => by
  have hh := S'.blk
  exact ⟨by rw [fm hh]; rfl, fun K => aby (by rw [fm hh]; rfl) (by rw [fm hh]; rfl) K, by rw [fm hh]; rfl⟩
 have hpl : pb < w2.heap.size := (Array.getElem?_eq_some_iff.1 S2.swap.blk).1
 have fd : Fr (fun _ => False) w2 (dr w2 1) := (Fr.refl _ w2).dr 1
 have Sd := S2.iq fd
 obtain ⟨c0, c1, c2⟩ := thC S2
 obtain ⟨e0, e1, e2⟩ := thC Sd
 simp [c0, c1, c2, e0, e1, e2]
 rw [← hv]
 rw [M.ah.fcall]
 refine aba ((hs.fr Sd.fr fun _ _ _ h => h)) hlen fun w3 v3 s3 n3 f3 => ?_
 obtain ⟨a3, c3, hv3, _⟩ := id s3
 have S3 := Sd.iq f3
 obtain ⟨g0, g1, g2⟩ := thC S3
 have hnn : ∀ b, v3.ownBlock = some b → b ≠ pb := fun b hb => by
  have := n3 b hb
  have := fd.size
  omega
 rw [hv3] at s3 hnn ⊢
 simp [g0, g1, g2]
 refine iu (vs := pkC ⟨9, tr, b, gy, 0, false, .slice a3 l.length c3, ir, ir⟩) S3.swap.blk rfl so fun w4 b4 f4 => ?_
 have S4 := S3.swap.kh f4 b4
 have s4 : SlS w4 (.slice a3 l.length c3) l := s3.fr f4 fun b hb _ => hnn b hb
 rw [ww S4]
 have e : pkA ⟨9, tr, b, gy, 0, false, .slice a3 l.length c3, ir, ir⟩ = .agg #[.int .i64 9, .int .u64 tr, .int .u64 b.n, .int .u64 b.fo, .int .u64 0, .int .u64 0, .int .i64 0, .bool false, .slice a3 l.length c3, .slice none 0 0, .slice none 0 0] := rfl
 rw [e]
 simp
 refine iu (vs := pkC ⟨9, tr, b, gy, 0, false, .slice a3 l.length c3, ir, ir⟩) S4.blk rfl so fun w5 b5 f5 => ?_
 have S5 := S4.kh f5 b5
 rw [aax S5]
 exact ⟨rfl, h w5 _ (s4.fr f5 fun b hb _ => hnn b hb) S5.fr⟩
theorem akv {w : World} {tr : Int} {v : Value} {l : List Int} (hs : SlU w v l) (hlen : l.length ≤ 1000000) {K : KV} (h : ∀ w' v', SlU w' v' l → Fr (fun _ => False) w w' → K (pkA ⟨10, tr, gy, gy, 0, false, ir, ir, v'⟩) w') : ey P F.ac [.iface T.v (.agg #[.int .u64 tr, v])] w K := by
 rw [M.ab.fcall]
 apply M.ab.calls
 unfold M.ab
 obtain ⟨a, c, hv, _⟩ := id hs
 rw [hv]
 simp [adc, aad, aav, acx, aeo, abk]
 have S0 := afa w
 have z0 : (w.alloc (.cells #[.int .i64 0, .int .u64 0, .int .u64 0, .int .u64 0, .int .u64 0, .int .u64 0, .int .i64 0, .bool false, .slice none 0 0, .slice none 0 0, .slice none 0 0] T.a)).heap.size = w.heap.size + 1 := ig _ _
 generalize w.alloc (.cells #[.int .i64 0, .int .u64 0, .int .u64 0, .int .u64 0, .int .u64 0, .int .u64 0, .int .i64 0, .bool false, .slice none 0 0, .slice none 0 0, .slice none 0 0] T.a) = w1 at *
 have S1 := acs S0 #[.int .u64 0, .slice none 0 0] T.v
 rw [z0] at S1
 generalize w.heap.size = pb at *
 generalize pb + 1 = ob at *
 refine iu (vs := [Value.int .u64 tr, .slice a l.length c]) S1.blk rfl (by simp [jf]) fun w2 b2 f2 => ?_
 have S2 := S1.kh f2 b2
 have thC : ∀ {W : World} {R : List Asn}, St w W (fq ob [Value.int .u64 tr, .slice a l.length c].toArray T.v :: R) → fi W ob 0 = some (.int .u64 tr) ∧ fi W ob 1 = some (.slice a l.length c) := fun {W R} S' => by
  have hh := S'.blk
  exact ⟨by rw [fm hh]; rfl, by rw [fm hh]; rfl⟩
 have hpl : pb < w2.heap.size := (Array.getElem?_eq_some_iff.1 S2.swap.blk).1
 have fd : Fr (fun _ => False) w2 (dr w2 1) := (Fr.refl _ w2).dr 1
 have Sd := S2.iq fd
 obtain ⟨c0, c1⟩ := thC S2
 obtain ⟨e0, e1⟩ := thC Sd
 simp [c0, c1, e0, e1]
 rw [← hv]
 refine alz ((hs.fr Sd.fr fun _ _ _ h => h)) hlen fun w3 v3 s3 n3 f3 => ?_
 obtain ⟨a3, c3, hv3, _⟩ := id s3
 have S3 := Sd.iq f3
 obtain ⟨g0, g1⟩ := thC S3
 have hnn : ∀ b, v3.ownBlock = some b → b ≠ pb := fun b hb => by
  have := n3 b hb
  have := fd.size
  omega
 rw [hv3] at s3 hnn ⊢
 simp [g0, g1]
 refine iu (vs := pkC ⟨10, tr, gy, gy, 0, false, ir, ir, .slice a3 l.length c3⟩) S3.swap.blk rfl so fun w4 b4 f4 => ?_
 have S4 := S3.swap.kh f4 b4
 have s4 : SlU w4 (.slice a3 l.length c3) l := s3.fr f4 fun b hb _ => hnn b hb
 rw [ww S4]
 have e : pkA ⟨10, tr, gy, gy, 0, false, ir, ir, .slice a3 l.length c3⟩ = .agg #[.int .i64 10, .int .u64 tr, .int .u64 0, .int .u64 0, .int .u64 0, .int .u64 0, .int .i64 0, .bool false, .slice none 0 0, .slice none 0 0, .slice a3 l.length c3] := rfl
 rw [e]
 simp
 refine iu (vs := pkC ⟨10, tr, gy, gy, 0, false, ir, ir, .slice a3 l.length c3⟩) S4.blk rfl so fun w5 b5 f5 => ?_
 have S5 := S4.kh f5 b5
 rw [aax S5]
 exact ⟨rfl, h w5 _ (s4.fr f5 fun b hb _ => hnn b hb) S5.fr⟩
def qk (p : Pk) (ls : List Spn) (lm : List Mem) (lu : List Int) : Bool :=
 if p.fu = 1 ∨ p.fu = 2 then aez p.tr ls else if p.fu = 3 then aeq lm else if p.fu = 4 ∨ p.fu = 6 then aoy p.tr p.b p.v else if p.fu = 5 ∨ p.fu = 7 then afd p.tr p.b p.ok p.ic p.v (decide (p.fu = 7)) else if p.fu = 8 then amu p.tr p.v else if p.fu = 9 then agq p.tr p.b ls else if p.fu = 10 then ajk p.tr lu else false
theorem ThR.fr {w w' : World} {p : Pk} {ls : List Spn} {lm : List Mem} {lu : List Int} {t : Value} (h : ThR w p ls lm lu t) (hf : Fr (fun _ => False) w w') : ThR w' p ls lm lu t := by
 cases h with
 | qt v hk hs => exact .qt v hk (hs.fr hf fun _ _ _ h => h)
 | afn v hk hs => exact .afn v hk (hs.fr hf fun _ _ _ h => h)
 | ask hk => exact .ask hk
 | xc hk => exact .xc hk
 | qa hk => exact .qa hk
 | uh v hk hs => exact .uh v hk (hs.fr hf fun _ _ _ h => h)
 | xn v hk hs => exact .xn v hk (hs.fr hf fun _ _ _ h => h)
 | none hk => exact .none hk
theorem bcg (n : Nat) (w : World) (K : KV) : en P .eql T.an (.tmp n) (.const .nilIface) .nilIface .nilIface w K = K (.bool true) w := .trans (by kernel_rfl) rfl
theorem ThR.eqn {w : World} {p : Pk} {ls : List Spn} {lm : List Mem} {lu : List Int} {t : Value} (h : ThR w p ls lm lu t) (hk : 1 ≤ p.fu ∧ p.fu ≤ 10) (rx ry : Operand) (w1 : World) (K : KV) : en P .eql T.an rx ry t .nilIface w1 K = K (.bool false) w1 := by
 cases h with
 | qt v hk hs => exact aup _ _ _ _ _
 | afn v hk hs => exact aqp _ _ _ _ _
 | ask hk => exact bdg _ _ _ _ _
 | xc hk => exact awl _ _ _ _ _
 | qa hk => exact axs _ _ _ _ _
 | uh v hk hs => exact aty _ _ _ _ _
 | xn v hk hs => exact auv _ _ _ _ _
 | none hn => exact absurd hk hn
theorem ThR.bfy {w : World} {p : Pk} {ls : List Spn} {lm : List Mem} {lu : List Int} {t : Value} (h : ThR w p ls lm lu t) (hk : ¬ (1 ≤ p.fu ∧ p.fu ≤ 10)) : t = .nilIface := by
 cases h with
 | none hn => rfl
 | _ => omega
theorem bbk {w : World} {p : Pk} {ls : List Spn} {lm : List Mem} {lu : List Int} {t : Value} (ht : ThR w p ls lm lu t) (hk : 1 ≤ p.fu ∧ p.fu ≤ 10) (l1 : ls.length ≤ 1000000) (l2 : lm.length ≤ 1000000) (l3 : lu.length ≤ 1000000) {K : KV}
  (h : ∀ w', Fr (fun _ => False) w w' → K (.bool (qk p ls lm lu)) w') : ey P F.ai [t] w K := by
 unfold qk at h
 cases ht with
 | qt v q hs => simp only [if_pos q] at h; exact aml hs l1 h
 | afn v q hs => simp only [q, show ¬ ((3 : Int) = 1 ∨ (3 : Int) = 2) by omega, if_false, if_true] at h; exact awo hs l2 h
 | ask q => rw [if_neg (by omega), if_neg (by omega), if_pos q] at h; exact aqn h
 | xc q => rw [if_neg (by omega), if_neg (by omega), if_neg (by omega), if_pos q] at h; exact amj h
 | qa q => rw [if_neg (by omega), if_neg (by omega), if_neg (by omega), if_neg (by omega), if_pos q] at h; exact aqf h
 | uh v q hs => rw [if_neg (by omega), if_neg (by omega), if_neg (by omega), if_neg (by omega), if_neg (by omega), if_pos q] at h; exact ala hs l1 h
 | xn v q hs => rw [if_neg (by omega), if_neg (by omega), if_neg (by omega), if_neg (by omega), if_neg (by omega), if_neg (by omega), if_pos q] at h; exact amk hs l3 h
 | none q => exact absurd hk q
structure vn (p : Pk) : Prop where
 tr : aah p.tr
 b : p.b.rng
 ic : p.ic.rng
theorem wfP {x : Int} (h : (Lit.int .u64 x).wf = true) : 0 ≤ x ∧ x ≤ 18446744073709551615 := by
 simp [Lit.wf, IntKind.min, IntKind.max, IntKind.bits, IntKind.signed] at h
 omega
theorem ben {x : Int} (h : (Lit.int .u64 x).wf = true) : aah x := by
 have := wfP h
 exact ⟨this.1, by omega⟩
theorem bbv {α : Type} {w : World} {sz : Nat} {enc : α → List Value} {Q : α → Prop} {v : Value} {l : List α} (h : zf w sz (fun w b o x => rdE enc w b o x ∧ Q x) v l) : Sl w sz enc v l ∧ ∀ x ∈ l, Q x := by
 refine ⟨zf.mono h fun b o x hx => hx.1, fun x hx => ?_⟩
 obtain ⟨i, hi, rfl⟩ := List.getElem_of_mem hx
 obtain ⟨a, cap, _, _, _, h3⟩ := h
 obtain ⟨b, o, _, _, hr⟩ := h3 i _ (List.getElem?_eq_getElem hi)
 exact hr.2
open Go.Eng Go.Proofs.YtfnhoaemapheoaaGreat.Sint
abbrev PB := SV × List Int
section
variable {w0 w w' : World} {R : List Asn} {v : Value} {l : List PB} {ls : List (List Int)}
end
set_option maxRecDepth 100000
open Go.Eng Go.Proofs.YtfnhoaemapheoaaGreat.Sint
section
variable {s f : Int} {Q Q0 : List Prt} {q : Prt} {F : Nat} {D : Dk} {w : Prop} {fa lo : List Int} {L : Lg} {b l : List Int}
theorem api : ∀ ds : List (List Int), 8 * ds.length ≤ (cat ds).length
 | [] => by simp
 | d :: ds => by
  have := api ds
  have e : cat (d :: ds) = gt d ++ cat ds := by simp [cat]
  rw [e, List.length_append, lb]; simp; omega
theorem apf : ∀ Q0 : List Prt, 8 * (ge Q0).length ≤ ((Q0.map jq).map Fil.len).sum
 | [] => by simp [ge]
 | q :: Q0 => by
  have h1 := apf Q0
  have h2 := api q.ft
  have e : ge (q :: Q0) = q.ft ++ ge Q0 := by unfold ge; simp
  have e2 : (jq q).len = (kw q.first).length + (cat q.ft).length := by unfold jq Fil.len body; simp
  rw [e, List.map_cons, List.map_cons, List.sum_cons, List.length_append, e2]
  omega
theorem atd : ∀ Q0 : List Prt, ∀ q ∈ Q0, (body q).length ≤ ((Q0.map jq).map Fil.len).sum := fun Q0 q hq => by
 have : (jq q).len ≤ ((Q0.map jq).map Fil.len).sum := adm (List.mem_map_of_mem (List.mem_map_of_mem hq))
 have e2 : (jq q).len = (body q).length := by unfold jq Fil.len; simp
 omega
theorem alq (h : oh s f L F D) : (∀ q ∈ L.fl, (body q).length ≤ D.gk) ∧ 8 * (ge L.fl).length ≤ D.gk := by
 rcases h.vir.dsc with ⟨hq, _⟩ | ⟨Q0, q, fa, lo, m, hq, hf, _, hw, _⟩
 ·rw [hq]; exact ⟨fun q h => by simp at h, by simp [ge]⟩
 ·have hb : fa.length + lo.length = (body q).length := by rw [← hw trivial, List.length_append]
  have hc : (body q).length = (kw q.first).length + (cat q.ft).length := by unfold body; rw [List.length_append]
  have hcg := api q.ft
  have hu : D.gk = ((Q0.map jq).map Fil.len).sum + (body q).length := by
   unfold Dk.gk
   rw [hf, List.map_append, List.sum_append]
   simp [Fil.len]; omega
  refine ⟨fun x hx => ?_, ?_⟩
  ·rw [hq] at hx
   rcases List.mem_append.1 hx with hx | hx
   ·have := atd Q0 x hx; omega
   ·rw [List.mem_singleton.1 hx]; omega
  ·have := apf Q0
   rw [hq, kq, qn, List.length_append]
   omega
theorem aqh : ∀ {Q : List Prt} {s f : Int}, Chn s f Q → ∀ q ∈ Q, ∀ d ∈ q.ft, d.length ≤ 8192
 | q :: r, s, f, h, x, hx, d, hd => by
  rcases List.mem_cons.1 hx with rfl | hx
  ·exact h.2.2.1 d hd
  ·exact aqh h.2.2.2 x hx d hd
theorem bdj : ∀ {Q : List Prt}, ∀ q ∈ Q, q.ft.length ≤ (ge Q).length := fun {Q} q hq => by
 obtain ⟨a, c, rfl⟩ := List.append_of_mem hq
 unfold ge; simp; omega
end
section
variable {w0 w : World} {R : List Asn} {p hb : Nat} {L : Lg} {D : Dk} {s f : Int} {G : Nat}
theorem alp (S : St w0 w (fy hb D :: R)) : D.gq ≤ 1048576 ∧ (D.gk : Int) ≤ D.gq := by
 obtain ⟨r, m, es, hk, _⟩ := xk S
 exact ⟨hk.gq, hk.gk⟩
theorem aoc (S : St w0 w (fy hb D :: R)) (h : oh s f L G D) : (ge L.fl).length ≤ 131072 := by
 have h1 := alp S
 have h2 := (alq h).2
 omega
theorem bdn (S : St w0 w (fy hb D :: R)) (h : oh s f L G D) : LgB L := by
 have h1 := alp S
 have h2 := alq h
 refine ⟨by have := h.vir.len; omega, aro h.vir.s0 h.vir.chn, fun q hq => ?_, fun q hq => ?_⟩
 ·have := bdj q hq; omega
 ·have := h.size q hq
  have := h2.1 q hq
  omega
theorem ban (S : St w0 w (kr p hb L :: fy hb D :: R)) (h : oh s f L G D) {K : KV} (hK : ∀ w' v', St w0 w' (jk v' (ge L.fl) :: kr p hb L :: fy hb D :: R) → K v' w') : ey P F.cc [iz p] w K := by
 have h1 := aoc S.swap h
 exact bbu S (by have := h.vir.len; omega) (by unfold Lg.all; unfold ge at h1; omega) (fun q hq d hd => by have := aqh h.vir.chn q hq d hd; omega) hK
end
set_option maxRecDepth 100000
open Go.Eng Go.Proofs.YtfnhoaemapheoaaGreat.Sint
def yz (ds : List (List Int)) : Prop := ∀ d ∈ ds, ∃ p, okE p ∧ d = ly p.1 p.2
def wx (ds : List (List Int)) (F : Nat) (m : jc) : Prop := ∀ j, F ≤ j → lr (ds.take j) = m
theorem afz (ds : List (List Int)) : wx ds ds.length (lr ds) := fun j hj => by rw [List.take_of_length_le hj]
theorem ahb {ds : List (List Int)} {F : Nat} {m : jc} (h : wx ds F m) (hF : F ≤ ds.length) : lr ds = m := by
 have := h ds.length hF
 rwa [List.take_length] at this
theorem aac {ds : List (List Int)} {F j : Nat} {m : jc} (h : wx ds F m) (hl : F ≤ (ds.take j).length) : lr (ds.take j) = m := h j (by rw [List.length_take] at hl; omega)
theorem aqi {ds : List (List Int)} {F j : Nat} {m : jc} {p : Int × Rg} (h : wx ds F m) (hF : F ≤ ds.length) (hp : okE p) (hl : F ≤ ((ds ++ [ly p.1 p.2]).take j).length) : lr ((ds ++ [ly p.1 p.2]).take j) = m ∨ lr ((ds ++ [ly p.1 p.2]).take j) = oe m p.1 p.2 := by
 by_cases hj : j ≤ ds.length
 ·rw [List.take_append_of_le_length hj] at hl ⊢
  exact .inl (aac h hl)
 ·rw [List.take_of_length_le (by simp; omega), afr hp.1 hp.2.1 hp.2.2.1 hp.2.2.2, ahb h hF]
  exact .inr rfl
theorem avp {ds : List (List Int)} (h : yz ds) (j : Nat) : yz (ds.take j) := fun d hd => h d (List.mem_of_mem_take hd)
theorem arq : ∀ (ds : List (List Int)) {l : jc}, yz ds → (∀ p ∈ l, okE p) → ∀ p ∈ ds.foldl zu l, okE p
 | [], _, _, hl, p, hp => hl p hp
 | d :: r, l, h, hl, p, hp => by
  rw [List.foldl_cons] at hp
  refine arq r (fun x hx => h x (List.mem_cons_of_mem _ hx)) (fun x hx => ?_) p hp
  obtain ⟨q, hq, rfl⟩ := h d (by simp)
  unfold zu at hx
  rw [adk hq.1 hq.2.1 hq.2.2.1 hq.2.2.2] at hx
  rcases arx x hx with rfl | hx
  ·exact hq
  ·exact hl x hx
theorem bct {ds : List (List Int)} (h : yz ds) : ∀ p ∈ lr ds, okE p := arq ds h fun p hp => by simp at hp
def px : Lg → Dk → List (List Int) → (Lg × Dk) × Int
 | L, D, [] => ((L, D), 0)
 | L, D, b :: r => if (L.append D b).2 = 0 then px (L.append D b).1.1 (L.append D b).1.2 r else L.append D b
inductive Wr (s f : Int) (L : Lg) (F : Nat) (D : Dk) (ft : List (List Int)) : (Lg × Dk) × Int → Prop
 | ok (L' : Lg) (D' : Dk) : oh s f L' F D' → ge L'.fl = ge L.fl ++ ft → L'.gg = L.gg → D'.gq = D.gq → (D.ie = false → D'.ie = false) → Wr s f L F D ft ((L', D'), 0)
 | sw (i : Nat) (L' : Lg) (D' : Dk) : i < ft.length → oh s f L' F D' → ge L'.fl = ge L.fl ++ ft.take i → L'.gg = L.gg → D'.gq = D.gq → (D.ie = false → D'.ie = false) → Wr s f L F D ft ((L', D'), 9)
 | gh (i j : Nat) (L' : Lg) (D0 D' : Dk) (Q : List Prt) : D.ie = true → oh s f L' F D0 → ge L'.fl = ge L.fl ++ ft.take j → L'.gg = L.gg → D'.gh = true → Vir s f Q F D' False → ge Q = ge L.fl ++ ft.take i → D'.gq = D.gq → Wr s f L F D ft ((L', D'), 10)
theorem bee {s f : Int} {F : Nat} : ∀ (ft : List (List Int)) {L : Lg} {D : Dk}, oh s f L F D → (∀ b ∈ ft, b.length ≤ 8192) → f + (ge L.fl).length + ft.length ≤ 1000000000000 → Wr s f L F D ft (px L D ft)
 | [], L, D, h, _, _ => .ok L D h (by simp) rfl rfl id
 | b :: r, L, D, h, hl, hn => by
  have ha := ayl (b := b) h (by simp at hn; omega)
  rw [px]
  have hb := hl b (by simp)
  generalize L.append D b = x at ha ⊢
  cases ha with
  | ajc hx => omega
  | sw D' hx g e1 e2 =>
   rw [if_neg (by simp)]
   exact .sw 0 L D' (by simp) g (by simp) rfl e1 (fun h => by rw [e2]; exact h)
  | gh D' Q e1 e2 e3 e4 e5 =>
   rw [if_neg (by simp)]
   exact .gh 1 0 L D D' Q e1 h (by simp) rfl e2 e3 (by simpa using e4) e5
  | ok L' D' g e1 e2 e3 e4 e5 e6 e7 e8 =>
   rw [if_pos rfl]
   have hr := bee r g (fun x hx => hl x (List.mem_cons_of_mem _ hx)) (by rw [e1]; simp at hn ⊢; omega)
   simp only
   generalize px L' D' r = y at hr ⊢
   cases hr with
   | ok L2 D2 g2 a1 a2 a3 a4 => exact .ok L2 D2 g2 (by rw [a1, e1]; simp) (by rw [a2, e4]) (by rw [a3, e5]) (fun h => a4 (e6 h))
   | sw i L2 D2 hi g2 a1 a2 a3 a4 => exact .sw (i + 1) L2 D2 (by simp; omega) g2 (by rw [a1, e1]; simp) (by rw [a2, e4]) (by rw [a3, e5]) (fun h => a4 (e6 h))
   | gh i j L2 D0 D2 Q b1 b2 b3 b4 b5 b6 b7 b8 =>
    have harm : D.ie = true := by
     cases ha : D.ie with
     | true => rfl
     | false => rw [e6 ha] at b1; exact absurd b1 (by decide)
    exact .gh (i + 1) (j + 1) L2 D0 D2 Q harm b2 (by rw [b3, e1]; simp) (by rw [b4, e4]) b5 b6 (by rw [b7, e1]; simp) (by rw [b8, e5])
def jb (m : jc) (ji : Bool) (tr : Int) (b : Bal) (v : Int) : Rg × Bool := if ji = true then (kz m tr).acc b v else (kz m tr).nl b
def sy (m : jc) (ji : Bool) (tr : Int) (b : Bal) (v : Int) : jc := if (jb m ji tr b v).2 = true then oe m tr (jb m ji tr b v).1 else m
theorem avu {m : jc} {k : Int} {r : Rg} (ha : Asc m) (h : lk m k = some r) : oe m k r = m := arw (arh ha k r) ha fun k' => by
 rw [aqa ha]
 split
 ·rename_i he; subst he; exact h.symm
 ·rfl
theorem bbz {r : Rg} {b : Bal} (h : (r.nl b).2 = false) : (r.nl b).1 = r := by
 unfold Rg.nl at h ⊢
 split at h
 ·cases h
 ·rename_i hs; rw [if_neg hs]
theorem ber {r : Rg} {b : Bal} {v : Int} (h : (r.acc b v).2 = false) : (r.acc b v).1 = r := by
 unfold Rg.acc at h ⊢
 split at h
 ·cases h
 ·rename_i hs; rw [if_neg hs]
theorem ajn {r : Rg} {b : Bal} (h : r.pu b = true) : 0 < b.n := by
 unfold Rg.pu at h
 simp at h
 exact h.1
theorem aih {r : Rg} {b : Bal} (h : (r.nl b).2 = true) : (r.nl b).1 = ⟨b, r.t, r.v⟩ ∧ 0 < b.n := by
 unfold Rg.nl at h ⊢
 split at h
 ·rename_i hs; rw [if_pos hs]; exact ⟨rfl, ajn hs⟩
 ·cases h
theorem akt {r : Rg} {b : Bal} {v : Int} (h : (r.acc b v).2 = true) : (r.acc b v).1 = ⟨b, b, v⟩ ∧ 0 < b.n ∧ mu v = true := by
 unfold Rg.acc at h ⊢
 split at h
 ·rename_i hs; rw [if_pos hs]; exact ⟨rfl, ajn hs.1, hs.2.1⟩
 ·cases h
theorem aeb {m : jc} {ji : Bool} {tr v : Int} {b : Bal} (h : (jb m ji tr b v).2 = false) : (jb m ji tr b v).1 = kz m tr := by
 unfold jb at h ⊢
 cases ji with
 | true => simp only [if_true] at h ⊢; exact ber h
 | false => simp only [Bool.false_eq_true, if_false] at h ⊢; exact bbz h
theorem alh {m : jc} {ji : Bool} {tr v : Int} {b : Bal} (h : (jb m ji tr b v).2 = true) : (jb m ji tr b v).1.p = b ∧ 0 < b.n := by
 unfold jb at h ⊢
 cases ji with
 | true => simp only [if_true] at h ⊢; rw [(akt h).1]; exact ⟨rfl, (akt h).2.1⟩
 | false => simp only [Bool.false_eq_true, if_false] at h ⊢; rw [(aih h).1]; exact ⟨rfl, (aih h).2⟩
theorem adt {m : jc} {ji : Bool} {tr v : Int} {b : Bal} (ha : Asc m) : sy m ji tr b v = if (jb m ji tr b v).1 = kz m tr then m else oe m tr (jb m ji tr b v).1 := by
 unfold sy
 cases ho : (jb m ji tr b v).2 with
 | false => simp [aeb ho]
 | true =>
  obtain ⟨h1, h2⟩ := alh ho
  simp only [if_true]
  by_cases he : (jb m ji tr b v).1 = kz m tr
  ·rw [if_pos he]
   refine avu ha ?_
   cases hl : lk m tr with
   | some r => rw [he]; unfold kz; rw [hl]; rfl
   | none =>
    have hz : kz m tr = rg0 := by unfold kz; rw [hl]; rfl
    rw [he, hz] at h1
    rw [← h1] at h2
    exact absurd h2 (by decide)
  ·rw [if_neg he]
theorem bcx {m : jc} (ho : ∀ p ∈ m, okE p) (k : Int) : (kz m k).right = true ∧ (kz m k).rng := by
 unfold kz
 cases hl : lk m k with
 | none => exact ⟨rfl, by simp [rg0, Rg.rng, Bal.rng, gy, aah]⟩
 | some r =>
  unfold lk at hl
  obtain ⟨p, hp, rfl⟩ := Option.map_eq_some_iff.1 hl
  have := ho p (List.mem_of_find?_eq_some hp)
  exact ⟨this.2.2.2, this.2.2.1⟩
theorem aie {m : jc} {ji : Bool} {tr v : Int} {b : Bal} (ho : ∀ p ∈ m, okE p) (ht : aah tr) (ht0 : 0 < tr) (hb : b.rng) : okE (tr, (jb m ji tr b v).1) := by
 obtain ⟨h1, h2⟩ := bcx ho tr
 refine ⟨ht, ht0, ?_, ?_⟩
 ·cases hk : (jb m ji tr b v).2 with
  | false => simp only [aeb hk]; exact h2
  | true =>
   unfold jb at hk ⊢
   cases ji with
   | true => simp only [if_true] at hk ⊢; rw [(akt hk).1]; exact ⟨hb, hb⟩
   | false => simp only [Bool.false_eq_true, if_false] at hk ⊢; rw [(aih hk).1]; exact ⟨hb, h2.2⟩
 ·cases hk : (jb m ji tr b v).2 with
  | false => simp only [aeb hk]; exact h1
  | true =>
   have hn := (alh hk).2
   unfold jb at hk ⊢
   cases ji with
   | true => simp only [if_true] at hk ⊢; exact (awh h1 (by omega)).1
   | false => simp only [Bool.false_eq_true, if_false] at hk ⊢; exact (atq h1).1
open Go.Eng
def atk (r : Rg) : List Value := [.int .u64 r.p.n, .int .u64 r.p.fo, .int .u64 r.t.n, .int .u64 r.t.fo, .int .i64 r.v]
def li (r : Rg) : Value := .agg #[.int .u64 r.p.n, .int .u64 r.p.fo, .int .u64 r.t.n, .int .u64 r.t.fo, .int .i64 r.v]
theorem auq (r : Rg) : ∀ u ∈ atk r, jf u = true := fun u hu => by
 simp only [atk, List.mem_cons, List.not_mem_nil, or_false] at hu
 rcases hu with rfl | rfl | rfl | rfl | rfl <;> rfl
theorem bfl {t : TypeId} {fs : Array Field} {i : TypeInfo} (hu : P.underlying t = some (.struct fs)) (hi : P.info? t = some i) (xs : Array Value) (o : Nat) (w : World) : (part t xs o).run P w = .ok (.agg (xs.extract o (o + i.size))) w := by
 have ha : (isAgg t).run P w = .ok true w := by
  unfold isAgg
  rw [Sem.run_bind, ib hu]
  rfl
 unfold part
 rw [Sem.run_bind, ha]
 simp only [Result.andThen, if_true, Sem.run_bind, wy hi, Sem.run_pure]
theorem bem {d : Nat} {xs ys : Array Value} {f : Field} {fs : List Field} {w : World} {b c : Bool} {ff : Array Field} {i : TypeInfo} (hn : f.name ≠ "_") (hu : P.underlying f.type = some (.struct ff)) (hi : P.info? f.type = some i)
  (he : (Op.equalIn d f.type (.agg (xs.extract f.offset (f.offset + i.size))) (.agg (ys.extract f.offset (f.offset + i.size)))).run P w = .ok b w) (hr : (Op.eqFields d xs ys fs).run P w = .ok c w) : (Op.eqFields d xs ys (f :: fs)).run P w = .ok (b && c) w := by
 simp only [Op.eqFields]
 rw [if_pos hn]
 simp only [Sem.run_bind, bfl hu hi, he, Result.andThen]
 cases b
 ·rfl
 ·simpa using hr
theorem ajt (d : Nat) (x y : Bal) (w : World) : (Op.equalIn (d + 2) T.c (jm x) (jm y)).run P w = .ok (decide (x = y)) w := by
 have hS : P.underlying T.c = some (.struct (P.fieldsOf T.c)) := by kernel_rfl
 have hp : P.stoodInHeld T.c = false := by kernel_rfl
 rw [← asp]
 unfold jm
 rw [run_equalIn_agg w (d + 1) T.c _ _ hS hp]
 simp only [Program.fieldsOf, show P.underlying T.c = _ from Tryz.underlying40]
 have u22 : P.underlying T.e = some (.int .u64) := by kernel_rfl
 have a22 : za P T.e = false := by kernel_rfl
 refine eqF (by decide) a22 rfl rfl (run_equalIn_int w d T.e _ _ _ _ u22) ?_
 have := eqF (fs := []) (d := d + 1) (xs := #[.int .u64 x.n, .int .u64 x.fo]) (ys := #[.int .u64 y.n, .int .u64 y.fo]) (f := { name := "Node", type := T.e, offset := 1, embedded := false, tag := "", pkgPath := "", byteOffset := 8 }) (w := w) (c := true) (by decide) a22 rfl rfl (run_equalIn_int w d T.e _ _ _ _ u22) rfl
 simpa using this
def aud : Array Field := #[{ name := "Promised", type := T.c, offset := 0, embedded := false, tag := "", pkgPath := "", byteOffset := 0 }, { name := "Taken", type := T.c, offset := 2, embedded := false, tag := "", pkgPath := "", byteOffset := 16 }, { name := "V", type := T.l, offset := 4, embedded := false, tag := "", pkgPath := "", byteOffset := 32 }]
theorem bgp (x y : Rg) : (decide (x.p = y.p) && (decide (x.t = y.t) && (x.v == y.v))) = decide (x = y) := by
 obtain ⟨a, b, c⟩ := x
 obtain ⟨a', b', c'⟩ := y
 simp only [Rg.mk.injEq]
 by_cases h1 : a = a' <;> by_cases h2 : b = b' <;> by_cases h3 : c = c' <;> simp [h1, h2, h3]
theorem avy {t : TypeId} (hu : P.underlying t = some (.struct aud)) (hp : P.stoodInHeld t = false) (d : Nat) (x y : Rg) (w : World) : (Op.equalIn (d + 3) t (li x) (li y)).run P w = .ok (decide (x = y)) w := by
 have hF : P.fieldsOf t = aud := by simp only [Program.fieldsOf, hu]
 have hS : P.underlying t = some (.struct (P.fieldsOf t)) := by rw [hF]; exact hu
 obtain ⟨bi, hbi, hsz⟩ : ∃ i, P.info? T.c = some i ∧ i.size = 2 := by
  have : (P.info? T.c).map (·.size) = some 2 := by kernel_rfl
  exact Option.map_eq_some_iff.1 this
 have bu := Tryz.underlying40
 have vu : P.underlying T.l = some (.int .i64) := by kernel_rfl
 have va : za P T.l = false := by kernel_rfl
 rw [← bgp]
 unfold li
 rw [run_equalIn_agg w (d + 2) t _ _ hS hp, hF]
 unfold aud
 refine bem (by decide) bu hbi ?_ (bem (by decide) bu hbi ?_ ?_)
 ·rw [hsz]; exact ajt d x.p y.p w
 ·rw [hsz]; exact ajt d x.t y.t w
 ·have := eqF (fs := []) (d := d + 2) (xs := #[.int .u64 x.p.n, .int .u64 x.p.fo, .int .u64 x.t.n, .int .u64 x.t.fo, .int .i64 x.v]) (ys := #[.int .u64 y.p.n, .int .u64 y.p.fo, .int .u64 y.t.n, .int .u64 y.t.fo, .int .i64 y.v]) (f := { name := "V", type := T.l, offset := 4, embedded := false, tag := "", pkgPath := "", byteOffset := 32 }) (w := w) (c := true) (by decide) va rfl rfl (run_equalIn_int w (d + 1) T.l _ _ _ _ vu) rfl
  simpa using this
theorem bfd (rx ry : Operand) (x y : Rg) (w : World) (K : KV) : en P .neq T.f rx ry (li x) (li y) w K = K (.bool !(decide (x = y))) w := by
 have hm : P.eqGuardType P.depth T.f = false := by kernel_rfl
 have hg := run_eqGuard_agg (P := P) w .neq T.f rx ry #[.int .u64 x.p.n, .int .u64 x.p.fo, .int .u64 x.t.n, .int .u64 x.t.fo, .int .i64 x.v] #[.int .u64 y.p.n, .int .u64 y.p.fo, .int .u64 y.t.n, .int .u64 y.t.fo, .int .i64 y.v] hm
 have he := avy (t := T.f) (by kernel_rfl) (by kernel_rfl) 9997 x y w
 unfold en ia
 unfold li at he ⊢
 rw [Sem.run_bind, hg]
 simp only [Result.andThen]
 rw [run_neq_struct, he]
 rfl
def wj (a b : Int) : Int := if a < b then -1 else if b < a then 1 else 0
theorem ahf {w : World} (a b : Int) {K : KV} (h : K (.int .i64 (wj a b)) w) : ey P F.bt [.int .u64 a, .int .u64 b] w K := by
 have nan : ∀ (z : Int) {K : KV}, K (.bool false) w → ey P F.av [.int .u64 z] w K := fun z K hK => by
  rw [M.cd.fcall]
  apply M.cd.calls
  unfold M.cd
  simpa using hK
 rw [M.bo.fcall]
 apply M.bo.calls
 unfold M.bo
 refine nan a ?_
 refine nan b ?_
 simp
 unfold M.bo.j2
 unfold wj at h
 by_cases h1 : a < b
 ·simp [h1] at h ⊢; exact h
 ·by_cases h2 : b < a
  ·simp [h1, h2] at h ⊢; exact h
  ·simp [h1, h2] at h ⊢; exact h
theorem bdu {w : World} {v : Value} {l : List Int} (hs : Sl w 1 aaj v l) (hlen : l.length ≤ 1000) {K : KV} (h : K (.int .i64 (orK l)) w) : ij P F.dv [v] w K := by
 apply M.dh.calls
 unfold M.dh
 simp only [fh]
 rw [hs.ii (by simp)]
 refine ⟨OrI w l, fun x _ => l.length - ms x 2, ⟨_, _, 0, rfl, rfl, Nat.zero_le _, fun j k _ h => by omega⟩, ?_⟩
 rintro x w1 ⟨a, b, i, rfl, rfl, hi, hz⟩
 have gv2 : gv [a, b, .int .i64 (i : Int)] 2 = .int .i64 (i : Int) := rfl
 simp only [gv2]
 by_cases hil : i < l.length
 ·obtain ⟨bb, o, cap, rfl, hb, _, hr⟩ := hs.at hil
  have e0 := hr 0 _ rfl
  simp only [Nat.mul_one, Nat.add_zero] at e0
  have hw : IntKind.i64.wrap ((i : Int) + 1) = ((i + 1 : Nat) : Int) := by rw [fj (by omega) (by omega)]; rfl
  simp [hil]
  unfold M.dh.j2
  simp only [fh, gv2]
  by_cases hk : l[i] = 0
  ·simp [hil, e0, hk, hw]
   refine ⟨⟨_, _, i + 1, rfl, rfl, by omega, fun j k hj hlt => ?_⟩, by simp [ms, gv]; omega⟩
   by_cases hji : j = i
   ·subst hji
    rw [List.getElem?_eq_getElem hil] at hj
    cases hj; exact hk
   ·exact hz j k hj (by omega)
  ·simp [hil, e0, hk]
   have : orK l = l[i] := by
    unfold orK
    have : l.find? (fun k => !decide (k = 0)) = some l[i] := by
     rw [List.find?_eq_some_iff_getElem]
     refine ⟨by simpa using hk, i, hil, rfl, fun j hj => ?_⟩
     have := hz j _ (List.getElem?_eq_getElem (by omega)) hj
     simp [this]
    rw [this]; rfl
   rw [this] at h; exact h
 ·simp [hil]
  have : orK l = 0 := by
   unfold orK
   have : l.find? (fun k => !decide (k = 0)) = none := by
    rw [List.find?_eq_none]
    intro k hk
    obtain ⟨j, hj, rfl⟩ := List.mem_iff_getElem.1 hk
    have := hz j _ (List.getElem?_eq_getElem hj) (by omega)
    simp [this]
   rw [this]; rfl
  rw [this] at h; exact h
theorem or2 (a b : Int) : orK [a, b] = if a = 0 then b else a := by
 unfold orK
 by_cases ha : a = 0 <;> by_cases hb : b = 0 <;> simp [ha, hb]
theorem aym {a b : Bal} : decide ((orK [wj a.n b.n, wj a.fo b.fo]) < 0) = a.mo b := by
 rw [or2]
 unfold wj Bal.mo
 apply decide_eq_decide.2
 repeat' split
 all_goals omega
theorem wt {w : World} {b : Nat} {x : Bal} {f : Nat × Nat} (h : w.heap[b]? = some (.cells #[.int .u64 x.n, .int .u64 x.fo] T.c f)) : fi w b 0 = some (.int .u64 x.n) ∧ fi w b 1 = some (.int .u64 x.fo) ∧ ∀ K, ldN P 2 b 0 w K = K (jm x) w :=
 ⟨by rw [fm h]; rfl, by rw [fm h]; rfl, fun K => aby (by rw [fm h]; rfl) (by rw [fm h]; rfl) K⟩
theorem bac (x y : Bal) {w : World} {Q : Value → Value → World → Prop} (h : ∀ w1 b1 b2, St w w1 (fq b2 #[.int .u64 y.n, .int .u64 y.fo] T.c :: fq b1 #[.int .u64 x.n, .int .u64 x.fo] T.c :: []) → Q (iz b1) (iz b2) w1) :
  kt P T.c (jm x) w fun v1 w1 => kt P T.c (jm y) w1 fun v2 w2 => Q v1 v2 w2 := by
 rw [xm, xm]
 exact h _ _ _ (acr (acr (St.jy w) #[.int .u64 x.n, .int .u64 x.fo] T.c) #[.int .u64 y.n, .int .u64 y.fo] T.c)
theorem awq {w : World} (x y : Bal) {K : KV} (h : ∀ w', Fr (fun _ => False) w w' → K (.int .i64 (orK [wj x.n y.n, wj x.fo y.fo])) w') : ey P F.dn [jm x, jm y] w K := by
 rw [M.du.fcall]
 apply M.du.calls
 unfold M.du
 refine bac x y fun w1 b1 b2 S1 => ?_
 have S2 := S1.iq ((Fr.refl _ w1).dr 1)
 obtain ⟨y0, y1, _⟩ := wt S2.blk
 obtain ⟨x0, x1, _⟩ := wt S2.swap.blk
 simp only [iz]
 rw [ol]
 simp only [qe] at x0 x1 y0 y1
 simp [x0, x1, y0, y1]
 refine ahf _ _ ?_
 simp [x1, y1]
 refine ahf _ _ ?_
 simp
 have S3 : St w ((dr w1 1).alloc (.cells #[.int .i64 (wj x.n y.n), .int .i64 (wj x.fo y.fo)] T.b)) _ := acr S2 #[.int .i64 (wj x.n y.n), .int .i64 (wj x.fo y.fo)] T.b
 have hsl : Sl ((dr w1 1).alloc (.cells #[.int .i64 (wj x.n y.n), .int .i64 (wj x.fo y.fo)] T.b)) 1 aaj (.slice (some ⟨w1.heap.size, 0, none⟩) 2 2) [wj x.n y.n, wj x.fo y.fo] := by
  have hh := S3.blk
  rw [show (dr w1 1).heap.size = w1.heap.size from rfl] at hh
  refine ⟨some ⟨w1.heap.size, 0, none⟩, 2, rfl, by simp, by simp [maxLen], fun i z hz => ⟨w1.heap.size, 0, rfl, oo hh, fun j u hj => ?_⟩⟩
  rw [fm hh]
  match i, j with
  | 0, 0 => simp [aaj] at hz hj ⊢; rw [hz]; exact hj
  | 1, 0 => simp [aaj] at hz hj ⊢; rw [hz]; exact hj
  | i + 2, _ => simp at hz
  | _, j + 1 => simp [aaj] at hj
 rw [M.dh.fcall]
 exact bdu hsl (by simp) (h _ S3.fr)
theorem ape {w : World} (x y : Bal) {K : KV} (h : ∀ w', Fr (fun _ => False) w w' → K (.bool (x.mo y)) w') : ey P F.di [jm x, jm y] w K := by
 rw [M.dy.fcall]
 apply M.dy.calls
 unfold M.dy
 refine bac x y fun w1 b1 b2 S1 => ?_
 obtain ⟨_, _, y2⟩ := wt S1.blk
 obtain ⟨_, _, x2⟩ := wt S1.swap.blk
 simp only [iz]
 simp [x2, y2]
 refine awq x y fun w2 f2 => ?_
 simp
 rw [aym]
 exact h w2 (S1.fr.trans f2)
theorem atj {w : World} (x y : Bal) {K : KV} (h : ∀ w', Fr (fun _ => False) w w' → K (.bool (x.mo y)) w') : ey P F.cr [jm x, jm y] w K := by
 rw [M.cw.fcall]
 apply M.cw.calls
 unfold M.cw
 refine bac x y fun w1 b1 b2 S1 => ?_
 obtain ⟨y0, y1, _⟩ := wt S1.blk
 obtain ⟨x0, x1, _⟩ := wt S1.swap.blk
 simp only [iz]
 have fin := h w1 S1.fr
 unfold Bal.mo at fin
 by_cases h1 : x.n < y.n
 ·simp [x0, x1, y0, y1, h1] at fin ⊢; exact fin
 ·by_cases h2 : x.n = y.n
  ·simp [x0, x1, y0, y1, h2] at fin ⊢; exact fin
  ·simp [x0, x1, y0, y1, h1, h2] at fin ⊢; exact fin
theorem zs (b : Nat) (w : World) (K : KV) : og P T.f (.pointer (some ⟨b, 0, none⟩)) w K = ldN P 5 b 0 w K := .trans (by kernel_rfl) rfl
section
variable {w0 w : World} {b : Nat} {t : TypeId} {R : List Asn}
def rgC (r : Rg) : Array Value := #[.int .u64 r.p.n, .int .u64 r.p.fo, .int .u64 r.t.n, .int .u64 r.t.fo, .int .i64 r.v]
theorem jn {r : Rg} (S : St w0 w (fq b (rgC r) t :: R)) : (∀ K, ldN P 2 b 0 w K = K (jm r.p) w) ∧ (∀ K, ldN P 2 b 2 w K = K (jm r.t) w) ∧ fi w b 4 = some (.int .i64 r.v) ∧ ∀ K, ldN P 5 b 0 w K = K (li r) w :=
 ⟨fun K => S.ldA [.int .u64 r.p.n, .int .u64 r.p.fo] rfl rfl K, fun K => S.ldA [.int .u64 r.t.n, .int .u64 r.t.fo] rfl rfl K, by rw [S.cell]; rfl, fun K => S.ldA (atk r) rfl rfl K⟩
theorem sj {x : Bal} (S : St w0 w (fq b #[.int .u64 x.n, .int .u64 x.fo] t :: R)) : fi w b 0 = some (.int .u64 x.n) ∧ fi w b 1 = some (.int .u64 x.fo) ∧ ∀ K, ldN P 2 b 0 w K = K (jm x) w :=
 ⟨by rw [S.cell]; rfl, by rw [S.cell]; rfl, fun K => S.ldA [.int .u64 x.n, .int .u64 x.fo] rfl rfl K⟩
theorem uf {r r' : Rg} (S : St w0 w (fq b (rgC r) t :: R)) {K : KV} (h : ∀ w', St w0 w' (fq b (rgC r') t :: R) → K undef w') : stN P b 0 [.int .u64 r'.p.n, .int .u64 r'.p.fo, .int .u64 r'.t.n, .int .u64 r'.t.fo, .int .i64 r'.v] w K :=
 S.put (vs := [.int .u64 r'.p.n, .int .u64 r'.p.fo, .int .u64 r'.t.n, .int .u64 r'.t.fo, .int .i64 r'.v]) (auq r') (by simp [rgC]) rfl h
theorem ym (S : St w0 w R) (t : TypeId) : St w0 (w.alloc (.cells #[.int .u64 0, .int .u64 0, .int .u64 0, .int .u64 0, .int .i64 0] t)) (fq w.heap.size (rgC rg0) t :: R) := S.mkB (rgC rg0) t
theorem anu {w : World} {v : Int} {K : KV} (h : K (.bool (mu v)) w) : ey P F.cw [.int .i64 v] w K := by
 rw [M.dk.fcall]
 apply M.dk.calls
 unfold M.dk
 unfold mu at h
 by_cases h1 : 1 ≤ v
 ·by_cases h2 : v ≤ 3
  ·rw [decide_eq_true ⟨h1, h2⟩] at h
   simp [h1, h2]; exact h
  ·rw [decide_eq_false (fun hh => h2 hh.2)] at h
   simp [h1, h2]; exact h
 ·rw [decide_eq_false (fun hh => h1 hh.1)] at h
  simp [h1]; exact h
theorem alv {w : World} (r : Rg) (x : Bal) {K : KV} (h : ∀ w', Fr (fun _ => False) w w' → K (.bool (r.pu x)) w') : ey P F.bp [li r, jm x] w K := by
 rw [M.co.fcall]
 apply M.co.calls
 unfold M.co
 refine St.vr (St.jy w) fun b1 w1 S1 => ?_
 refine St.vr S1 fun b2 w2 S2 => ?_
 obtain ⟨x0, _, xl⟩ := sj S2
 obtain ⟨rp, _, _, _⟩ := jn S2.swap
 unfold Rg.pu at h
 by_cases hn : 0 < x.n
 ·simp [x0, hn, xl, rp]
  refine ape x r.p fun w3 f3 => ?_
  simp
  simpa [hn] using h w3 (S2.fr.trans f3)
 ·simp [x0, hn]
  simpa [hn] using h w2 S2.fr
theorem bdb {w : World} (r : Rg) (x : Bal) {K : KV} (h : ∀ w', Fr (fun _ => False) w w' → K (.tuple #[li (r.nl x).1, .bool (r.nl x).2]) w') : ey P F.cs [li r, jm x] w K := by
 rw [M.cc.fcall]
 apply M.cc.calls
 unfold M.cc
 refine St.vr (St.jy w) fun b1 w1 S1 => ?_
 refine St.vr S1 fun b2 w2 S2 => ?_
 simp
 have S3 := ym S2 T.f
 generalize w2.heap.size = b3 at *
 generalize w2.alloc _ = w3 at *
 obtain ⟨_, _, xl⟩ := sj S3.swap
 obtain ⟨_, _, _, rl⟩ := jn S3.up2
 simp [rl, xl]
 refine alv r x fun w4 f4 => ?_
 have S4 := S3.iq f4
 obtain ⟨_, _, xl⟩ := sj S4.swap
 obtain ⟨_, _, _, rl⟩ := jn S4.up2
 unfold Rg.nl at h
 cases hs : r.pu x with
 | false =>
  simp [rl]
  unfold li
  simp
  refine uf S4 fun w5 S5 => ?_
  obtain ⟨_, _, _, rl5⟩ := jn S5
  rw [zs, rl5]
  refine ⟨rfl, ?_⟩
  simpa [hs] using h w5 S5.fr
 | true =>
  simp
  unfold M.cc.j0
  simp [xl]
  unfold jm
  simp
  refine St.put (cs' := rgC ⟨x, r.t, r.v⟩) (vs := [.int .u64 x.n, .int .u64 x.fo]) S4.up2 (by simp) (by simp [rgC]) rfl fun w5 S5 => ?_
  obtain ⟨_, _, _, rl5⟩ := jn S5
  rw [rl5]
  unfold li
  simp
  refine uf (r' := ⟨x, r.t, r.v⟩) S5.swap fun w6 S6 => ?_
  obtain ⟨_, _, _, rl6⟩ := jn S6
  rw [zs, rl6]
  refine ⟨rfl, ?_⟩
  simpa [hs] using h w6 S6.fr
theorem bep {w : World} (r : Rg) (x : Bal) (v : Int) {K : KV} (h : ∀ w', Fr (fun _ => False) w w' → K (.tuple #[li (r.acc x v).1, .bool (r.acc x v).2]) w') : ey P F.cz [li r, jm x, .int .i64 v] w K := by
 rw [M.bw.fcall]
 apply M.bw.calls
 unfold M.bw
 refine St.vr (St.jy w) fun b1 w1 S1 => ?_
 refine St.vr S1 fun b2 w2 S2 => ?_
 simp
 have S3 := ym S2 T.f
 generalize w2.heap.size = b3 at *
 generalize w2.alloc _ = w3 at *
 obtain ⟨_, _, xl⟩ := sj S3.swap
 obtain ⟨_, _, _, rl⟩ := jn S3.up2
 simp [rl, xl]
 refine alv r x fun w4 f4 => ?_
 have S4 := S3.iq f4
 obtain ⟨_, _, xl⟩ := sj S4.swap
 obtain ⟨_, rt, rv, rl⟩ := jn S4.up2
 have no : (¬ (r.pu x = true ∧ mu v = true ∧ ¬ (r.t = x ∧ r.v ≠ v))) → stN P b3 0 [.int .u64 r.p.n, .int .u64 r.p.fo, .int .u64 r.t.n, .int .u64 r.t.fo, .int .i64 r.v] w4 (fun _ w => eh (fun K' => og P T.f (.pointer (some ⟨b3, 0, none⟩)) w K') w fun r0 => K (.tuple #[r0, .bool false]) w) := fun hc => by
  refine uf S4 fun w5 S5 => ?_
  obtain ⟨_, _, _, rl5⟩ := jn S5
  rw [me, zs, rl5]
  refine ⟨rfl, ?_⟩
  have fin := h w5 S5.fr
  unfold Rg.acc at fin
  rw [if_neg hc] at fin
  exact fin
 simp only [me] at no
 cases hs : r.pu x with
 | false =>
  have no' := no (by simp [hs])
  simp [rl]
  unfold li
  simp
  exact no'
 | true =>
  simp
  refine anu ?_
  cases hv : mu v with
  | false =>
   have no' := no (by simp [hv])
   simp [rl]
   unfold li
   simp
   exact no'
  | true =>
   simp [rt, xl, ux]
   have yes : (r.pu x = true ∧ mu v = true ∧ ¬ (r.t = x ∧ r.v ≠ v)) → M.bw.j0 (.pointer (some ⟨b2, 0, none⟩)) (.int .i64 v) (.pointer (some ⟨b3, 0, none⟩)) w4 K := fun hc => by
    unfold M.bw.j0
    simp [xl]
    unfold jm
    simp
    refine uf (r' := ⟨x, x, v⟩) S4 fun w5 S5 => ?_
    obtain ⟨_, _, _, rl5⟩ := jn S5
    rw [zs, rl5]
    refine ⟨rfl, ?_⟩
    have fin := h w5 S5.fr
    unfold Rg.acc at fin
    rw [if_pos hc] at fin
    exact fin
   by_cases ht : r.t = x
   ·by_cases hvv : r.v = v
    ·have yes' := yes ⟨hs, hv, fun hh => hh.2 hvv⟩
     simp [ht, rv, hvv]
     exact yes'
    ·have no' := no (fun hh => hh.2.2 ⟨ht, hvv⟩)
     simp [ht, rv, hvv, rl]
     unfold li
     simp
     exact no'
   ·have yes' := yes ⟨hs, hv, fun hh => ht hh.1⟩
    simp [ht]
    exact yes'
theorem bgc : Value.agg #[.int .u64 0, .int .u64 0] = jm gy := rfl
theorem ave {w : World} (r : Rg) {K : KV} (h : ∀ w', Fr (fun _ => False) w w' → K (.bool r.right) w') : ey P F.df [li r] w K := by
 rw [M.cn.fcall]
 apply M.cn.calls
 unfold M.cn
 refine St.vr (St.jy w) fun b1 w1 S1 => ?_
 have S1' : St w w1 (fq b1 (rgC r) T.f :: []) := S1
 obtain ⟨rp, rt, rv, _⟩ := jn S1'
 have fin := fun f => h w1 f
 unfold Rg.right at h fin
 simp [rt, bgc, ux]
 by_cases ht : r.t = gy
 ·simp [ht, rv] at fin ⊢
  exact fin S1.fr
 ·simp [ht] at fin h ⊢
  unfold M.cn.j0
  simp [rv]
  refine anu ?_
  cases hv : mu r.v with
  | false =>
   simp [hv] at fin ⊢
   exact fin S1.fr
  | true =>
   simp [rp, rt]
   refine ape _ _ fun w2 f2 => ?_
   have := h w2 (S1.fr.trans f2)
   simpa [hv] using this
end
set_option maxRecDepth 100000
open Go.Eng
def pk0 (k tr : Int) (x s : Bal) (v : Int) (ok : Bool) : Pk := ⟨k, tr, x, s, v, ok, .slice none 0 0, .slice none 0 0, .slice none 0 0⟩
theorem un (k tr : Int) (x s : Bal) (v : Int) (ok : Bool) : ∀ u ∈ pkC (pk0 k tr x s v ok), jf u = true := fun u hu => by
 simp only [pkC, pk0, List.mem_cons, List.not_mem_nil, or_false] at hu
 rcases hu with rfl | rfl | rfl | rfl | rfl | rfl | rfl | rfl | rfl | rfl | rfl <;> rfl
theorem aff (w : World) (k tr : Int) (x s : Bal) (v : Int) (ok : Bool) : sk w (pk0 k tr x s v ok) [] [] [] := ⟨Sl.nil, Sl.nil, Sl.nil, by simp, by simp, by simp⟩
def pkZ : Pk := pk0 0 0 gy gy 0 false
def abr (r : Rg) (tr : Int) (x : Bal) (ok ji : Bool) : Pk := pk0 (if ji = true then 7 else 5) tr x (if ok = false then r.p else if ji = false then r.t else gy) (if ok = true ∧ ji = false then r.v else 0) ok
section
variable {w0 w : World} {b : Nat} {R : List Asn}
theorem yg {cs : Array Value} {q : Pk} (S : St w0 w (fq b cs T.a :: R)) (hs : cs.size = 11) (h1 : ∀ u ∈ pkC q, jf u = true) {K : KV} (h : ∀ w', St w0 w' (fq b (pkC q).toArray T.a :: R) → K undef w') : stN P b 0 (pkC q) w K :=
 S.put h1 (by simp [pkC, hs]) (by
  have hl : cs.toList.length = 11 := by simpa using hs
  have h2 : (pkC q).length = 11 := rfl
  rw [h2, List.take_zero, List.nil_append, List.drop_eq_nil_of_le (by omega), List.append_nil]) h
theorem vp (S : St w0 w R) : St w0 (w.alloc (.cells #[.int .i64 0, .int .u64 0, .int .u64 0, .int .u64 0, .int .u64 0, .int .u64 0, .int .i64 0, .bool false, .slice none 0 0, .slice none 0 0, .slice none 0 0] T.a)) (fq w.heap.size (pkC pkZ).toArray T.a :: R) := S.mkB (pkC pkZ).toArray T.a
theorem uj {q : Pk} (S : St w0 w (fq b (pkC q).toArray T.a :: R)) (K : KV) : ldN P 11 b 0 w K = K (pkA q) w := S.ldA (pkC q) rfl rfl K
theorem bfs {q : Pk} (S : St w0 w (fq b (pkC q).toArray T.a :: R)) (K : KV) : og P T.a (.pointer (some ⟨b, 0, none⟩)) w K = K (pkA q) w := by rw [agj]; exact uj S K
theorem acw {cs : Array Value} {q : Pk} (S : St w0 w (fq b cs T.a :: R)) (hs : cs.size = 11) (h1 : ∀ u ∈ pkC q, jf u = true) {K : KV} (h : ∀ w', St w0 w' (fq b (pkC q).toArray T.a :: R) → K (pkA q) w') :
  stN P b 0 (pkC q) w fun _ w => og P T.a (.pointer (some ⟨b, 0, none⟩)) w fun r0 w' => w' = w ∧ K r0 w :=
 yg S hs h1 fun w' S' => by rw [bfs S']; exact ⟨rfl, h w' S'⟩
theorem axc {w : World} (r : Rg) (tr : Int) (x : Bal) (ok ji : Bool) {K : KV} (h : ∀ w', Fr (fun _ => False) w w' → K (pkA (abr r tr x ok ji)) w') : ey P F.da [li r, .int .u64 tr, jm x, .bool ok, .bool ji] w K := by
 rw [M.bx.fcall]
 apply M.bx.calls
 unfold M.bx
 refine St.vr (St.jy w) fun b1 w1 S1 => ?_
 refine St.vr S1 fun b2 w2 S2 => ?_
 simp
 have S3 := vp S2
 generalize w2.heap.size = b3 at *
 generalize w2.alloc _ = w3 at *
 obtain ⟨_, _, xl⟩ := sj S3.swap
 rw [xl]
 unfold jm
 simp
 have S4 := vp S3
 generalize w3.heap.size = b4 at *
 generalize w3.alloc _ = w4 at *
 refine yg (q := pk0 5 tr x gy 0 ok) S4 rfl (un _ _ _ _ _ _) fun w5 S5 => ?_
 obtain ⟨rp, rt, rv, _⟩ := jn S5.up3
 have fin : ∀ w6 (s : Bal) (v : Int), s = (if ok = false then r.p else if ji = false then r.t else gy) → v = (if ok = true ∧ ji = false then r.v else 0) → St w w6 (fq b4 (pkC (pk0 5 tr x s v ok)).toArray T.a :: fq b3 (pkC pkZ).toArray T.a :: fq b2 #[.int .u64 x.n, .int .u64 x.fo] T.c :: fq b1 (rgC r) T.f :: []) → M.bx.j0 (.bool ji) (.pointer (some ⟨b4, 0, none⟩)) (.pointer (some ⟨b3, 0, none⟩)) w6 K := fun w6 s v es ev S6 => by
  unfold M.bx.j0
  cases ji with
  | false =>
   simp
   rw [uj S6]
   have e : pkA (pk0 5 tr x s v ok) = .agg #[.int .i64 5, .int .u64 tr, .int .u64 x.n, .int .u64 x.fo, .int .u64 s.n, .int .u64 s.fo, .int .i64 v, .bool ok, .slice none 0 0, .slice none 0 0, .slice none 0 0] := rfl
   rw [e]
   simp
   refine acw (q := pk0 5 tr x s v ok) S6.swap rfl (un _ _ _ _ _ _) fun w7 S7 => ?_
   subst es ev
   exact h w7 S7.fr
  | true =>
   simp
   refine S6.ahp rfl (by simp [pkC]) fun w7 S7 => ?_
   have S7' : St w w7 (fq b4 (pkC (pk0 7 tr x s v ok)).toArray T.a :: _) := S7
   rw [uj S7']
   have e : pkA (pk0 7 tr x s v ok) = .agg #[.int .i64 7, .int .u64 tr, .int .u64 x.n, .int .u64 x.fo, .int .u64 s.n, .int .u64 s.fo, .int .i64 v, .bool ok, .slice none 0 0, .slice none 0 0, .slice none 0 0] := rfl
   rw [e]
   simp
   refine acw (q := pk0 7 tr x s v ok) S7'.swap rfl (un _ _ _ _ _ _) fun w8 S8 => ?_
   subst es ev
   exact h w8 S8.fr
 cases ok with
 | false =>
  simp [rp]
  unfold jm
  simp
  refine St.put (cs' := (pkC (pk0 5 tr x r.p 0 false)).toArray) (vs := [.int .u64 r.p.n, .int .u64 r.p.fo]) S5 (by simp) (by simp [pkC]) rfl fun w6 S6 => ?_
  exact fin w6 r.p 0 rfl rfl S6
 | true =>
  cases ji with
  | true =>
   simp
   exact fin w5 gy 0 rfl rfl S5
  | false =>
   simp
   have S5d := S5.iq ((Fr.refl _ w5).dr 1)
   obtain ⟨_, rt', rv', _⟩ := jn S5d.up3
   simp only [qe] at rv'
   simp [rt', rv']
   unfold jm
   simp
   refine St.put (cs' := (pkC (pk0 5 tr x r.t 0 true)).toArray) (vs := [.int .u64 r.t.n, .int .u64 r.t.fo]) S5d (by simp) (by simp [pkC]) rfl fun w6 S6 => ?_
   obtain ⟨_, _, rv6, _⟩ := jn S6.up3
   simp [rv6]
   refine S6.ahp rfl (by simp [pkC]) fun w7 S7 => ?_
   exact fin w7 r.t r.v rfl rfl S7
end
set_option maxRecDepth 100000
open Go.Eng
def vk (l1 l2 : List Spn) : Bool := decide (l1.length = l2.length) && (List.zipWith yd l1 l2).all id
theorem awg {l1 l2 : List Spn} {i : Nat} (h1 : i < l1.length) (h2 : i < l2.length) (h : yd l1[i] l2[i] = false) : vk l1 l2 = false := by
 unfold vk
 have : (List.zipWith yd l1 l2).all id = false := by
  rw [List.all_eq_false]
  refine ⟨yd l1[i] l2[i], ?_, by simp [h]⟩
  rw [List.mem_iff_getElem]
  exact ⟨i, by simp; omega, by simp⟩
 rw [this, Bool.and_false]
theorem asl {l1 l2 : List Spn} (hl : l1.length = l2.length) (h : ∀ j (h1 : j < l1.length) (h2 : j < l2.length), yd l1[j] l2[j] = true) : vk l1 l2 = true := by
 unfold vk
 rw [decide_eq_true hl, Bool.true_and, List.all_eq_true]
 intro x hx
 obtain ⟨j, hj, rfl⟩ := List.getElem_of_mem hx
 simp only [List.length_zipWith] at hj
 rw [List.getElem_zipWith]
 exact h j (by omega) (by omega)
def jt (p q : Pk) : Bool := decide (p.fu = q.fu) && (decide (p.tr = q.tr) && (decide (p.b = q.b) && (decide (p.ic = q.ic) && (decide (p.v = q.v) && (p.ok == q.ok)))))
def yh (p q : Pk) (ls ls' : List Spn) (lm lm' : List Mem) (lu lu' : List Int) : Bool := decide (lm = lm') && (decide (lu = lu') && (vk ls ls' && jt p q))
theorem bex {α : Type} {l1 l2 : List α} (hl : l1.length = l2.length) (h : ∀ j (h1 : j < l1.length) (h2 : j < l2.length), l1[j] = l2[j]) : l1 = l2 := List.ext_getElem hl h
end Go.Proofs.YtfnhoaemapheoaaGreat
