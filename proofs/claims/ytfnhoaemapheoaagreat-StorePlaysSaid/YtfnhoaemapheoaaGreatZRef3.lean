/-
  The document's rune and the model's. No condition.
-/
import Derived.Test.YtfnhoaemapheoaaGreatZMs2
import Derived.Test.YtfnhoaemapheoaaGreatZEngSl
import Derived.Test.YtfnhoaemapheoaaGreatZSgD
set_option maxRecDepth 100000
namespace Go.Proofs.YtfnhoaemapheoaaGreat
open Go.Eng
theorem amt {t : ByteArray} (h0 : 0 < t.size) (h1 : ¬ byt t 0 < 128) {n least r : Nat} (hc : oe (byt t 0) = (n, least, r)) :
  rr t = if n = 0 ∨ t.size < n then (0, 0) else if ul t (n - 1) = false then (0, 0) else if lg t r (n - 1) < least ∨ 1114111 < lg t r (n - 1) ∨ (55296 ≤ lg t r (n - 1) ∧ lg t r (n - 1) ≤ 57343) then (0, 0) else (lg t r (n - 1), n) := by
 unfold rr
 rw [if_neg (by omega), if_neg h1, hc]
theorem bio (v : Nat) : Utf8.valid (v : Int) = decide (¬ (1114111 < v ∨ (55296 ≤ v ∧ v ≤ 57343))) := by
 unfold Utf8.valid
 rw [Bool.eq_iff_iff]
 simp only [Bool.or_eq_true, Bool.and_eq_true, decide_eq_true_eq]
 omega
def pm (t : ByteArray) (k : Nat) : Bool := decide (k < t.size) && uy t k
def ale (least n v : Nat) : Nat × Nat := if least ≤ v ∧ ¬ (1114111 < v ∨ (55296 ≤ v ∧ v ≤ 57343)) then (v, n) else (65533, 1)
theorem abj (t : ByteArray) : Utf8.decode t 0 = if byt t 0 < 128 then (byt t 0, 1) else if byt t 0 / 32 = 6 ∧ pm t 1 = true then (if 128 ≤ byt t 0 % 32 * 64 + byt t 1 % 64 then (byt t 0 % 32 * 64 + byt t 1 % 64, 2) else (65533, 1))
  else if byt t 0 / 16 = 14 ∧ pm t 1 = true ∧ pm t 2 = true then ale 2048 3 (byt t 0 % 16 * 4096 + byt t 1 % 64 * 64 + byt t 2 % 64)
  else if byt t 0 / 8 = 30 ∧ pm t 1 = true ∧ pm t 2 = true ∧ pm t 3 = true then ale 65536 4 (byt t 0 % 8 * 262144 + byt t 1 % 64 * 4096 + byt t 2 % 64 * 64 + byt t 3 % 64) else (65533, 1) := by
 have e : ∀ k, (t.get! (0 + k)).toNat = byt t k := fun k => by rw [Nat.zero_add]; rfl
 have c0 : ∀ k, (decide (0 + k < t.size) && byt t k / 64 == 2) = pm t k := fun k => by
  have := ahs t k
  have : (byt t k / 64 == 2) = uy t k := by
   unfold uy
   by_cases h : 128 ≤ byt t k <;> by_cases h' : byt t k ≤ 191
   ·have : byt t k / 64 = 2 := by omega
    simp [h, h', this]
   ·have : ¬ byt t k / 64 = 2 := by omega
    simp [h, h', this]
   ·have : ¬ byt t k / 64 = 2 := by omega
    simp [h, h', this]
   ·omega
  rw [this, Nat.zero_add]; rfl
 unfold Utf8.decode ale
 simp only [e, c0, bio, Bool.and_eq_true, beq_iff_eq, and_assoc, decide_eq_true_eq, ge_iff_le, Utf8.runeError]
theorem yp {t : ByteArray} {k : Nat} (h : pm t k = true) : k < t.size ∧ uy t k = true ∧ 128 ≤ byt t k ∧ byt t k ≤ 191 := by
 unfold pm uy at h
 simp only [Bool.and_eq_true, decide_eq_true_eq] at h
 exact ⟨h.1, by unfold uy; simp [h.2], h.2.1, h.2.2⟩
def aes (c : Nat × Nat) : Nat × Nat := if c.2 = 0 then (65533, 1) else c
theorem ang {least n v : Nat} (hn : n ≠ 0) : ale least n v = aes (if v < least ∨ 1114111 < v ∨ (55296 ≤ v ∧ v ≤ 57343) then (0, 0) else (v, n)) := by
 unfold ale aes
 by_cases g : v < least ∨ 1114111 < v ∨ (55296 ≤ v ∧ v ≤ 57343)
 ·rw [if_pos g, if_neg (by omega)]; rfl
 ·rw [if_neg g, if_pos (by omega)]; simp [hn]
theorem ahv {t : ByteArray} : ∀ {n : Nat}, ul t n = true ↔ ∀ k, 1 ≤ k → k ≤ n → uy t k = true
 | 0 => ⟨fun _ k h1 h2 => by omega, fun _ => rfl⟩
 | n + 1 => by
  simp only [ul, Bool.and_eq_true, ahv (n := n)]
  constructor
  ·rintro ⟨h1, h2⟩ k hk1 hk2
   by_cases hk : k = n + 1
   ·subst hk; exact h2
   ·exact h1 k hk1 (by omega)
  ·intro h
   exact ⟨fun k h1 h2 => h k h1 (by omega), h (n + 1) (by omega) (by omega)⟩
theorem aeu {t : ByteArray} (h0 : 0 < t.size) (h1 : ¬ byt t 0 < 128) {n least r : Nat} (hc : oe (byt t 0) = (n, least, r)) (hn : 2 ≤ n) (h : ∀ k, 1 ≤ k → k ≤ n - 1 → pm t k = true) :
  rr t = if lg t r (n - 1) < least ∨ 1114111 < lg t r (n - 1) ∨ (55296 ≤ lg t r (n - 1) ∧ lg t r (n - 1) ≤ 57343) then (0, 0) else (lg t r (n - 1), n) := by
 rw [amt h0 h1 hc]
 have := (yp (h (n - 1) (by omega) (by omega))).1
 rw [if_neg (by omega), if_neg]
 rw [ahv.2 fun k h1 h2 => (yp (h k h1 h2)).2.1]; simp
theorem ajm {t : ByteArray} (h0 : 0 < t.size) (h1 : ¬ byt t 0 < 128) {n least r : Nat} (hc : oe (byt t 0) = (n, least, r)) (hn : 2 ≤ n) (h : ¬ ∀ k, 1 ≤ k → k ≤ n - 1 → pm t k = true) : rr t = (0, 0) := by
 rw [amt h0 h1 hc]
 by_cases hs : t.size < n
 ·rw [if_pos (.inr hs)]
 ·rw [if_neg (by omega), if_pos]
  cases hcs : ul t (n - 1) with
  | false => rfl
  | true =>
   refine absurd (fun k h1 h2 => ?_) h
   unfold pm
   rw [ahv.1 hcs k h1 h2]
   simp; omega
theorem bar {p : Nat → Prop} : (∀ k, 1 ≤ k → k ≤ 2 - 1 → p k) ↔ p 1 := ⟨fun h => h 1 (by omega) (by omega), fun h k h1 h2 => by
 obtain rfl : k = 1 := by omega
 exact h⟩
theorem baq {p : Nat → Prop} : (∀ k, 1 ≤ k → k ≤ 3 - 1 → p k) ↔ p 1 ∧ p 2 := ⟨fun h => ⟨h 1 (by omega) (by omega), h 2 (by omega) (by omega)⟩, fun h k h1 h2 => by
 have : k = 1 ∨ k = 2 := by omega
 rcases this with rfl | rfl
 ·exact h.1
 ·exact h.2⟩
theorem ayl {p : Nat → Prop} : (∀ k, 1 ≤ k → k ≤ 4 - 1 → p k) ↔ p 1 ∧ p 2 ∧ p 3 := ⟨fun h => ⟨h 1 (by omega) (by omega), h 2 (by omega) (by omega), h 3 (by omega) (by omega)⟩, fun h k h1 h2 => by
 have : k = 1 ∨ k = 2 ∨ k = 3 := by omega
 rcases this with rfl | rfl | rfl
 ·exact h.1
 ·exact h.2.1
 ·exact h.2.2⟩
theorem ajt {x : Nat} (h1 : 128 ≤ x) (h2 : x ≤ 191) : x % 64 = x - 128 := by omega
theorem rf1 (t : ByteArray) (r : Nat) : lg t r 1 = r * 64 + byt t 1 - 128 := rfl
theorem rf2 (t : ByteArray) (r : Nat) : lg t r 2 = (r * 64 + byt t 1 - 128) * 64 + byt t 2 - 128 := rfl
theorem rf3 (t : ByteArray) (r : Nat) : lg t r 3 = ((r * 64 + byt t 1 - 128) * 64 + byt t 2 - 128) * 64 + byt t 3 - 128 := rfl
theorem bpo {t : ByteArray} (h0 : 0 < t.size) (c1 : 194 ≤ byt t 0 ∧ byt t 0 ≤ 223) : Utf8.decode t 0 = aes (rr t) := by
 have h1 : ¬ byt t 0 < 128 := by omega
 have hc : oe (byt t 0) = (2, 128, byt t 0 - 192) := by unfold oe; rw [if_pos c1]
 rw [abj, if_neg h1]
 by_cases hd : pm t 1 = true
 ·rw [aeu h0 h1 hc (by decide) (bar.2 hd), if_pos ⟨by omega, hd⟩, ← ang (by decide)]
  obtain ⟨_, _, g1, g2⟩ := yp hd
  have hv : lg t (byt t 0 - 192) (2 - 1) = byt t 0 % 32 * 64 + byt t 1 % 64 := by
   show lg t (byt t 0 - 192) 1 = _
   rw [rf1, ajt g1 g2]; omega
  rw [hv]
  have hle : byt t 0 % 32 * 64 + byt t 1 % 64 < 55296 := by omega
  unfold ale
  by_cases hg : 128 ≤ byt t 0 % 32 * 64 + byt t 1 % 64
  ·rw [if_pos hg, if_pos ⟨hg, by omega⟩]
  ·rw [if_neg hg, if_neg fun h => hg h.1]
 ·rw [if_neg fun h => hd h.2, if_neg (by omega), if_neg (by omega), ajm h0 h1 hc (by decide) fun h => hd (bar.1 h)]; rfl
theorem bpi {t : ByteArray} (h0 : 0 < t.size) (c1 : 224 ≤ byt t 0 ∧ byt t 0 ≤ 239) : Utf8.decode t 0 = aes (rr t) := by
 have h1 : ¬ byt t 0 < 128 := by omega
 have hc : oe (byt t 0) = (3, 2048, byt t 0 - 224) := by unfold oe; rw [if_neg (by omega), if_pos c1]
 rw [abj, if_neg h1, if_neg (by omega)]
 by_cases hd : pm t 1 = true ∧ pm t 2 = true
 ·rw [aeu h0 h1 hc (by decide) (baq.2 hd), if_pos ⟨by omega, hd⟩, ← ang (by decide)]
  obtain ⟨_, _, g1, g2⟩ := yp hd.1
  obtain ⟨_, _, g3, g4⟩ := yp hd.2
  have hv : lg t (byt t 0 - 224) (3 - 1) = byt t 0 % 16 * 4096 + byt t 1 % 64 * 64 + byt t 2 % 64 := by
   show lg t (byt t 0 - 224) 2 = _
   rw [rf2, ajt g1 g2, ajt g3 g4]; omega
  rw [hv]
 ·rw [if_neg fun h => hd h.2, if_neg (by omega), ajm h0 h1 hc (by decide) fun h => hd (baq.1 h)]; rfl
theorem bqf {t : ByteArray} (h0 : 0 < t.size) (c1 : 240 ≤ byt t 0 ∧ byt t 0 ≤ 244) : Utf8.decode t 0 = aes (rr t) := by
 have h1 : ¬ byt t 0 < 128 := by omega
 have hc : oe (byt t 0) = (4, 65536, byt t 0 - 240) := by unfold oe; rw [if_neg (by omega), if_neg (by omega), if_pos c1]
 rw [abj, if_neg h1, if_neg (by omega), if_neg (by omega)]
 by_cases hd : pm t 1 = true ∧ pm t 2 = true ∧ pm t 3 = true
 ·rw [aeu h0 h1 hc (by decide) (ayl.2 hd), if_pos ⟨by omega, hd⟩, ← ang (by decide)]
  obtain ⟨_, _, g1, g2⟩ := yp hd.1
  obtain ⟨_, _, g3, g4⟩ := yp hd.2.1
  obtain ⟨_, _, g5, g6⟩ := yp hd.2.2
  have hv : lg t (byt t 0 - 240) (4 - 1) = byt t 0 % 8 * 262144 + byt t 1 % 64 * 4096 + byt t 2 % 64 * 64 + byt t 3 % 64 := by
   show lg t (byt t 0 - 240) 3 = _
   rw [rf3, ajt g1 g2, ajt g3 g4, ajt g5 g6]; omega
  rw [hv]
 ·rw [if_neg fun h => hd h.2, ajm h0 h1 hc (by decide) fun h => hd (ayl.1 h)]; rfl
theorem bbx (t : ByteArray) (h0 : 0 < t.size) : Utf8.decode t 0 = aes (rr t) := by
 by_cases h1 : byt t 0 < 128
 ·have hr : rr t = (byt t 0, 1) := by unfold rr; rw [if_neg (by omega), if_pos h1]
  rw [abj, if_pos h1, hr]; rfl
 by_cases c1 : 194 ≤ byt t 0 ∧ byt t 0 ≤ 223
 ·exact bpo h0 c1
 by_cases c2 : 224 ≤ byt t 0 ∧ byt t 0 ≤ 239
 ·exact bpi h0 c2
 by_cases c3 : 240 ≤ byt t 0 ∧ byt t 0 ≤ 244
 ·exact bqf h0 c3
 have hc : oe (byt t 0) = (0, 0, 0) := by unfold oe; rw [if_neg c1, if_neg c2, if_neg c3]
 have hr : rr t = (0, 0) := by rw [amt h0 h1 hc]; simp
 have hb := ahs t 0
 rw [hr, abj, if_neg h1]
 show _ = (65533, 1)
 by_cases d1 : byt t 0 / 32 = 6 ∧ pm t 1 = true
 ·obtain ⟨_, _, g1, g2⟩ := yp d1.2
  rw [if_pos d1, if_neg (by omega)]
 ·rw [if_neg d1, if_neg (by omega)]
  by_cases d3 : byt t 0 / 8 = 30 ∧ pm t 1 = true ∧ pm t 2 = true ∧ pm t 3 = true
  ·rw [if_pos d3]
   unfold ale
   rw [if_neg (by omega)]
  ·rw [if_neg d3]
set_option maxRecDepth 100000
def lq (s : ByteArray) (i : Nat) : ByteArray := s.extract i s.size
theorem aia (s : ByteArray) (i : Nat) : (lq s i).size = s.size - i := by simp [lq]
theorem atg (s : ByteArray) (k : Nat) : s.get! k = s.data[k]! := by cases s; rfl
theorem bhx (s : ByteArray) (i k : Nat) : byt (lq s i) k = byt s (i + k) := by
 unfold byt
 rw [atg, atg]
 have h : (lq s i).data = s.data.extract i s.size := by simp [lq]
 rw [h, getElem!_def, getElem!_def, Array.getElem?_extract]
 have hs : s.size = s.data.size := rfl
 by_cases hk : k < min s.size s.data.size - i
 ·rw [if_pos (by omega)]
 ·rw [if_neg (by omega), Array.getElem?_eq_none (by omega)]
theorem bdk (s : ByteArray) (i n : Nat) : lq (lq s i) n = lq s (i + n) := by
 unfold lq
 rw [ByteArray.extract_extract]
 congr 1
 simp; omega
theorem avx (s : ByteArray) (i : Nat) : Utf8.decode s i = Utf8.decode (lq s i) 0 := by
 have e : ∀ k, (s.get! (i + k)).toNat = byt (lq s i) k := fun k => by rw [bhx]; rfl
 have e' : ∀ k, ((lq s i).get! (0 + k)).toNat = byt (lq s i) k := fun k => by rw [Nat.zero_add]; rfl
 have c : ∀ k, decide (i + k < s.size) = decide (0 + k < (lq s i).size) := fun k => by
  rw [aia, decide_eq_decide]; omega
 unfold Utf8.decode
 simp only [e, e', c]
theorem bll (t : ByteArray) : xu t yd = true ↔ 3 ≤ t.size ∧ byt t 0 = 239 ∧ byt t 1 = 191 ∧ byt t 2 = 189 := by
 have hs : t.size = t.data.toList.length := Array.length_toList.symm
 have hr : yd.toList = [239, 191, 189] := by decide +kernel
 have hz : yd.size = 3 := rfl
 unfold xu
 rw [hr, hz, Bool.and_eq_true, decide_eq_true_eq, beq_iff_eq]
 have he : (t.extract 0 3).toList = t.data.toList.take 3 := by
  rw [ByteArray.toList_eq]
  simp
 rw [he]
 have b : ∀ k, byt t k = (t.data.toList[k]?.getD default).toNat := fun k => by
  unfold byt
  rw [atg, getElem!_def]
  simp only [Array.getElem?_toList]
  cases t.data[k]? <;> rfl
 rw [b, b, b, hs]
 have u : ∀ (x : UInt8) (n : Nat) (h : n < 256), x.toNat = n ↔ x = UInt8.ofNat n := fun x n h => by
  constructor
  ·intro hx; rw [← hx]; simp
  ·rintro rfl; simp; omega
 match t.data.toList with
 | [] => simp
 | [x] => simp
 | [x, y] => simp
 | x :: y :: z :: r =>
  simp [u x 239 (by decide), u y 191 (by decide), u z 189 (by decide)]
theorem bmb (t : ByteArray) (h0 : 0 < t.size) : ((rr t).2 ≠ 0 ∧ (rr t).1 = 65533) ↔ (3 ≤ t.size ∧ byt t 0 = 239 ∧ byt t 1 = 191 ∧ byt t 2 = 189) := by
 have hb := ahs t 0
 by_cases h1 : byt t 0 < 128
 ·have hr : rr t = (byt t 0, 1) := by unfold rr; rw [if_neg (by omega), if_pos h1]
  rw [hr]; simp; omega
 by_cases c1 : 194 ≤ byt t 0 ∧ byt t 0 ≤ 223
 ·have hc : oe (byt t 0) = (2, 128, byt t 0 - 192) := by unfold oe; rw [if_pos c1]
  by_cases hd : pm t 1 = true
  ·rw [aeu h0 h1 hc (by decide) (bar.2 hd)]
   obtain ⟨_, _, g1, g2⟩ := yp hd
   have hv : lg t (byt t 0 - 192) (2 - 1) = (byt t 0 - 192) * 64 + byt t 1 - 128 := rfl
   rw [hv]
   split <;> simp <;> omega
  ·rw [ajm h0 h1 hc (by decide) fun h => hd (bar.1 h)]; simp; omega
 by_cases c2 : 224 ≤ byt t 0 ∧ byt t 0 ≤ 239
 ·have hc : oe (byt t 0) = (3, 2048, byt t 0 - 224) := by unfold oe; rw [if_neg (by omega), if_pos c2]
  by_cases hd : pm t 1 = true ∧ pm t 2 = true
  ·rw [aeu h0 h1 hc (by decide) (baq.2 hd)]
   obtain ⟨_, _, g1, g2⟩ := yp hd.1
   obtain ⟨g5, _, g3, g4⟩ := yp hd.2
   have hv : lg t (byt t 0 - 224) (3 - 1) = ((byt t 0 - 224) * 64 + byt t 1 - 128) * 64 + byt t 2 - 128 := rfl
   rw [hv]
   split <;> simp <;> omega
  ·rw [ajm h0 h1 hc (by decide) fun h => hd (baq.1 h)]
   simp only [ne_eq, not_true_eq_false, false_and, false_iff]
   rintro ⟨k0, k1, k2, k3⟩
   apply hd
   unfold pm uy
   simp [k2, k3]; omega
 by_cases c3 : 240 ≤ byt t 0 ∧ byt t 0 ≤ 244
 ·have hc : oe (byt t 0) = (4, 65536, byt t 0 - 240) := by unfold oe; rw [if_neg (by omega), if_neg (by omega), if_pos c3]
  by_cases hd : pm t 1 = true ∧ pm t 2 = true ∧ pm t 3 = true
  ·rw [aeu h0 h1 hc (by decide) (ayl.2 hd)]
   generalize lg t (byt t 0 - 240) (4 - 1) = v
   split <;> simp <;> omega
  ·rw [ajm h0 h1 hc (by decide) fun h => hd (ayl.1 h)]; simp; omega
 have hc : oe (byt t 0) = (0, 0, 0) := by unfold oe; rw [if_neg c1, if_neg c2, if_neg c3]
 have hr : rr t = (0, 0) := by rw [amt h0 h1 hc]; simp
 rw [hr]; simp; omega
theorem biv (t : ByteArray) : (rr t).2 ≤ t.size := by
 unfold rr
 by_cases h0 : t.size = 0
 ·rw [if_pos h0]; omega
 rw [if_neg h0]
 split
 ·simp; omega
 split
 ·simp
 split
 ·simp
 split
 ·simp
 ·simp; omega
def rrs (s : ByteArray) (i : Nat) : Option (List Nat) :=
 if h : i < s.size then (if h2 : (rr (lq s i)).2 = 0 then none else (rrs s (i + (rr (lq s i)).2)).map ((rr (lq s i)).1 :: ·)) else some []
termination_by s.size - i
decreasing_by omega
def ctl (c : Nat) : Bool := decide (c < 32) || (decide (127 ≤ c) && decide (c ≤ 159))
theorem bhr (s : ByteArray) : ∀ (m i : Nat), s.size - i ≤ m → uu s i = match rrs s i with
  | none => false
  | some l => l.all fun c => !ctl c := by
 intro m
 induction m with
 | zero =>
  intro i hm
  unfold uu rrs
  rw [dif_neg (by omega), dif_neg (by omega)]; rfl
 | succ m ih =>
  intro i hm
  unfold uu rrs
  by_cases hi : i < s.size
  ·rw [dif_pos hi, dif_pos hi]
   have ht : 0 < (lq s i).size := by rw [aia]; omega
   have hd : Utf8.decode s i = aes (rr (lq s i)) := by rw [avx, bbx _ ht]
   have he := bmb (lq s i) ht
   rw [← bll] at he
   unfold acv
   have hrest : s.extract i s.size = lq s i := rfl
   rw [hrest, hd]
   by_cases h2 : (rr (lq s i)).2 = 0
   ·rw [dif_pos h2]
    have hp : xu (lq s i) yd = false := by
     cases hq : xu (lq s i) yd with
     | false => rfl
     | true => exact absurd h2 (he.2 hq).1
    simp [aes, h2, hp]
   ·rw [dif_neg h2]
    have hf : aes (rr (lq s i)) = rr (lq s i) := by simp [aes, h2]
    rw [hf, ih (i + (rr (lq s i)).2) (by omega)]
    have hb : (decide ((rr (lq s i)).1 < 32) || (decide (127 ≤ (rr (lq s i)).1) && decide ((rr (lq s i)).1 ≤ 159) || decide ((rr (lq s i)).1 = 65533) && !xu (lq s i) yd)) = ctl (rr (lq s i)).1 := by
     unfold ctl
     by_cases hc : (rr (lq s i)).1 = 65533
     ·rw [he.1 ⟨h2, hc⟩, hc]; decide
     ·simp [hc]
    rw [hb]
    cases rrs s (i + (rr (lq s i)).2) with
    | none => simp
    | some l => simp
  ·rw [dif_neg hi, dif_neg hi]; rfl
def big (c : Nat) : List Value := [.int .i32 (c : Nat)]
abbrev OwR (w : World) (base : Nat) (v : Value) (l : List Nat) : Prop := Ow w base T.aw 1 big v l
def amf (v : Value) : Nat := match v with
 | .string s => s.size
 | _ => 0
def bpx (w : World) (s : ByteArray) : KL := fun x w1 => ∃ (i : Nat) (l : List Nat), x.length = 6 ∧ gv x 5 = .string (lq s i) ∧ OwR w1 w.heap.size (gv x 4) l ∧ Fz w w1 ∧ i ≤ s.size ∧ l.length ≤ i ∧ rrs s 0 = (rrs s i).map (l ++ ·)
theorem bhp {w : World} {s : ByteArray} (hs : s.size < 100000) {K : KV} (h0 : rrs s 0 = none → ∀ w', Fz w w' → K (.tuple #[.slice none 0 0, .bool false]) w')
  (h1 : ∀ l, rrs s 0 = some l → l.length ≤ s.size → ∀ w' v, OwR w' w.heap.size v l → Fz w w' → K (.tuple #[v, .bool true]) w') : ku P F.dw [.string s] w K := by
 apply M.aq.calls
 unfold M.aq
 rw [ib]
 refine ⟨bpx w s, fun x _ => amf (gv x 5), ⟨0, [], rfl, ?_, Ow.none, Fr.refl _ _, Nat.zero_le _, Nat.le_refl _, by simp⟩, ?_⟩
 ·show Value.string s = _
  unfold lq; simp
 rintro x w1 ⟨i, l, hx, e5, o1, f1, hi, hl, hR⟩
 unfold M.aq.j1
 simp only [ib, e5, bms]
 have hsz := aia s i
 by_cases hlt : i < s.size
 ·have hlt' : (0 : Int) < ((lq s i).size : Int) := by omega
  simp only [sg, hlt', decide_true, Eng.cond_true]
  unfold M.aq.j2
  rw [e5, M.g.fcall]
  refine blc _ ?_
  simp only [aez, afe, ib, uv]
  rw [show rrs s i = _ from rrs.eq_1 s i, dif_pos hlt] at hR
  by_cases h2 : (rr (lq s i)).2 = 0
  ·have h2' : (((rr (lq s i)).2 : Nat) : Int) = 0 := by omega
   simp only [h2', decide_true, Eng.cond_true]
   rw [dif_pos h2] at hR
   exact h0 hR w1 f1
  ·have h2' : ¬ (((rr (lq s i)).2 : Nat) : Int) = 0 := by omega
   simp only [h2', decide_false, Eng.cond_false]
   rw [dif_neg h2] at hR
   have hwd := biv (lq s i)
   unfold M.aq.j3
   simp [e5]
   have fa : Fz w1 (w1.alloc (.cells #[.int .i32 ((rr (lq s i)).1 : Nat)] T.aw)) := (Fr.refl _ w1).alloc _
   have hge := f1.size
   refine rp et.az (fun _ => rfl) (fun x u hu => by simp [big] at hu; subst hu; rfl) (o1.fr fa fun _ _ h => h) (Sl.one (x := (rr (lq s i)).1) rfl rfl) (by simp; omega) (by decide) (by simp; omega) _ fun v' w2 o2 f2 g2 => ?_
   rw [asn (i := (rr (lq s i)).2) ank (.inr ⟨_, rfl⟩) (.inl ⟨rfl, rfl⟩) hwd (Nat.le_refl _)]
   refine ⟨⟨i + (rr (lq s i)).2, l ++ [(rr (lq s i)).1], rfl, ?_, o2, ?_, by omega, by simp; omega, ?_⟩, ?_⟩
   ·show Value.string _ = _
    rw [← bdk]; rfl
   ·refine f1.ll ((fa.mono fun _ _ h => h.elim).trans f2) fun b hb he => ?_
    have := (o1.lt he).1; omega
   ·rw [hR]
    cases rrs s (i + (rr (lq s i)).2) <;> simp
   ·show amf (.string ((lq s i).extract (rr (lq s i)).2 (lq s i).size)) < amf (.string (lq s i))
    simp only [amf, ByteArray.size_extract]
    omega
 ·have hlt' : ¬ (0 : Int) < ((lq s i).size : Int) := by omega
  simp only [sg, hlt', decide_false, Eng.cond_false]
  rw [show rrs s i = _ from rrs.eq_1 s i, dif_neg hlt] at hR
  exact h1 l (by simpa using hR) (by omega) w1 _ o1 f1
def NmI (w : World) (l : List Nat) : KL := fun x w1 => ∃ (u : Value) (i : Nat), x = [u, .int .i64 (i : Nat)] ∧ w1 = w ∧ i ≤ l.length ∧ ∀ j c, l[j]? = some c → j < i → ctl c = false
theorem amx {w : World} (s : ByteArray) {K : KV} (h : ∀ w', Fz w w' → K (.int .i64 (qj s)) w') : ku P F.cv [.string s] w K := by
 apply M.bd.calls
 unfold M.bd
 unfold qj at h
 simp only [ib, bms, lw]
 by_cases h0 : s.size = 0
 ·have : (s.size : Int) < 1 := by omega
  simp [h0] at h ⊢
  exact h w (Fr.refl _ _)
 have h0' : ¬ (s.size : Int) < 1 := by omega
 by_cases h1 : 32 < s.size
 ·have h1' : (32 : Int) < s.size := by omega
  simp [h0, h0', h1, h1'] at h ⊢
  exact h w (Fr.refl _ _)
 have h1' : ¬ (32 : Int) < s.size := by omega
 simp [h0, h0', h1, h1'] at h ⊢
 unfold M.bd.j0
 rw [M.aq.fcall]
 rw [bhr s _ 0 (Nat.le_refl _)] at h
 refine bhp (by omega) (fun hr w1 f1 => ?_) fun l hr hll w1 v o1 f1 => ?_
 ·rw [hr] at h
  simp only [aez, afe, ib]
  refine ⟨fun x w2 => gv x 1 = .int .i64 0 ∧ w2 = w1, fun _ _ => 0, ⟨rfl, rfl⟩, ?_⟩
  rintro x w2 ⟨e1, rfl⟩
  simp [e1]
  have := h w2 f1
  simpa using this
 ·rw [hr] at h
  simp only [aez, afe, ib]
  have hsl : Sl w1 1 big v l := o1.sl fun _ => rfl
  refine ⟨NmI w1 l, fun x _ => l.length - ms x 1, ⟨_, 0, rfl, rfl, Nat.zero_le _, fun j c _ h => by omega⟩, ?_⟩
  rintro x w2 ⟨u, i, rfl, rfl, hi, hall⟩
  have q0 : ∀ a b : Value, gv [a, b] 0 = a := fun _ _ => rfl
  have q1 : ∀ a b : Value, gv [a, b] 1 = b := fun _ _ => rfl
  simp only [q0, q1]
  rw [hsl.ja (by simp)]
  by_cases hil : i < l.length
  ·have hil' : (i : Int) < l.length := by omega
   simp only [lw, hil', decide_true, Eng.cond_true]
   unfold M.bd.j3
   obtain ⟨b, o, cap, rfl, hb, _, hc⟩ := hsl.at hil
   have c0 := hc 0 _ rfl
   simp only [Nat.mul_one, Nat.add_zero] at c0
   generalize hli : l[i] = c at *
   have hgi : l[i]? = some c := by rw [List.getElem?_eq_getElem hil, hli]
   have hw : IntKind.i64.wrap ((i : Int) + 1) = ((i + 1 : Nat) : Int) := by rw [ig]; rfl
   have bad : ctl c = true → K (.int .i64 5) w2 := fun hct => by
    have : (l.all fun c => !ctl c) = false := by
     rw [List.all_eq_false]
     exact ⟨c, List.mem_of_getElem? hgi, by simp [hct]⟩
    have hh := h w2 f1
    simpa [this] using hh
   have aag : ctl c = false → ∀ u, NmI w2 l [u, .int .i64 ((i : Int) + 1)] w2 ∧ l.length - ms [u, .int .i64 ((i : Int) + 1)] 1 < l.length - ms [u, .int .i64 (i : Int)] 1 := fun hct u => by
    refine ⟨⟨u, i + 1, rfl, rfl, by omega, fun j c' hj hlt => ?_⟩, by simp [ms, gv]; omega⟩
    by_cases hji : j = i
    ·subst hji; rw [hgi] at hj; cases hj; exact hct
    ·exact hall j c' hj (by omega)
   by_cases d1 : c < 32
   ·have d1' : (c : Int) < 32 := by omega
    simp [q0, q1, hil, c0, d1']
    exact bad (by simp [ctl, d1])
   have d1' : ¬ (c : Int) < 32 := by omega
   by_cases d2 : 127 ≤ c
   ·have d2' : (127 : Int) ≤ c := by omega
    by_cases d3 : c ≤ 159
    ·have d3' : (c : Int) ≤ 159 := by omega
     simp [q0, q1, hil, c0, d1', d2', d3']
     exact bad (by simp [ctl, d2, d3])
    ·have d3' : ¬ (c : Int) ≤ 159 := by omega
     simp [q0, q1, hil, c0, d1', d2', d3', hw]
     exact aag (by simp [ctl, d1, d3]) _
   ·have d2' : ¬ (127 : Int) ≤ c := by omega
    simp [q0, q1, hil, c0, d1', d2', hw]
    exact aag (by simp [ctl, d1, d2]) _
  ·have hil' : ¬ (i : Int) < l.length := by omega
   simp only [lw, hil', decide_false, Eng.cond_false]
   have : (l.all fun c => !ctl c) = true := by
    rw [List.all_eq_true]
    intro c hc
    obtain ⟨j, hj, rfl⟩ := List.mem_iff_getElem.1 hc
    rw [hall j _ (List.getElem?_eq_getElem hj) (by omega)]; rfl
   simp
   have hh := h w2 f1
   simpa [this] using hh
theorem bpg (a b : Int) : orK [a, b] = if a = 0 then b else a := by
 unfold orK
 by_cases ha : a = 0 <;> by_cases hb : b = 0 <;> simp [List.find?, ha, hb]
theorem avp (s : ByteArray) : qj s = 0 ∨ qj s = 5 := by
 unfold qj
 split
 ·exact .inr rfl
 split
 ·exact .inl rfl
 ·exact .inr rfl
theorem awk {w : World} (s : Spn) {K : KV} (h : ∀ w', Fz w w' → K (.int .i64 (ly s)) w') : ku P F.dv [ki s] w K := by
 apply M.cb.calls
 unfold M.cb
 rw [bkg]
 have hb := bgc w s
 have hf : Fz w (w.alloc (.cells #[.int .u64 s.iu, .int .u64 s.id, .int .u64 s.om, .int .u64 s.ji, .int .u64 s.len, .string s.ke, .string s.name, .bool s.sd] T.e)) := (Fr.refl _ w).alloc _
 generalize w.alloc (.cells #[.int .u64 s.iu, .int .u64 s.id, .int .u64 s.om, .int .u64 s.ji, .int .u64 s.len, .string s.ke, .string s.name, .bool s.sd] T.e) = wa at *
 have c0 := yc hb 0 _ rfl
 have c1 := yc hb 1 _ rfl
 have c3 := yc hb 3 _ rfl
 have c4 := yc hb 4 _ rfl
 have c5 := yc hb 5 _ rfl
 unfold ly at h
 simp only [ib]
 by_cases h0 : s.iu = 0
 ·simp [c0, h0] at h ⊢
  exact h wa hf
 by_cases h1 : s.id = 0
 ·simp [c0, c1, h0, h1] at h ⊢
  exact h wa hf
 by_cases h2 : 1099511627776 < s.ji
 ·have h3 : 1099511627776 < max s.ji s.len := by omega
  simp [c0, c1, c3, h0, h1, h2, h3] at h ⊢
  exact h wa hf
 by_cases h2' : 1099511627776 < s.len
 ·have h3 : 1099511627776 < max s.ji s.len := by omega
  simp [c0, c1, c3, c4, h0, h1, h2, h2', h3] at h ⊢
  exact h wa hf
 have h3 : ¬ 1099511627776 < max s.ji s.len := by omega
 rw [if_neg (by simp [h0, h1, h3]), bpg] at h
 simp [c0, c1, c3, c4, h0, h1, h2, h2']
 unfold M.cb.j0
 simp [c5]
 rw [M.bd.fcall]
 refine amx _ fun w2 f2 => ?_
 have hb2 : asc w2 w.heap.size s := f2.heap hb fun h => h
 have d6 := yc hb2 6 _ rfl
 by_cases n1 : qj s.ke = 0
 ·simp [n1, d6] at h ⊢
  rw [M.bd.fcall]
  refine amx _ fun w3 f3 => ?_
  have hh := h w3 ((hf.trans f2).trans f3)
  rcases avp s.name with n2 | n2
  ·simp [n2] at hh ⊢; exact hh
  ·simp [n2] at hh ⊢; exact hh
 ·have n5 : qj s.ke = 5 := (avp _).resolve_left n1
  have hh := h w2 (hf.trans f2)
  simp [n5] at hh ⊢
  exact hh
def SoI (W : World) (tr : Int) (l : List Spn) : KL := fun x w1 => ∃ (u0 u1 : Value) (i : Nat), x = [u0, u1, .int .i64 (i : Nat)] ∧ i ≤ l.length ∧ th tr [] l = th tr ((l.take i).map Spn.id) (l.drop i) ∧ Fz W w1
def SiI (W : World) (l : List Spn) (i : Nat) (hi : i < l.length) : KL := fun x w1 => ∃ (u : Value) (j : Nat), x = [u, .int .i64 (j : Nat)] ∧ j ≤ i ∧ (∀ k (hk : k < l.length), k < j → l[k].id ≠ l[i].id) ∧ Fz W w1
theorem ahg {w : World} {v : Value} {l : List Spn} {tr : Int} (hs : SlS w v l) (hlen : l.length ≤ 1000000) {K : KV} (h : ∀ w', Fz w w' → K (.bool (ro tr l)) w') : gr P F.cp [.int .u64 tr, v] w K := by
 rw [M.ac.fcall]
 apply M.ac.calls
 unfold M.ac
 simp only [ib]
 have hln : ∀ w' K, biT P .len #[T.b] T.c [false] [v] w' K = K (.int .i64 l.length) w' := fun w' K => hs.ja (by kernel_rfl) [false]
 refine ⟨SoI w tr l, fun x _ => l.length - ms x 2, ⟨_, _, 0, rfl, Nat.zero_le _, by simp, Fr.refl _ _⟩, ?_⟩
 rintro x w1 ⟨u0, u1, i, rfl, hi, hr, f1⟩
 unfold M.ac.j1
 by_cases hil : i < l.length
 ·have hili : (i : Int) < (l.length : Int) := by omega
  have hwi : IntKind.i64.wrap ((i : Int) + 1) = ((i + 1 : Nat) : Int) := by rw [ig]; rfl
  simp [hln, hil]
  unfold M.ac.j2
  obtain ⟨b, o, cap, hv, hb, _, hc⟩ := (hs.fr f1 fun _ _ _ h => h : SlS w1 v l).at hil
  have hia : ∀ w' K, iaT P T.b v (.int .i64 (i : Nat)) w' K = K (.pointer (some ⟨b, o + i * 8, none⟩)) w' := fun w' K => by rw [hv]; simp [hil]
  have hld : ∀ K, ldN P 8 b (o + i * 8) w1 K = K (ki l[i]) w1 := fun K => ldS hc K
  have hdrop : l.drop i = l[i] :: l.drop (i + 1) := List.drop_eq_getElem_cons hil
  rw [hdrop] at hr
  simp [hia, hld]
  rw [M.cb.fcall]
  refine awk l[i] fun w2 f2 => ?_
  have no : ∀ w', Fz w w' → ¬ (ly l[i] = 0 ∧ l[i].iu = tr ∧ l[i].id ∉ (l.take i).map Spn.id) → K (.bool false) w' := fun w' f hn => by
   have := h w' f
   unfold ro at this
   rw [hr, aiw hn] at this
   simpa using this
  have c0 : ic w2 b (o + i * 8) = some (.int .u64 l[i].iu) := by
   have := hc 0 _ rfl
   rw [Nat.add_zero] at this
   rw [sk (f2.kf b hb fun h => h)]; exact this
  by_cases h1 : ly l[i] = 0
  case neg =>
   simp [h1]
   exact no w2 (f1.trans f2) fun hh => h1 hh.1
  by_cases h2 : l[i].iu = tr
  case neg =>
   simp [h1, hia, c0, h2]
   exact no w2 (f1.trans f2) fun hh => h2 hh.2.1
  simp [h1, hia, c0, h2]
  refine ⟨SiI w l i hil, fun x _ => i - ms x 1, ⟨_, 0, rfl, Nat.zero_le _, fun k _ hk => by omega, f1.trans f2⟩, ?_⟩
  rintro x w3 ⟨u, j, rfl, hj, hpre, f3⟩
  have hs3 : SlS w3 v l := hs.fr f3 fun _ _ _ h => h
  by_cases hji : j < i
  ·have hjl : j < l.length := by omega
   have hjii : (j : Int) < (i : Int) := by omega
   have hwj : IntKind.i64.wrap ((j : Int) + 1) = ((j + 1 : Nat) : Int) := by rw [ig]; rfl
   obtain ⟨b1, o1, c1, e1, _, _, k1⟩ := hs3.at hil
   obtain ⟨b2, o2, c2, e2, _, _, k2⟩ := hs3.at hjl
   have i1 : ∀ w' K, iaT P T.b v (.int .i64 (i : Nat)) w' K = K (.pointer (some ⟨b1, o1 + i * 8, none⟩)) w' := fun w' K => by rw [e1]; simp [hil]
   have i2 : ∀ w' K, iaT P T.b v (.int .i64 (j : Nat)) w' K = K (.pointer (some ⟨b2, o2 + j * 8, none⟩)) w' := fun w' K => by rw [e2]; simp [hjl]
   have q1 := k1 1 _ rfl
   have q2 := k2 1 _ rfl
   simp [hjii]
   unfold M.ac.j6
   by_cases he : l[j].id = l[i].id
   ·simp [i1, i2, q1, q2, he]
    refine no _ (f3.dr 1) fun hh => hh.2.2 ?_
    rw [List.mem_map]
    exact ⟨l[j], List.mem_take_iff_getElem.2 ⟨j, by omega, rfl⟩, he⟩
   ·simp [i1, i2, q1, q2, he, hwj]
    refine ⟨⟨_, j + 1, rfl, by omega, fun k hk hkj => ?_, f3.dr 1⟩, by simp [ms, gv]; omega⟩
    by_cases hkj2 : k = j
    ·subst hkj2; exact he
    ·exact hpre k hk (by omega)
  ·have hjii : ¬ (j : Int) < (i : Int) := by omega
   simp [hjii, hwi]
   refine ⟨⟨_, _, i + 1, rfl, by omega, ?_, f3⟩, by simp [ms, gv]; omega⟩
   have hni : l[i].id ∉ (l.take i).map Spn.id := fun hm => by
    obtain ⟨s, hs', hse⟩ := List.mem_map.1 hm
    obtain ⟨k, hk, rfl⟩ := List.mem_take_iff_getElem.1 hs'
    exact hpre k (by omega) (by omega) hse
   rw [hr, abd h1 h2 hni, List.take_add_one, List.map_append, List.getElem?_eq_getElem hil]
   rfl
 ·have hili : ¬ (i : Int) < (l.length : Int) := by omega
  have hr1 : th tr [] l = true := by rw [hr, List.drop_of_length_le (by omega)]; rfl
  simp [hln, hil]
  unfold M.ac.j0
  have fin := h w1 f1
  unfold ro at fin
  rw [hr1] at fin
  by_cases h0 : 0 < l.length
  ·have h0' : (1 : Int) ≤ l.length := by omega
   by_cases h16 : l.length ≤ 16
   ·have h16' : (l.length : Int) ≤ 16 := by omega
    simp [hln, h0', h16']
    simpa [h0, h16] using fin
   ·have h16' : ¬ (l.length : Int) ≤ 16 := by omega
    simp [hln, h0', h16']
    simpa [h0, h16] using fin
  ·have h0' : ¬ (1 : Int) ≤ l.length := by omega
   simp [hln, h0']
   simpa [h0] using fin
def ami (l : List Int) (i : Nat) : Int := match i with
 | 0 => 0
 | i + 1 => l.getD i 0
def RrI (W : World) (l : List Int) : KL := fun x w1 => ∃ (u : Value) (i : Nat), x = [u, .int .i64 (i : Nat)] ∧ i ≤ l.length ∧ si 0 l = si (ami l i) (l.drop i) ∧ Fz W w1
theorem azl {w : World} {v : Value} {l : List Int} (hs : SlU w v l) (hlen : l.length ≤ 1000000) (hid : ∀ m ∈ l, 0 ≤ m) {K : KV} (h : ∀ w', Fz w w' → K (.bool (si 0 l && (decide (0 < l.length) && decide (l.length ≤ 16)))) w') : gr P F.ed [v] w K := by
 rw [M.bo.fcall]
 apply M.bo.calls
 unfold M.bo
 simp only [ib]
 have hln : ∀ w' K, biT P .len #[T.f] T.c [false] [v] w' K = K (.int .i64 l.length) w' := fun w' K => hs.ja (by kernel_rfl) [false]
 refine ⟨RrI w l, fun x _ => l.length - ms x 1, ⟨_, 0, rfl, Nat.zero_le _, rfl, Fr.refl _ _⟩, ?_⟩
 rintro x w1 ⟨u, i, rfl, hi, hr, f1⟩
 by_cases hil : i < l.length
 ·have hili : (i : Int) < (l.length : Int) := by omega
  have hwi : IntKind.i64.wrap ((i : Int) + 1) = ((i + 1 : Nat) : Int) := by rw [ig]; rfl
  simp [hln, hil]
  unfold M.bo.j2
  have hs1 : SlU w1 v l := hs.fr f1 fun _ _ _ h => h
  obtain ⟨b, o, cap, hv, hb, hc⟩ := afc hs1 hil
  have hia : ∀ w' K, iaT P T.f v (.int .i64 (i : Nat)) w' K = K (.pointer (some ⟨b, o + i, none⟩)) w' := fun w' K => by rw [hv]; simp [hil]
  have hdrop : l.drop i = l[i] :: l.drop (i + 1) := List.drop_eq_getElem_cons hil
  rw [hdrop, si] at hr
  have hm0 := hid _ (List.getElem_mem hil)
  have no : ¬ ami l i < l[i] → K (.bool false) (dr w1 1) := fun hn => by
   have := h _ (f1.dr 1)
   rw [hr, decide_eq_false hn] at this
   simpa using this
  have yes : ami l i < l[i] → RrI w l [u, .int .i64 (IntKind.i64.wrap ((i : Int) + 1))] (dr w1 1) ∧ l.length - ms [u, .int .i64 (IntKind.i64.wrap ((i : Int) + 1))] 1 < l.length - ms [u, .int .i64 (i : Nat)] 1 := fun hy => by
   rw [hwi]
   refine ⟨⟨_, i + 1, rfl, by omega, ?_, f1.dr 1⟩, by simp [ms, gv]; omega⟩
   rw [hr, decide_eq_true hy, Bool.true_and]
   show _ = si (l.getD i 0) _
   rw [List.getD_eq_getElem?_getD, List.getElem?_eq_getElem hil]
   rfl
  by_cases hz : l[i] = 0
  ·simp [hia, hc, hz]
   refine no ?_
   rw [hz]
   cases i with
   | zero => simp [ami]
   | succ j =>
    show ¬ l.getD j 0 < 0
    rw [List.getD_eq_getElem?_getD, List.getElem?_eq_getElem (by omega)]
    have := hid _ (List.getElem_mem (show j < l.length by omega))
    simp; exact this
  cases i with
  | zero =>
   have yy := yes (by show 0 < _; omega)
   have hia' : ∀ w' K, iaT P T.f v (.int .i64 0) w' K = K (.pointer (some ⟨b, o + 0, none⟩)) w' := fun w' K => hia w' K
   have hc0 : ic w1 b o = some (.int .u64 l[0]) := hc
   simp [hia', hc0, hz]
   simpa using yy
  | succ j =>
   have hjl : j < l.length := by omega
   obtain ⟨b2, o2, cap2, hv2, hb2, hc2⟩ := afc hs1 hjl
   have hia2 : ∀ w' K, iaT P T.f v (.int .i64 (j : Nat)) w' K = K (.pointer (some ⟨b2, o2 + j, none⟩)) w' := fun w' K => by rw [hv2]; simp [hjl]
   have hwj : IntKind.i64.wrap (((j + 1 : Nat) : Int) - 1) = (j : Int) := by rw [ig]; omega
   have hwj' : IntKind.i64.wrap (j : Int) = (j : Int) := by rw [ig]
   have hpos : (0 : Int) < (j : Int) + 1 := by omega
   have hpos' : (0 : Int) < ((j + 1 : Nat) : Int) := by omega
   have hla : ami l (j + 1) = l[j] := by
    show l.getD j 0 = _
    rw [List.getD_eq_getElem?_getD, List.getElem?_eq_getElem hjl]; rfl
   have hia' : ∀ w' K, iaT P T.f v (.int .i64 ((j : Int) + 1)) w' K = K (.pointer (some ⟨b, o + (j + 1), none⟩)) w' := fun w' K => hia w' K
   by_cases hge : l[j + 1] ≤ l[j]
   ·simp [hia', hc, hz, hpos, hwj', hia2, hc2, hge]
    exact no (by rw [hla]; omega)
   ·have yy := yes (by rw [hla]; omega)
    simp [hia', hc, hz, hpos, hwj', hia2, hc2, hge]
    simpa using yy
 ·have hili : ¬ (i : Int) < (l.length : Int) := by omega
  have hr1 : si 0 l = true := by rw [hr, List.drop_of_length_le (by omega)]; rfl
  simp [hln, hil]
  unfold M.bo.j0
  have fin := h w1 f1
  rw [hr1] at fin
  by_cases h0 : 0 < l.length
  ·have h0' : (1 : Int) ≤ l.length := by omega
   by_cases h16 : l.length ≤ 16
   ·have h16' : (l.length : Int) ≤ 16 := by omega
    simp [hln, h0', h16']
    simpa [h0, h16] using fin
   ·have h16' : ¬ (l.length : Int) ≤ 16 := by omega
    simp [hln, h0', h16']
    simpa [h0, h16] using fin
  ·have h0' : ¬ (1 : Int) ≤ l.length := by omega
   simp [hln, h0']
   simpa [h0] using fin
def amy (ok : Bool) (jr : Bal) (v : Int) : Bool := (decide (v = 0) || (rl v && !(decide (jr = ir)))) && (if ok = true then !(decide (v = 0)) || decide (jr = ir) else decide (v = 0) && !(decide (jr = ir)))
def nh (p : Pk) (ls : List Spn) (lm : List Mem) (lu : List Int) : Bool :=
 if p.ip = 1 ∨ p.ip = 2 then ro p.tr ls else if p.ip = 3 then zx lm else if p.ip = 4 then decide (0 < p.b.n) else if p.ip = 5 then decide (0 < p.b.n) && amy p.ok p.jr p.v else if p.ip = 6 then decide (0 < p.b.n) && rl p.v else if p.ip = 7 then decide (0 < p.b.n) && (p.ok == decide (p.jr = ir)) else if p.ip = 8 then rl p.v else if p.ip = 9 then decide (0 < p.b.n) && ro p.tr ls else if p.ip = 10 then si 0 lu && (decide (0 < lu.length) && decide (lu.length ≤ 16)) else false
def aeb (p : Pk) (ls : List Spn) (lm : List Mem) (lu : List Int) : Bool := qp p (lx p) ls (pu p ls) lm (pw p lm) lu (px p lu)
def tf (p : Pk) (ls : List Spn) (lm : List Mem) (lu : List Int) : Bool := (aeb p ls lm lu && (decide (p.ip = 3) || decide (0 < p.tr))) && nh p ls lm lu
def abv (p : Pk) (ls : List Spn) (lm : List Mem) (lu : List Int) : Int := if tf p ls lm lu = true then 0 else 6
def rm (p : Pk) : Pk := if p.ip = 4 ∨ p.ip = 6 then ⟨if p.v = 0 then 4 else 6, p.tr, p.b, ir, p.v, false, iz, iz, iz⟩ else if p.ip = 5 ∨ p.ip = 7 then ⟨p.ip, p.tr, p.b, p.jr, p.v, p.ok, iz, iz, iz⟩ else lx p
theorem bih {p : Pk} {ls : List Spn} {lm : List Mem} {lu : List Int} (hr : xz p) (hk : 1 ≤ p.ip ∧ p.ip ≤ 10) : (uh p ls lm lu && qp p (rm p) ls (pu p ls) lm (pw p lm) lu (px p lu)) = tf p ls lm lu := by
 have h1 := hr.tr.1
 have h2 := hr.b.1.1
 have core : (uh p ls lm lu && mo p (rm p)) = ((mo p (lx p) && (decide (p.ip = 3) || decide (0 < p.tr))) && nh p ls lm lu) := by
  obtain ⟨k, tr, b, jr, v, ok, sv, mv, iv⟩ := p
  simp only at hk h1 h2
  have hcase : k = 1 ∨ k = 2 ∨ k = 3 ∨ k = 4 ∨ k = 5 ∨ k = 6 ∨ k = 7 ∨ k = 8 ∨ k = 9 ∨ k = 10 := by omega
  rcases hcase with rfl | rfl | rfl | rfl | rfl | rfl | rfl | rfl | rfl | rfl
  ·simp [uh, nh, rm, lx, mo, ahu]
   cases ro tr ls <;> by_cases ht : 0 < tr <;> by_cases hb : b = ir <;> by_cases hs : jr = ir <;> by_cases hv : v = 0 <;> cases ok <;> simp [ht, hb, hs, hv]
  ·simp [uh, nh, rm, lx, mo, ahu]
   cases ro tr ls <;> by_cases ht : 0 < tr <;> by_cases hb : b = ir <;> by_cases hs : jr = ir <;> by_cases hv : v = 0 <;> cases ok <;> simp [ht, hb, hs, hv]
  ·simp [uh, nh, rm, lx, mo]
   cases zx lm <;> by_cases ht : tr = 0 <;> by_cases hb : b = ir <;> by_cases hs : jr = ir <;> by_cases hv : v = 0 <;> cases ok <;> simp [ht, hb, hs, hv]
  ·simp [uh, nh, rm, lx, mo, ass]
   by_cases ht : 0 < tr <;> by_cases hb : 0 < b.n <;> by_cases hs : jr = ir <;> by_cases hv : v = 0 <;> cases ok <;> simp [ht, hb, hs, hv]
  ·simp [uh, nh, rm, lx, mo, aho, amy]
   by_cases ht : tr = 0 <;> by_cases hb : b.n = 0 <;> by_cases hs : jr = ir <;> by_cases hv : v = 0 <;> cases ok <;> cases htl : rl v <;> simp [ht, hb, hs, hv, htl] <;> first | omega | (subst hv; simp [rl] at htl) | skip
  ·simp [uh, nh, rm, lx, mo, ass]
   by_cases ht : 0 < tr <;> by_cases hb : 0 < b.n <;> by_cases hs : jr = ir <;> by_cases hv : v = 0 <;> cases ok <;> simp [ht, hb, hs, hv] <;> first | rfl | (simp [rl]; done) | skip
  ·simp [uh, nh, rm, lx, mo, aho]
   by_cases ht : tr = 0 <;> by_cases hb : b.n = 0 <;> by_cases hs : jr = ir <;> by_cases hv : v = 0 <;> cases ok <;> simp [ht, hb, hs, hv] <;> first | omega | skip
  ·simp [uh, nh, rm, lx, mo, aqx]
   by_cases ht : 0 < tr <;> by_cases hb : b = ir <;> by_cases hs : jr = ir <;> cases ok <;> simp [ht, hb, hs]
  ·simp [uh, nh, rm, lx, mo, ajq]
   cases ro tr ls <;> by_cases ht : 0 < tr <;> by_cases hb : 0 < b.n <;> by_cases hs : jr = ir <;> by_cases hv : v = 0 <;> cases ok <;> simp [ht, hb, hs, hv]
  ·simp [uh, nh, rm, lx, mo, amv]
   cases si 0 lu <;> by_cases ht : 0 < tr <;> by_cases hb : b = ir <;> by_cases hs : jr = ir <;> by_cases hv : v = 0 <;> cases ok <;> simp [ht, hb, hs, hv]
 unfold tf aeb qp
 generalize decide (lm = pw p lm) = A
 generalize decide (lu = px p lu) = B
 generalize sq ls (pu p ls) = C
 cases A <;> cases B <;> cases C <;> simp <;> simpa using core
theorem xw {p q q' : Pk} (h1 : q.ip = q'.ip) (h2 : q.tr = q'.tr) (h3 : q.b = q'.b) (h4 : q.jr = q'.jr) (h5 : q.v = q'.v) (h6 : q.ok = q'.ok) : mo p q = mo p q' := by
 unfold mo; rw [h1, h2, h3, h4, h5, h6]
theorem bcs {w : World} {p : Pk} {ls : List Spn} {lm : List Mem} {lu : List Int} {t : Value} (ht : ThR w p ls lm lu t) (hk : 1 ≤ p.ip ∧ p.ip ≤ 10) (l1 : ls.length ≤ 1000000) (l2 : lm.length ≤ 1000000) (l3 : lu.length ≤ 1000000) {K : KV}
  (h : ∀ w' q, pt w' q (pu p ls) (pw p lm) (px p lu) → (∀ x, mo x q = mo x (rm p)) → Fz w w' → K (pkA q) w') : gr P F.ax [t] w K := by
 have e0 : ([] : List Spn).length ≤ 1000000 := by simp
 have e1 : ([] : List Mem).length ≤ 1000000 := by simp
 have e2 : ([] : List Int).length ≤ 1000000 := by simp
 cases ht with
 | oh v q hs =>
  have hS : pu p ls = ls := by unfold pu; rw [if_pos (by omega)]
  have hM : pw p lm = [] := by unfold pw; rw [if_neg (by omega)]
  have hU : px p lu = [] := by unfold px; rw [if_neg (by omega)]
  rw [hS, hM, hU] at h
  refine anf hs l1 fun w' v' s f => h w' _ ⟨s, Sl.nil, Sl.nil, l1, e1, e2⟩ (fun x => xw ?_ ?_ ?_ ?_ ?_ ?_) f
  all_goals rcases q with q | q <;> simp [rm, lx, q]
 | ahn v q hs =>
  have hS : pu p ls = [] := by unfold pu; rw [if_neg (by omega)]
  have hM : pw p lm = lm := by unfold pw; rw [if_pos (by omega)]
  have hU : px p lu = [] := by unfold px; rw [if_neg (by omega)]
  rw [hS, hM, hU] at h
  refine bbb hs l2 fun w' v' s f => h w' ⟨3, 0, ir, ir, 0, false, iz, v', iz⟩ ⟨Sl.nil, s, Sl.nil, e0, l2, e2⟩ (fun x => xw ?_ ?_ ?_ ?_ ?_ ?_) f
  all_goals simp [rm, lx, q]
 | ask q =>
  have hS : pu p ls = [] := by unfold pu; rw [if_neg (by omega)]
  have hM : pw p lm = [] := by unfold pw; rw [if_neg (by omega)]
  have hU : px p lu = [] := by unfold px; rw [if_neg (by omega)]
  rw [hS, hM, hU] at h
  refine arb fun w' f => h w' _ ⟨Sl.nil, Sl.nil, Sl.nil, e0, e1, e2⟩ (fun x => xw ?_ ?_ ?_ ?_ ?_ ?_) f
  all_goals rcases q with q | q <;> simp [rm, bgn, q]
 | zv q =>
  have hS : pu p ls = [] := by unfold pu; rw [if_neg (by omega)]
  have hM : pw p lm = [] := by unfold pw; rw [if_neg (by omega)]
  have hU : px p lu = [] := by unfold px; rw [if_neg (by omega)]
  rw [hS, hM, hU] at h
  refine aob fun w' f => h w' _ ⟨Sl.nil, Sl.nil, Sl.nil, e0, e1, e2⟩ (fun x => xw ?_ ?_ ?_ ?_ ?_ ?_) f
  all_goals rcases q with q | q <;> simp [rm, q]
 | wt q =>
  have hS : pu p ls = [] := by unfold pu; rw [if_neg (by omega)]
  have hM : pw p lm = [] := by unfold pw; rw [if_neg (by omega)]
  have hU : px p lu = [] := by unfold px; rw [if_neg (by omega)]
  rw [hS, hM, hU] at h
  refine apz fun w' f => h w' _ ⟨Sl.nil, Sl.nil, Sl.nil, e0, e1, e2⟩ (fun x => xw ?_ ?_ ?_ ?_ ?_ ?_) f
  all_goals simp [rm, lx, q]
 | xi v q hs =>
  have hS : pu p ls = ls := by unfold pu; rw [if_pos (by omega)]
  have hM : pw p lm = [] := by unfold pw; rw [if_neg (by omega)]
  have hU : px p lu = [] := by unfold px; rw [if_neg (by omega)]
  rw [hS, hM, hU] at h
  refine ame hs l1 fun w' v' s f => h w' _ ⟨s, Sl.nil, Sl.nil, l1, e1, e2⟩ (fun x => xw ?_ ?_ ?_ ?_ ?_ ?_) f
  all_goals simp [rm, lx, q]
 | zy v q hs =>
  have hS : pu p ls = [] := by unfold pu; rw [if_neg (by omega)]
  have hM : pw p lm = [] := by unfold pw; rw [if_neg (by omega)]
  have hU : px p lu = lu := by unfold px; rw [if_pos (by omega)]
  rw [hS, hM, hU] at h
  refine aom hs l3 fun w' v' s f => h w' _ ⟨Sl.nil, Sl.nil, s, e0, e1, l3⟩ (fun x => xw ?_ ?_ ?_ ?_ ?_ ?_) f
  all_goals simp [rm, lx, q]
 | none q => exact absurd hk q
theorem bcy {p : Pk} {ls : List Spn} {lm : List Mem} {lu : List Int} (h : ¬ (1 ≤ p.ip ∧ p.ip ≤ 10)) : tf p ls lm lu = false := by
 unfold tf nh
 rw [if_neg (by omega), if_neg (by omega), if_neg (by omega), if_neg (by omega), if_neg (by omega), if_neg (by omega), if_neg (by omega), if_neg (by omega), if_neg (by omega), Bool.and_false]
theorem ahw {w : World} {p : Pk} {ls : List Spn} {lm : List Mem} {lu : List Int} (hp : pt w p ls lm lu) (hr : xz p) {K : KV} (h : ∀ w', Fz w w' → K (.int .i64 (abv p ls lm lu)) w') : gr P F.el [pkA p] w K := by
 rw [M.ej.fcall]
 apply M.ej.calls
 unfold M.ej
 refine St.td (St.ji w) fun pb w1 S1 => ?_
 have S1' : St w w1 (im pb (pkC p).toArray T.a :: []) := S1
 have pl := fun K => vk S1' K
 simp [pl]
 refine aov (hp.fr S1.fr) fun w2 t ht _ f2 => ?_
 have S2 := S1'.jl f2
 have S3 := S2.jl ((Fr.refl _ w2).dr 1)
 unfold abv at h
 by_cases hk : 1 ≤ p.ip ∧ p.ip ≤ 10
 case neg =>
  rw [ht.bos hk]
  rw [bcy hk] at h
  simp [bjw]
  exact h _ S3.fr
 rw [← bih hr hk] at h
 simp [ht.eqn hk]
 have ht3 := ht.fr ((Fr.refl _ w2).dr 1)
 refine bkt ht3 hk hp.ls hp.lm hp.lu fun w4 f4 => ?_
 have S4 := S3.jl f4
 have pl4 := fun K => vk S4 K
 cases hb : uh p ls lm lu with
 | false =>
  rw [hb] at h
  simp
  exact h _ S4.fr
 | true =>
 rw [hb, Bool.true_and] at h
 simp [pl4]
 refine bcs (ht3.fr f4) hk hp.ls hp.lm hp.lu fun w5 q hq hf f5 => ?_
 have S5 := S4.jl f5
 have pl5 := fun K => vk S5 K
 simp [pl5]
 refine bir (hp.fr S5.fr) hq fun w6 f6 => ?_
 have S6 := S5.jl f6
 have fin := h w6 S6.fr
 have e : qp p q ls (pu p ls) lm (pw p lm) lu (px p lu) = qp p (rm p) ls (pu p ls) lm (pw p lm) lu (px p lu) := by unfold qp; rw [hf p]
 rw [e]
 generalize qp p (rm p) ls (pu p ls) lm (pw p lm) lu (px p lu) = bb at *
 cases bb with
 | true => simp at fin ⊢; exact fin
 | false => simp at fin ⊢; exact fin
theorem bgq {w : World} {p : Pk} {ls : List Spn} {lm : List Mem} {lu : List Int} (hp : pt w p ls lm lu) (hr : xz p) {K : KV} (h1 : tf p ls lm lu = true → ∀ w' t, ThR w' p ls lm lu t → aku w t → Fz w w' → K (.tuple #[t, .int .i64 0]) w') (h0 : tf p ls lm lu = false → ∀ w', Fz w w' → K (.tuple #[.nilIface, .int .i64 6]) w') : gr P F.fj [pkA p] w K := by
 rw [M.ez.fcall]
 apply M.ez.calls
 unfold M.ez
 refine St.td (St.ji w) fun pb w1 S1 => ?_
 have S1' : St w w1 (im pb (pkC p).toArray T.a :: []) := S1
 have pl := fun K => vk S1' K
 simp [pl]
 refine ahw (hp.fr S1.fr) hr fun w2 f2 => ?_
 have S2 := S1'.jl f2
 unfold abv
 cases he : tf p ls lm lu with
 | false =>
  simp
  exact h0 he w2 S2.fr
 | true =>
  simp
  have pl2 := fun K => vk S2 K
  simp [pl2]
  refine aov (hp.fr S2.fr) fun w3 t ht ho f3 => ?_
  exact h1 he w3 t ht (ho.mono S2.fr.size) (S2.jl f3).fr
theorem afg {x : Int} (h : 0 ≤ x) : decide (0 < x) = !decide (x = 0) := by
 by_cases hx : x = 0
 ·simp [hx]
 ·have : 0 < x := by omega
  simp [hx, this]
theorem bka {v : Int} : rl v = (decide (1 ≤ v) && decide (v ≤ 3)) := by unfold rl; simp
theorem aqg {w : World} {p : Pk} {ls : List Spn} {lm : List Mem} {lu : List Int} (hp : pt w p ls lm lu) (hr : xz p) (hm : ∀ m ∈ lm, 0 ≤ m.id) (hu : ∀ m ∈ lu, 0 ≤ m) {K : KV} (h : ∀ w', Fz w w' → K (.int .i64 (abv p ls lm lu)) w') : gr P F.ds [pkA p] w K := by
 rw [M.az.fcall]
 apply M.az.calls
 unfold M.az
 refine St.td (St.ji w) fun pb w1 S1 => ?_
 have S1' : St w w1 (im pb (pkC p).toArray T.a :: []) := S1
 obtain ⟨_, _, _, c4, _⟩ := jo S1'
 have S1d := S1'.jl ((Fr.refl _ w1).dr 1)
 have pl := fun K => vk S1d K
 simp [c4, bov, wu, pl]
 refine bju (hp.fr S1d.fr) fun w2 f2 => ?_
 have S2 := S1d.jl f2
 have pl2 := fun K => vk S2 K
 simp [pl2]
 refine ahp (hp.fr S2.fr) (axr (hp.fr S2.fr)) fun w3 f3 => ?_
 have S3 := S2.jl f3
 obtain ⟨c0, c1, c2, c4, c6, c7, c8, c9, c10, _⟩ := jo S3
 have hbn : ic w3 pb 2 = some (.int .u64 p.b.n) := by rw [S3.cell]; rfl
 have hp3 := hp.fr S3.fr
 show _
 have eB : qp p (lx p) ls (pu p ls) lm (pw p lm) lu (px p lu) = aeb p ls lm lu := rfl
 rw [eB]
 have h1 := hr.tr.1
 have h2 := hr.b.1.1
 unfold abv tf at h
 rw [afg h1] at h
 have hbo : agi P T.au = true := by kernel_rfl
 -- the wt of its verdict
 have main : ∀ (B : Bool), B = (aeb p ls lm lu && (decide (p.ip = 3) || !decide (p.tr = 0))) → ∀ (K0 : KL), (∀ (v0 v1 : Value) (r : List Value) (w4 : World), Fz w w4 → K0 (v0 :: v1 :: .bool (B && nh p ls lm lu) :: r) w4) →
   ∀ t33 x1, t33 = .int .i64 p.ip → x1 = [.bool (decide (p.ip = 1) || decide (p.ip = 2))] → M.az.j1 x1 (.bool B) (.pointer (some ⟨pb, 0, none⟩)) K0 t33 (.bool (rl p.v)) (.bool (decide (p.jr = ir))) w3 K := by
  intro B eB K0 hK t33 x1 e33 ex
  subst e33 ex
  unfold M.az.j1
  have fin := fun v0 v1 r => hK v0 v1 r w3 S3.fr
  by_cases q12 : p.ip = 1 ∨ p.ip = 2
  ·have hk : nh p ls lm lu = ro p.tr ls := by unfold nh; rw [if_pos q12]
   rw [hk] at hK fin
   have hd : (decide (p.ip = 1) || decide (p.ip = 2)) = true := by simpa using q12
   rw [hd]
   cases B with
   | false => simp at fin ⊢; exact fin _ _ _
   | true =>
    simp [c1, c8]
    refine ahg hp3.s hp.ls fun w4 f4 => ?_
    exact hK _ _ _ w4 (S3.fr.trans f4)
  have n1 : ¬ p.ip = 1 := fun h => q12 (.inl h)
  have n2 : ¬ p.ip = 2 := fun h => q12 (.inr h)
  by_cases q3 : p.ip = 3
  ·have hk : nh p ls lm lu = zx lm := by unfold nh; rw [if_neg q12, if_pos q3]
   rw [hk] at hK fin
   cases B with
   | false => simp [n1, n2, q3] at fin ⊢; exact fin _ _ _
   | true =>
    simp [q3, c9]
    refine aqf hp3.m hp.lm hm fun w4 f4 => ?_
    exact hK _ _ _ w4 (S3.fr.trans f4)
  by_cases q4 : p.ip = 4
  ·have hk : nh p ls lm lu = !decide (p.b.n = 0) := by unfold nh; rw [if_neg q12, if_neg q3, if_pos q4, afg h2]
   rw [hk] at hK fin
   cases B with
   | false => simp [n1, n2, q3, q4] at fin ⊢; exact fin _ _ _
   | true => simp [q4, hbn] at fin ⊢; exact fin _ _ _
  by_cases q5 : p.ip = 5
  ·have hk : nh p ls lm lu = (!decide (p.b.n = 0) && amy p.ok p.jr p.v) := by unfold nh; rw [if_neg q12, if_neg q3, if_neg q4, if_pos q5, afg h2]
   rw [hk] at hK fin
   unfold amy at fin
   cases B with
   | false => cases hok : p.ok <;> simp [n1, n2, q3, q4, q5, c7, hok] at fin ⊢ <;> exact fin _ _ _
   | true =>
    cases hok : p.ok <;> cases htl : rl p.v <;> by_cases hb : p.b.n = 0 <;> by_cases hv : p.v = 0 <;> by_cases hs : p.jr = ir <;> simp [q5, hbn, c7, c6, hok, htl, hb, hv, hs] at fin ⊢ <;> exact fin _ _ _
  by_cases q6 : p.ip = 6
  ·have hk : nh p ls lm lu = (!decide (p.b.n = 0) && rl p.v) := by unfold nh; rw [if_neg q12, if_neg q3, if_neg q4, if_neg q5, if_pos q6, afg h2]
   rw [hk] at hK fin
   cases B with
   | false => simp [n1, n2, q3, q4, q5, q6] at fin ⊢; exact fin _ _ _
   | true => by_cases hb : p.b.n = 0 <;> simp [q6, hbn, hb] at fin ⊢ <;> exact fin _ _ _
  by_cases q7 : p.ip = 7
  ·have hk : nh p ls lm lu = (!decide (p.b.n = 0) && (p.ok == decide (p.jr = ir))) := by unfold nh; rw [if_neg q12, if_neg q3, if_neg q4, if_neg q5, if_neg q6, if_pos q7, afg h2]
   rw [hk] at hK fin
   cases B with
   | false => simp [n1, n2, q3, q4, q5, q6, q7] at fin ⊢; exact fin _ _ _
   | true => by_cases hb : p.b.n = 0 <;> simp [q7, hbn, hb, c7, agd hbo] at fin ⊢ <;> exact fin _ _ _
  by_cases q8 : p.ip = 8
  ·have hk : nh p ls lm lu = rl p.v := by unfold nh; rw [if_neg q12, if_neg q3, if_neg q4, if_neg q5, if_neg q6, if_neg q7, if_pos q8]
   rw [hk] at hK fin
   cases B with
   | false => simp [n1, n2, q3, q4, q5, q6, q7, q8] at fin ⊢; exact fin _ _ _
   | true => simp [q8] at fin ⊢; exact fin _ _ _
  by_cases q9 : p.ip = 9
  ·have hk : nh p ls lm lu = (!decide (p.b.n = 0) && ro p.tr ls) := by unfold nh; rw [if_neg q12, if_neg q3, if_neg q4, if_neg q5, if_neg q6, if_neg q7, if_neg q8, if_pos q9, afg h2]
   rw [hk] at hK fin
   cases B with
   | false => simp [n1, n2, q3, q4, q5, q6, q7, q8, q9] at fin ⊢; exact fin _ _ _
   | true =>
    by_cases hb : p.b.n = 0
    ·simp [q9, hbn, hb] at fin ⊢; exact fin _ _ _
    ·simp [q9, hbn, hb, c1, c8]
     refine ahg hp3.s hp.ls fun w4 f4 => ?_
     have fin4 := fun v0 v1 r => hK v0 v1 r w4 (S3.fr.trans f4)
     simp [hb] at fin4 ⊢
     exact fin4 _ _ _
  by_cases q10 : p.ip = 10
  ·have hk : nh p ls lm lu = (si 0 lu && (decide (0 < lu.length) && decide (lu.length ≤ 16))) := by unfold nh; rw [if_neg q12, if_neg q3, if_neg q4, if_neg q5, if_neg q6, if_neg q7, if_neg q8, if_neg q9, if_pos q10]
   rw [hk] at hK fin
   cases B with
   | false => simp [n1, n2, q3, q4, q5, q6, q7, q8, q9, q10] at fin ⊢; exact fin _ _ _
   | true =>
    simp [q10, c10]
    refine azl hp3.u hp.lu hu fun w4 f4 => ?_
    exact hK _ _ _ w4 (S3.fr.trans f4)
  ·have hk : nh p ls lm lu = false := by unfold nh; rw [if_neg q12, if_neg q3, if_neg q4, if_neg q5, if_neg q6, if_neg q7, if_neg q8, if_neg q9, if_neg q10]
   rw [hk, Bool.and_false] at fin
   simp [n1, n2, q3, q4, q5, q6, q7, q8, q9, q10]
   exact fin _ _ _
 have fin : ∀ w4, Fz w w4 → K (.int .i64 (if (((aeb p ls lm lu && (decide (p.ip = 3) || !decide (p.tr = 0))) && nh p ls lm lu) = true) then 0 else 6)) w4 := h
 have m2 := main _ rfl
 have tl : rl p.v = (decide (1 ≤ p.v) && decide (p.v ≤ 3)) := bka
 generalize aeb p ls lm lu = E at *
 have m3 := fun e K0 hK t33 x1 a b => main (E && (decide (p.ip = 3) || !decide (p.tr = 0))) e K0 hK t33 x1 a b
 have m4 := m3 rfl
 have tailK : ∀ (X : Bool) (w4 : World), X = ((E && (decide (p.ip = 3) || !decide (p.tr = 0))) && nh p ls lm lu) → Fz w w4 → (unT P .not (.bool X) w4 fun t162 w => ia t162 (K (.int .i64 6) w) (K (.int .i64 0) w)) := fun X w4 e f => by
  have := fin w4 f
  rw [← e] at this
  cases X with
  | true => simp at this ⊢; exact this
  | false => simp at this ⊢; exact this
 have fork : M.az.j1 [.bool (decide (p.ip = 1) || decide (p.ip = 2))] (.bool (E && (decide (p.ip = 3) || !decide (p.tr = 0)))) (.pointer (some ⟨pb, 0, none⟩)) (fun x0 w => unT P .not (gv x0 2) w fun t162 w => ia t162 (K (.int .i64 6) w) (K (.int .i64 0) w)) (.int .i64 p.ip) (.bool (rl p.v)) (.bool (decide (p.jr = ir))) w3 K :=
  m4 _ (fun v0 v1 r w4 f4 => tailK _ w4 rfl f4) _ _ rfl rfl
 clear main m3 m4 m2
 have tl1 : ∀ {Q : Value → World → Prop}, Q (.bool (rl p.v)) w3 → (ik P .geq T.q (.tmp 25) (.const (.int .i64 1)) (.int .i64 p.v) (.int .i64 1) w3 fun t26 w => gq (isB t26 true) (fun K' => K' (.pointer (some ⟨pb, 6, none⟩)) w) w fun t28 w => gq (isB t26 true) (fun K' => ldT P T.q t28 w K') w fun t29 w => gq (isB t26 true) (fun K' => ik P .leq T.q (.tmp 29) (.const (.int .i64 3)) t29 (.int .i64 3) w K') w fun t30 w => il t26 t30 (.bool false) w Q) := fun {Q} hQ => by
  rw [tl] at hQ
  by_cases v1 : 1 ≤ p.v
  ·by_cases v3 : p.v ≤ 3
   ·simp [v1, v3, c6] at hQ ⊢; exact hQ
   ·simp [v1, v3, c6] at hQ ⊢; exact hQ
  ·simp [v1] at hQ ⊢; exact hQ
 have go : (ik P .geq T.q (.tmp 25) (.const (.int .i64 1)) (.int .i64 p.v) (.int .i64 1) w3 fun t26 w => gq (isB t26 true) (fun K' => K' (.pointer (some ⟨pb, 6, none⟩)) w) w fun t28 w => gq (isB t26 true) (fun K' => ldT P T.q t28 w K') w fun t29 w => gq (isB t26 true) (fun K' => ik P .leq T.q (.tmp 29) (.const (.int .i64 3)) t29 (.int .i64 3) w K') w fun t30 w => il t26 t30 (.bool false) w fun t31 w =>
   ldT P T.c (.pointer (some ⟨pb, 0, none⟩)) w fun t33 w => ik P .eql T.c (.tmp 33) (.const (.int .i64 1)) t33 (.int .i64 1) w fun t35 w =>
   ia t35 (M.az.j1 [t35] (.bool (E && (decide (p.ip = 3) || !decide (p.tr = 0)))) (.pointer (some ⟨pb, 0, none⟩)) (fun x0 w => unT P .not (gv x0 2) w fun t162 w => ia t162 (K (.int .i64 6) w) (K (.int .i64 0) w)) t33 t31 (.bool (decide (p.jr = ir))) w K)
    (ik P .eql T.c (.tmp 33) (.const (.int .i64 2)) t33 (.int .i64 2) w fun t36 w => M.az.j1 [t36] (.bool (E && (decide (p.ip = 3) || !decide (p.tr = 0)))) (.pointer (some ⟨pb, 0, none⟩)) (fun x0 w => unT P .not (gv x0 2) w fun t162 w => ia t162 (K (.int .i64 6) w) (K (.int .i64 0) w)) t33 t31 (.bool (decide (p.jr = ir))) w K)) := by
  refine tl1 ?_
  simp [c0]
  by_cases k1 : p.ip = 1
  ·simp [k1] at fork ⊢; exact fork
  ·simp [k1] at fork ⊢; exact fork
 clear fork tl1
 cases E with
 | false =>
  simp [c6] at go ⊢
  exact go
 | true =>
  by_cases k3 : p.ip = 3
  ·simp [c0, c6, k3] at go ⊢
   exact go
  ·simp [c0, c1, c6, k3] at go ⊢
   exact go
structure ahj (ls : List Spn) (lm : List Mem) (lu : List Int) : Prop where
 s : ls.length ≤ 40
 m : lm.length ≤ 100
 u : lu.length ≤ 100
 nm : ∀ x ∈ ls, x.name.size ≤ 200 ∧ x.ke.size ≤ 200
theorem aaw.aqu {w : World} {p : Pk} {ls : List Spn} {lm : List Mem} {lu : List Int} (h : aaw w p ls lm lu) (l : ahj ls lm lu) : pt w p ls lm lu := h.rd (by have := l.s; omega) (by have := l.m; omega) (by have := l.u; omega)
def LiI (W : World) (pb : Nat) (p : Pk) (ls : List Spn) : KL := fun x w1 => ∃ (u : Value) (i : Nat), x = [u, .int .i64 (i : Nat)] ∧ i ≤ ls.length ∧ (∀ j (h : j < ls.length), j < i → ls[j].name.size ≤ 200 ∧ ls[j].ke.size ≤ 200) ∧ St W w1 (im pb (pkC p).toArray T.a :: [])
theorem bbs {w : World} {p : Pk} {ls : List Spn} {lm : List Mem} {lu : List Int} (hp : aaw w p ls lm lu) {K : KV} (h : ∀ bb w', (bb = true → ahj ls lm lu) → Fz w w' → K (.bool bb) w') : gr P F.dm [pkA p] w K := by
 rw [M.be.fcall]
 apply M.be.calls
 unfold M.be
 refine St.td (St.ji w) fun pb w1 S1 => ?_
 have S1' : St w w1 (im pb (pkC p).toArray T.a :: []) := S1
 obtain ⟨_, _, _, _, _, _, c8, c9, c10, _⟩ := jo S1'
 have l1 : ∀ w' K, biT P .len #[T.b] T.c [false] [p.sv] w' K = K (.int .i64 ls.length) w' := fun w' K => hp.s.ja (by kernel_rfl) [false]
 have l2 : ∀ w' K, biT P .len #[T.k] T.c [false] [p.mv] w' K = K (.int .i64 lm.length) w' := fun w' K => hp.m.ja (by kernel_rfl) [false]
 have l3 : ∀ w' K, biT P .len #[T.f] T.c [false] [p.iv] w' K = K (.int .i64 lu.length) w' := fun w' K => hp.u.ja (by kernel_rfl) [false]
 have no : ∀ w', Fz w w' → K (.bool false) w' := fun w' f => h false w' (fun h => by cases h) f
 by_cases h1 : 40 < ls.length
 ·have h1' : (40 : Int) < ls.length := by omega
  simp [c8, l1, h1']
  exact no _ S1.fr
 have h1' : ¬ (40 : Int) < ls.length := by omega
 by_cases h2 : 100 < lm.length
 ·have h2' : (100 : Int) < lm.length := by omega
  simp [c8, l1, h1', c9, l2, h2']
  exact no _ S1.fr
 have h2' : ¬ (100 : Int) < lm.length := by omega
 by_cases h3 : 100 < lu.length
 ·have h3' : (100 : Int) < lu.length := by omega
  simp [c8, l1, h1', c9, l2, h2', c10, l3, h3']
  exact no _ S1.fr
 have h3' : ¬ (100 : Int) < lu.length := by omega
 simp [c8, l1, h1', c9, l2, h2', c10, l3, h3']
 refine ⟨LiI w pb p ls, fun x _ => ls.length - ms x 1, ⟨_, 0, rfl, Nat.zero_le _, fun j _ h => by omega, S1'⟩, ?_⟩
 rintro x w2 ⟨u, i, rfl, hi, hpre, S2⟩
 unfold M.be.j2
 obtain ⟨_, _, _, _, _, _, c8, _⟩ := jo S2
 by_cases hil : i < ls.length
 ·have hili : (i : Int) < (ls.length : Int) := by omega
  have hwi : IntKind.i64.wrap ((i : Int) + 1) = ((i + 1 : Nat) : Int) := by rw [ig]; rfl
  obtain ⟨b, o, cap, hv, _, _, k1⟩ := (hp.fr S2.fr).s.at hil
  have hia : ∀ w' K, iaT P T.b p.sv (.int .i64 (i : Nat)) w' K = K (.pointer (some ⟨b, o + i * 8, none⟩)) w' := fun w' K => by rw [hv]; simp [hil]
  have n6 := k1 6 _ rfl
  have n5 := k1 5 _ rfl
  have lstr : ∀ (s : ByteArray) w' K, biT P .len #[T.ag] T.c [false] [.string s] w' K = K (.int .i64 s.size) w' := fun s w' K => ayi (by kernel_rfl) [false] s w' K
  simp [c8, l1, hil]
  unfold M.be.j3
  by_cases q1 : 200 < ls[i].name.size
  ·have q1' : (200 : Int) < (ls[i].name.size : Int) := by omega
   simp [c8, hia, n6, lstr, q1']
   exact no _ S2.fr
  have q1' : ¬ (200 : Int) < (ls[i].name.size : Int) := by omega
  by_cases q2 : 200 < ls[i].ke.size
  ·have q2' : (200 : Int) < (ls[i].ke.size : Int) := by omega
   simp [c8, hia, n6, n5, lstr, q1', q2']
   exact no _ S2.fr
  have q2' : ¬ (200 : Int) < (ls[i].ke.size : Int) := by omega
  simp [c8, hia, n6, n5, lstr, q1', q2', hwi]
  refine ⟨⟨_, i + 1, rfl, by omega, fun j hj hlt => ?_, S2⟩, by simp [ms, gv]; omega⟩
  by_cases hji : j = i
  ·subst hji; omega
  ·exact hpre j hj (by omega)
 ·have hili : ¬ (i : Int) < (ls.length : Int) := by omega
  simp [c8, l1, hil]
  refine h true _ (fun _ => ⟨by omega, by omega, by omega, fun x hx => ?_⟩) S2.fr
  obtain ⟨j, hj, rfl⟩ := List.getElem_of_mem hx
  exact hpre j hj (by omega)
section
variable {i : Nat} {g : Nat → Rg} {val jk : Nat → Int} {prop : Nat → Prop} {tk : List (Nat × Nat)}
end
open Go.Eng Go.Proofs.YtfnhoaemapheoaaGreat.Sint
section
variable {s f : Int} {L : Lg} {F : Nat} {D : Dk} {m : ado}
end
theorem bqj (a b c d e : Int) (w : World) (K : KV) : kg P T.be #[(0, .int .u64 a), (1, .int .u64 b), (2, .int .u64 c), (3, .int .u64 d), (4, .int .u64 e)] w K = K (.agg #[.int .u64 a, .int .u64 b, .int .u64 c, .int .u64 d, .int .u64 e]) w := kr
theorem bnx (a b c d e : Value) (w : World) (K : KV) : ixT P T.be (.agg #[a, b, c, d, e]) (.int .i64 0) w K = K a w := kr
theorem bnu (a b c d e : Value) (w : World) (K : KV) : ixT P T.be (.agg #[a, b, c, d, e]) (.int .i64 1) w K = K b w := kr
theorem bom (a b c d e : Value) (w : World) (K : KV) : ixT P T.be (.agg #[a, b, c, d, e]) (.int .i64 2) w K = K c w := kr
theorem bot (a b c d e : Value) (w : World) (K : KV) : ixT P T.be (.agg #[a, b, c, d, e]) (.int .i64 3) w K = K d w := kr
theorem bog (a b c d e : Value) (w : World) (K : KV) : ixT P T.be (.agg #[a, b, c, d, e]) (.int .i64 4) w K = K e w := kr
theorem ags : ∀ l : List Int, (l.flatMap mh).length = l.length * 8
 | [] => rfl
 | x :: l => by rw [List.flatMap_cons, List.length_append, mj, ags l, List.length_cons]; omega
section
variable {w0 w : World} {R : List Asn}
theorem bnc (a b c d e : Int) {i : Nat} (hi : i < 5) (w : World) (K : KV) : ixT P T.be (.agg #[.int .u64 a, .int .u64 b, .int .u64 c, .int .u64 d, .int .u64 e]) (.int .i64 (i : Nat)) w K = K (.int .u64 ([a, b, c, d, e][i]'hi)) w := by
 match i, hi with
 | 0, _ => exact bnx _ _ _ _ _ _ _
 | 1, _ => exact bnu _ _ _ _ _ _ _
 | 2, _ => exact bom _ _ _ _ _ _ _
 | 3, _ => exact bot _ _ _ _ _ _ _
 | 4, _ => exact bog _ _ _ _ _ _ _
end
def aef (b : Bool) : Int := if b = true then 1 else 0
def xj (s : ByteArray) : List Int := (s.size : Int) :: zl s
def wq (s : Spn) : List Int := [s.iu, s.id, s.om, s.ji, s.len]
def pz (s : Spn) : List Int := (wq s).flatMap mh ++ [aef s.sd] ++ xj s.ke ++ xj s.name
theorem aii {s : Spn} (h : ly s = 0) : s.ke.size ≤ 32 ∧ s.name.size ≤ 32 := by
 unfold ly at h
 split at h
 ·cases h
 ·unfold orK at h
  have hn : ∀ b : ByteArray, qj b = 0 → b.size ≤ 32 := fun b hb => by
   unfold qj at hb
   split at hb
   ·cases hb
   ·rename_i hh
    have := not_or.1 hh
    omega
  by_cases ha : qj s.ke = 0
  ·by_cases hb : qj s.name = 0
   ·exact ⟨hn _ ha, hn _ hb⟩
   ·simp [ha, hb] at h
  ·simp [ha] at h
def P5I (w0 : World) (s : Spn) (l : List Int) (R : List Asn) : KL := fun x w1 => ∃ (u v : Value) (i : Nat), x = [u, v, .int .i64 (i : Nat)] ∧ i ≤ 5 ∧ St w0 w1 (kw v (l ++ ((wq s).take i).flatMap mh) :: R)
def P2I (w0 : World) (s : Spn) (l : List Int) (R : List Asn) : KL := fun x w1 => ∃ (u v : Value) (i : Nat), x = [u, v, .int .i64 (i : Nat)] ∧ i ≤ 2 ∧ St w0 w1 (kw v (l ++ (([s.ke, s.name] : List ByteArray).take i).flatMap xj) :: R)
theorem bnv (a b : ByteArray) (w : World) (K : KV) : kg P T.bi #[(0, .string a), (1, .string b)] w K = K (.agg #[.string a, .string b]) w := kr
theorem bol (a b : Value) (w : World) (K : KV) : ixT P T.bi (.agg #[a, b]) (.int .i64 0) w K = K a w := kr
theorem bod (a b : Value) (w : World) (K : KV) : ixT P T.bi (.agg #[a, b]) (.int .i64 1) w K = K b w := kr
section
variable {w0 w : World} {R : List Asn}
theorem bba (S : St w0 w R) {v : Value} {l : List Int} (hs : ∀ w' L, St w0 w' (L ++ R) → SlB w' v l) (hl : l.length ≤ 10000000) {s : Spn} (hr : ly s = 0) {K : KV} (h : ∀ w' v', St w0 w' (kw v' (l ++ pz s) :: R) → K (.tuple #[v', .int .i64 0]) w') : gr P F.fx [v, ki s] w K := by
 obtain ⟨n1, n2⟩ := aii hr
 rw [M.cj.fcall]
 apply M.cj.calls
 unfold M.cj
 refine St.td S fun b w1 S1 => ?_
 have S1' : St w0 w1 (im b (iy s).toArray T.e :: R) := S1
 have cl : ∀ {w' : World} {L : List Asn}, St w0 w' (im b (iy s).toArray T.e :: L) → ic w' b 0 = some (.int .u64 s.iu) ∧ ic w' b 1 = some (.int .u64 s.id) ∧ ic w' b 2 = some (.int .u64 s.om) ∧ ic w' b 3 = some (.int .u64 s.ji) ∧ ic w' b 4 = some (.int .u64 s.len) ∧ ic w' b 5 = some (.string s.ke) ∧ ic w' b 6 = some (.string s.name) ∧ ic w' b 7 = some (.bool s.sd) := fun S' => by
  refine ⟨?_, ?_, ?_, ?_, ?_, ?_, ?_, ?_⟩ <;> rw [S'.cell] <;> rfl
 have sl : ∀ K, ldN P 8 b 0 w1 K = K (ki s) w1 := fun K => S1'.ldA (n := 8) (i := 0) (iy s) rfl rfl K
 simp [sl]
 rw [M.df.fcall]
 refine aky s fun w2 f2 => ?_
 rw [hr]
 have S2 := S1'.jl f2
 simp
 unfold M.cj.j0
 refine xt S2 (hs w2 [_] S2) (by omega) fun w3 v3 S3 => ?_
 obtain ⟨c0, c1, c2, c3, c4, _⟩ := cl S3.swap
 simp [c0, c1, c2, c3, c4, bqj]
 have hl5 : ∀ i, (((wq s).take i).flatMap mh).length ≤ 40 := fun i => by
  rw [ags, List.length_take]
  have : (wq s).length = 5 := rfl
  omega
 refine ⟨P5I w0 s l (im b (iy s).toArray T.e :: R), fun x _ => 5 - ms x 2, ⟨_, _, 0, rfl, Nat.zero_le _, by simpa using S3⟩, ?_⟩
 rintro x w4 ⟨u, v4, i, rfl, hi, S4⟩
 by_cases hil : i < 5
 ·have hili : (i : Int) < 5 := by omega
  have hwi : IntKind.i64.wrap ((i : Int) + 1) = ((i + 1 : Nat) : Int) := by rw [ig]; rfl
  simp [hili]
  unfold M.cj.j3
  simp [bnc _ _ _ _ _ hil]
  refine age S4 (by rw [List.length_append]; have := hl5 i; omega) _ fun w5 v5 S5 => ?_
  simp [hwi]
  refine ⟨⟨_, _, i + 1, rfl, by omega, ?_⟩, by simp [ms, gv]; omega⟩
  have e : (((wq s).take (i + 1)).flatMap mh) = (((wq s).take i).flatMap mh) ++ mh ((wq s)[i]'hil) := by
   rw [List.take_add_one, List.getElem?_eq_getElem (show i < (wq s).length from hil), List.flatMap_append]
   show _ ++ ([_] : List Int).flatMap mh = _
   simp only [List.flatMap_cons, List.flatMap_nil, List.append_nil]
   rfl
  rw [e, ← List.append_assoc]
  exact S5
 have hi5 : i = 5 := by omega
 subst hi5
 have e5 : (wq s).take 5 = wq s := rfl
 rw [e5] at S4
 have hl4 : (l ++ (wq s).flatMap mh).length ≤ 10000040 := by
  rw [List.length_append]
  have := hl5 5
  rw [e5] at this
  omega
 obtain ⟨_, _, _, _, _, d5, d6, d7⟩ := cl S4.swap
 have rest : ∀ (fb : Int) (y : List Value), fb = aef s.sd → gv y 3 = v4 → M.cj.j5 [.int .u8 fb] y (.pointer (some ⟨b, 0, none⟩)) w4 K := fun fb y hfb y3 => by
  unfold M.cj.j5
  rw [y3]
  simp
  have S5 : St w0 (w4.alloc (.cells #[.int .u8 fb] T.ao)) (kw (.slice (some ⟨w4.heap.size, 0, none⟩) 1 1) [fb] :: _) := St.te (l := [fb]) S4 ka rfl (by simp [maxLen])
  refine Go.Eng.rk et.g ka xn S5.swap (l2 := [fb]) (S5.row ka) (by simp at hl4 ⊢; omega) (by decide) fun w6 v6 S6 => ?_
  obtain ⟨_, _, _, _, _, g5, g6, _⟩ := cl S6.up2
  simp [g5, g6, bnv]
  have S6d := S6.swap.drop
  refine ⟨P2I w0 s (l ++ (wq s).flatMap mh ++ [fb]) (im b (iy s).toArray T.e :: R), fun x _ => 2 - ms x 2, ⟨_, _, 0, rfl, Nat.zero_le _, by simpa using S6d⟩, ?_⟩
  rintro x w7 ⟨u7, v7, i, rfl, hi7, S7⟩
  have hsz : ∀ k, k ≤ 2 → ((([s.ke, s.name] : List ByteArray).take k).flatMap xj).length ≤ 66 := fun k hk => by
   match k, hk with
   | 0, _ => simp
   | 1, _ => simp [xj, yx]; omega
   | 2, _ => simp [xj, yx]; omega
  by_cases hil : i < 2
  ·have hili : (i : Int) < 2 := by omega
   have hwi : IntKind.i64.wrap ((i : Int) + 1) = ((i + 1 : Nat) : Int) := by rw [ig]; rfl
   have hix : ∀ w K, ixT P T.bi (.agg #[.string s.ke, .string s.name]) (.int .i64 (i : Nat)) w K = K (.string (([s.ke, s.name] : List ByteArray)[i]'hil)) w := fun w K => by
    match i, hil with
    | 0, _ => exact bol _ _ _ _
    | 1, _ => exact bod _ _ _ _
   have hs32 : (([s.ke, s.name] : List ByteArray)[i]'hil).size ≤ 32 := by
    match i, hil with
    | 0, _ => exact n1
    | 1, _ => exact n2
   simp [hili]
   unfold M.cj.j8
   have e : ((([s.ke, s.name] : List ByteArray).take (i + 1)).flatMap xj) = ((([s.ke, s.name] : List ByteArray).take i).flatMap xj) ++ xj (([s.ke, s.name] : List ByteArray)[i]'hil) := by
    rw [List.take_add_one, List.getElem?_eq_getElem (show i < ([s.ke, s.name] : List ByteArray).length from hil), List.flatMap_append]
    simp
   have hlen0 := hsz i (by omega)
   simp [hix]
   generalize ([s.ke, s.name] : List ByteArray)[i]'hil = str at *
   have hw8 : IntKind.u8.wrap (str.size : Int) = (str.size : Int) := by
    unfold IntKind.wrap
    simp [IntKind.bits, IntKind.signed]
    omega
   have hcv : ∀ w' K', cvT P T.c T.ao (.int .i64 (str.size : Int)) w' K' = K' (.int .u8 (str.size : Int)) w' := fun w' K' => by
    rw [ph (ks := .i64) (kd := .u8) (by kernel_rfl) (by kernel_rfl), hw8]
   simp [hcv]
   have S8 : St w0 (w7.alloc (.cells #[.int .u8 (str.size : Int)] T.ao)) (kw (.slice (some ⟨w7.heap.size, 0, none⟩) 1 1) [(str.size : Int)] :: _) := St.te (l := [(str.size : Int)]) S7 ka rfl (by simp [maxLen])
   refine Go.Eng.rk et.g ka xn S8.swap (l2 := [(str.size : Int)]) (S8.row ka) (by simp at hlen0 hl4 ⊢; omega) (by decide) fun w9 v9 S9 => ?_
   refine blf et.g (by kernel_rfl) (by kernel_rfl) (fun _ => rfl) S9 str (by simp at hlen0 hl4 ⊢; omega) fun w10 v10 S10 => ?_
   rw [hwi]
   refine ⟨⟨_, v10, i + 1, rfl, by omega, ?_⟩, by simp [ms, gv]; omega⟩
   rw [e]
   have S11 := S10.swap.drop
   simp only [List.append_assoc] at S11 ⊢
   exact S11
  ·have hi2 : i = 2 := by omega
   subst hi2
   simp
   refine h w7 v7 ?_
   have e2 : l ++ (wq s).flatMap mh ++ [fb] ++ ((([s.ke, s.name] : List ByteArray).take 2).flatMap xj) = l ++ pz s := by
    rw [hfb]
    unfold pz
    simp
   rw [e2] at S7
   exact S7.swap.drop
 cases hf : s.sd with
 | true =>
  rw [hf] at d7
  simp [d7]
  exact rest 1 _ (by rw [hf]; rfl) rfl
 | false =>
  rw [hf] at d7
  simp [d7]
  exact rest 0 _ (by rw [hf]; rfl) rfl
end
theorem bck (l : List UInt8) (a : ByteArray) : ((l.map fun b => (b.toNat : Int)).foldl (fun r n => r.push (UInt8.ofNat n.toNat)) a).data.toList = a.data.toList ++ l := by
 induction l generalizing a with
 | nil => simp
 | cons x t ih =>
  rw [List.map_cons, List.foldl_cons, ih]
  simp [ByteArray.push]
theorem bcl (s : ByteArray) : akv (zl s) = s := by
 have h := bck s.data.toList ByteArray.empty
 have h2 : (akv (zl s)).data.toList = s.data.toList := by
  unfold akv zl
  rw [h]
  rfl
 cases s with
 | mk d =>
  have h3 : (akv (zl ⟨d⟩)).data = d := Array.toList_inj.1 h2
  generalize akv (zl ⟨d⟩) = z at *
  cases z with
  | mk e => simp only at h3; rw [h3]
section
variable {w0 w : World} {R X : List Asn}
def Rdv (w0 : World) (R : List Asn) (v : Value) (l : List Int) : Prop := ∀ w' L, St w0 w' (L ++ R) → SlB w' v l
theorem ajr {v : Value} {l : List Int} {L0 : List Asn} (S : St w0 w (L0 ++ R)) (hs : Rdv w0 R v l) {lo hi : Option Value} {i j : Nat} (hlo : lo = none ∧ i = 0 ∨ ∃ k, lo = some (.int k (i : Int))) (hhi : hi = none ∧ j = l.length ∨ ∃ k, hi = some (.int k (j : Int))) (h0 : i ≤ j) (h1 : j ≤ l.length) :
  ∃ v', (∀ w1 K, slT P T.g v lo hi none w1 K = K v' w1) ∧ Rdv w0 R v' ((l.drop i).take (j - i)) := by
 obtain ⟨v', _, _, e1⟩ := (hs w L0 S).sub (P := P) (t := T.g) (by kernel_rfl) (by kernel_rfl) hlo hhi h0 h1
 refine ⟨v', e1, fun w' L S' => ?_⟩
 obtain ⟨v2, s2, _, e2⟩ := (hs w' L S').sub (P := P) (t := T.g) (by kernel_rfl) (by kernel_rfl) hlo hhi h0 h1
 have h3 := e1 w' fun v _ => v = v2
 rw [e2 w'] at h3
 have h4 : v' = v2 := by
  have : (v2 = v2) = (v' = v2) := h3
  rw [← this]
 rw [h4]
 exact s2
abbrev rdr (b : Nat) (v : Value) : Asn := im b #[v, .int .i64 0] T.aj
theorem anh {b n : Nat} {v : Value} {l : List Int} (S : St w0 w (rdr b v :: (X ++ R))) (hs : Rdv w0 R v l) (hn : n ≤ l.length) {K : KV}
  (h : ∀ w' v1 v2, Rdv w0 R v1 (l.take n) → Rdv w0 R v2 (l.drop n) → St w0 w' (rdr b v2 :: (X ++ R)) → K v1 w') : gr P F.cb [.pointer (some ⟨b, 0, none⟩), .int .i64 (n : Nat)] w K := by
 rw [M.bj.fcall]
 apply M.bj.calls
 unfold M.bj
 have c0 : ic w b 0 = some v := by rw [S.cell]; rfl
 have c1 : ic w b 1 = some (.int .i64 0) := by rw [S.cell]; rfl
 have hlen : ∀ w' K, biT P .len #[T.g] T.c [false] [v] w' K = K (.int .i64 l.length) w' := fun w' K => (hs w (_ :: X) S).ja (by kernel_rfl) [false]
 have hlt : ¬ (l.length : Int) < (n : Int) := by omega
 simp [c0, c1, hlen, hlt]
 unfold M.bj.j0
 simp [c1]
 unfold M.bj.j1
 obtain ⟨v1, e1, r1⟩ := ajr (L0 := rdr b v :: X) S hs (lo := none) (hi := some (.int .i64 (n : Nat))) (i := 0) (j := n) (.inl ⟨rfl, rfl⟩) (.inr ⟨_, rfl⟩) (Nat.zero_le _) hn
 obtain ⟨v2, e2, r2⟩ := ajr (L0 := rdr b v :: X) S hs (lo := some (.int .i64 (n : Nat))) (hi := none) (i := n) (j := l.length) (.inr ⟨_, rfl⟩) (.inl ⟨rfl, rfl⟩) hn (Nat.le_refl _)
 rw [List.drop_zero, Nat.sub_zero] at r1
 rw [List.take_of_length_le (by simp)] at r2
 have hv2 : kq v2 = true := by
  obtain ⟨_, _, e, _⟩ := r2 w (_ :: X) S
  rw [e]; rfl
 have hst : ∀ w' K, stT P T.g (.pointer (some ⟨b, 0, none⟩)) v2 w' K = st1 P b 0 v2 w' K := fun w' K => by
  obtain ⟨a, c, e, _⟩ := r2 w (_ :: X) S
  rw [e]
  simp
 simp [c0, e1, e2, hst]
 exact St.vz S hv2 (by simp) fun w3 S3 => h w3 v1 v2 r1 r2 S3
theorem abm {b : Nat} {v : Value} {x : Int} {r : List Int} (S : St w0 w (rdr b v :: (X ++ R))) (hx : un x) (hs : Rdv w0 R v (mh x ++ r)) {K : KV}
  (h : ∀ w' v2, Rdv w0 R v2 r → St w0 w' (rdr b v2 :: (X ++ R)) → K (.int .u64 x) w') : gr P F.ba [.pointer (some ⟨b, 0, none⟩)] w K := by
 rw [M.cz.fcall]
 apply M.cz.calls
 unfold M.cz
 refine anh (n := 8) S hs (by rw [List.length_append, mj]; omega) fun w1 v1 v2 r1 r2 S1 => ?_
 rw [List.take_left' (mj x)] at r1
 rw [List.drop_left' (mj x)] at r2
 refine anb (r1 w1 (_ :: X) S1) (by rw [mj]; omega) ?_
 have := aks hx []
 rw [List.append_nil] at this
 rw [this]
 exact h w1 v2 r2 S1
theorem asw {b : Nat} {v : Value} {x lo hi : Int} {r : List Int} (S : St w0 w (rdr b v :: (X ++ R))) (h0 : lo ≤ x) (h1 : x ≤ hi) (hs : Rdv w0 R v (x :: r)) {K : KV}
  (h : ∀ w' v2, Rdv w0 R v2 r → St w0 w' (rdr b v2 :: (X ++ R)) → K (.int .u8 x) w') : gr P F.ci [.pointer (some ⟨b, 0, none⟩), .int .u8 lo, .int .u8 hi] w K := by
 rw [M.de.fcall]
 apply M.de.calls
 unfold M.de
 refine anh (n := 1) S hs (by simp) fun w1 v1 v2 r1 r2 S1 => ?_
 have c1 : ic w1 b 1 = some (.int .i64 0) := by rw [S1.cell]; rfl
 obtain ⟨ab, ao, ac, e1, _, _, hc⟩ := (r1 w1 (_ :: X) S1).at (i := 0) (by simp)
 have hcell : ic w1 ab ao = some (.int .u8 x) := by simpa using hc 0 _ rfl
 have hia : ∀ w' K, iaT P T.g v1 (.int .i64 0) w' K = K (.pointer (some ⟨ab, ao, none⟩)) w' := fun w' K => by rw [e1]; simp
 have n0 : ¬ x < lo := by omega
 have n1 : ¬ hi < x := by omega
 simp [hia, hcell, c1, n0, n1]
 exact h w1 v2 (by simpa using r2) S1
theorem axy {b : Nat} {v : Value} {s : ByteArray} {r : List Int} (S : St w0 w (rdr b v :: (X ++ R))) (h0 : 1 ≤ s.size) (h1 : s.size ≤ 32) (hs : Rdv w0 R v (xj s ++ r)) {K : KV}
  (h : ∀ w' v2, Rdv w0 R v2 r → St w0 w' (rdr b v2 :: (X ++ R)) → K (.string s) w') : gr P F.cr [.pointer (some ⟨b, 0, none⟩)] w K := by
 rw [M.dk.fcall]
 apply M.dk.calls
 unfold M.dk
 refine asw (lo := 1) (hi := 32) (x := (s.size : Int)) (r := zl s ++ r) S (by omega) (by omega) hs fun w1 v1 r1 S1 => ?_
 have c1 : ic w1 b 1 = some (.int .i64 0) := by rw [S1.cell]; rfl
 simp [c1]
 have hcv : ∀ w' K', cvT P T.ao T.c (.int .u8 (s.size : Int)) w' K' = K' (.int .i64 (s.size : Int)) w' := fun w' K' => by
  rw [ph (ks := .u8) (kd := .i64) (by kernel_rfl) (by kernel_rfl), ig]
 simp [hcv]
 refine anh (n := s.size) S1 r1 (by rw [List.length_append, yx]; omega) fun w2 v2 v3 r2 r3 S2 => ?_
 rw [List.take_left' (yx s)] at r2
 rw [List.drop_left' (yx s)] at r3
 rw [boo (by kernel_rfl) (by kernel_rfl) (r2 w2 (_ :: X) S2), bcl]
 exact h w2 v3 r3 S2
end
theorem bcw {s : Spn} (h : ly s = 0) : 1 ≤ s.ke.size ∧ 1 ≤ s.name.size := by
 unfold ly at h
 split at h
 ·cases h
 ·unfold orK at h
  have hn : ∀ b : ByteArray, qj b = 0 → 1 ≤ b.size := fun b hb => by
   unfold qj at hb
   split at hb
   ·cases hb
   ·rename_i hh
    have := not_or.1 hh
    omega
  by_cases ha : qj s.ke = 0
  ·by_cases hb : qj s.name = 0
   ·exact ⟨hn _ ha, hn _ hb⟩
   ·simp [ha, hb] at h
  ·simp [ha] at h
section
variable {w0 w : World} {R : List Asn}
abbrev spB (b : Nat) (s : Spn) : Asn := im b (iy s).toArray T.e
theorem ayj {v : Value} {s : Spn} {r : List Int} (S : St w0 w R) (hs : Rdv w0 R v (pz s ++ r)) (hr : ly s = 0) (hR : wh s) (hl : r.length ≤ 10000000) {K : KV}
  (h : ∀ w' v', St w0 w' (kw v' r :: R) → K (.tuple #[ki s, v', .int .i64 0]) w') : gr P F.fw [v] w K := by
 obtain ⟨n1, n2⟩ := aii hr
 obtain ⟨m1, m2⟩ := bcw hr
 obtain ⟨s0, s1, s2, s3, s4, sv, nm, fl⟩ := s
 simp only at n1 n2 m1 m2
 rw [M.ea.fcall]
 apply M.ea.calls
 unfold M.ea
 have hb : ∀ w' K, kg P T.aj #[(0, v)] w' K = K (.agg #[v, .int .i64 0]) w' := fun w' K => by
  obtain ⟨_, _, e, _⟩ := hs w [] S
  rw [e]
  simp
 simp [hb]
 have S1 : St w0 (w.alloc (.cells #[.int .u64 0, .int .u64 0, .int .u64 0, .int .u64 0, .int .u64 0, .string ⟨#[]⟩, .string ⟨#[]⟩, .bool false] T.e)) (spB w.heap.size ⟨0, 0, 0, 0, 0, ⟨#[]⟩, ⟨#[]⟩, false⟩ :: R) := S.mkB (iy ⟨0, 0, 0, 0, 0, ⟨#[]⟩, ⟨#[]⟩, false⟩).toArray T.e
 have S2 := S1.mkB #[v, .int .i64 0] T.aj
 rw [jz] at S2
 generalize w.heap.size = tb at *
 generalize hrb : tb + 1 = rb at *
 generalize (World.alloc _ (.cells #[v, .int .i64 0] T.aj)) = w2 at *
 have hs0 : Rdv w0 R v (mh s0 ++ (mh s1 ++ (mh s2 ++ (mh s3 ++ (mh s4 ++ (aef fl :: (xj sv ++ (xj nm ++ r)))))))) := by
  have e : pz ⟨s0, s1, s2, s3, s4, sv, nm, fl⟩ ++ r = mh s0 ++ (mh s1 ++ (mh s2 ++ (mh s3 ++ (mh s4 ++ (aef fl :: (xj sv ++ (xj nm ++ r))))))) := by
   simp [pz, wq]
  rw [← e]
  exact hs
 refine abm (X := [_]) S2 hR.tr hs0 fun w3 v3 r3 S3 => ?_
 refine abm (X := [_]) S3 hR.id r3 fun w4 v4 r4 S4 => ?_
 refine abm (X := [_]) S4 hR.par r4 fun w5 v5 r5 S5 => ?_
 refine abm (X := [_]) S5 hR.st r5 fun w6 v6 r6 S6 => ?_
 refine abm (X := [_]) S6 hR.ln r6 fun w7 v7 r7 S7 => ?_
 simp
 have S7' : St w0 w7 (spB tb ⟨0, 0, 0, 0, 0, ⟨#[]⟩, ⟨#[]⟩, false⟩ :: rdr rb v7 :: R) := S7.swap
 refine St.put (vs := iy ⟨s0, s1, s2, s3, s4, ⟨#[]⟩, ⟨#[]⟩, false⟩) (cs' := (iy ⟨s0, s1, s2, s3, s4, ⟨#[]⟩, ⟨#[]⟩, false⟩).toArray) S7' (og _) (by simp [iy]) rfl fun w8 S8 => ?_
 refine asw (X := [_]) S8.swap (x := aef fl) (by unfold aef; split <;> omega) (by unfold aef; split <;> omega) r7 fun w9 v9 r9 S9 => ?_
 have hfl : decide (aef fl = 1) = fl := by cases fl <;> rfl
 simp [hfl]
 refine St.vz S9.swap rfl (by simp [iy]) fun w10 S10 => ?_
 have S10' : St w0 w10 (spB tb ⟨s0, s1, s2, s3, s4, ⟨#[]⟩, ⟨#[]⟩, fl⟩ :: rdr rb v9 :: R) := S10
 refine axy (X := [_]) S10'.swap m1 n1 r9 fun w11 v11 r11 S11 => ?_
 simp
 refine St.vz S11.swap rfl (by simp [iy]) fun w12 S12 => ?_
 have S12' : St w0 w12 (spB tb ⟨s0, s1, s2, s3, s4, sv, ⟨#[]⟩, fl⟩ :: rdr rb v11 :: R) := S12
 refine axy (X := [_]) S12'.swap m2 n2 r11 fun w13 v13 r13 S13 => ?_
 simp
 refine St.vz S13.swap rfl (by simp [iy]) fun w14 S14 => ?_
 have S14' : St w0 w14 (spB tb ⟨s0, s1, s2, s3, s4, sv, nm, fl⟩ :: rdr rb v13 :: R) := S14
 have c1 : ic w14 rb 1 = some (.int .i64 0) := by rw [S14'.swap.cell]; rfl
 have sl : ∀ {w' : World} {L : List Asn}, St w0 w' (spB tb ⟨s0, s1, s2, s3, s4, sv, nm, fl⟩ :: L) → ∀ K, ldN P 8 tb 0 w' K = K (ki ⟨s0, s1, s2, s3, s4, sv, nm, fl⟩) w' := fun S' K => S'.ldA (n := 8) (i := 0) (iy ⟨s0, s1, s2, s3, s4, sv, nm, fl⟩) rfl rfl K
 simp [c1, sl S14']
 rw [M.df.fcall]
 refine aky _ fun w15 f15 => ?_
 rw [hr]
 have S15 := S14'.jl f15
 simp
 refine St.vz S15.swap rfl (by simp) fun w16 S16 => ?_
 have S16' : St w0 w16 (rdr rb v13 :: spB tb ⟨s0, s1, s2, s3, s4, sv, nm, fl⟩ :: R) := S16
 have d1 : ic w16 rb 1 = some (.int .i64 0) := by rw [S16'.cell]; rfl
 unfold M.ea.j0
 simp [d1]
 unfold M.ea.j1
 have S17 := S16'.jl ((Fr.refl _ w16).dr 1)
 have d0 : ic (dr w16 1) rb 0 = some v13 := by rw [S17.cell]; rfl
 simp [sl S17.swap, d0]
 refine xt S17 (r13 _ [_, _] S17) (by omega) fun w18 v18 S18 => ?_
 simp [sl S18.up2]
 have hst : ∀ w' K, stT P T.e (.pointer (some ⟨tb, 0, none⟩)) (ki ⟨s0, s1, s2, s3, s4, sv, nm, fl⟩) w' K = stN P tb 0 (iy ⟨s0, s1, s2, s3, s4, sv, nm, fl⟩) w' K := fun w' K => by
  unfold ki
  simp [iy]
 rw [hst]
 refine St.put (vs := iy ⟨s0, s1, s2, s3, s4, sv, nm, fl⟩) (cs' := (iy ⟨s0, s1, s2, s3, s4, sv, nm, fl⟩).toArray) S18.up2 (og _) (by simp [iy]) rfl fun w19 S19 => ?_
 have hres : ∀ w' K, pj P T.e (.pointer (some ⟨tb, 0, none⟩)) w' K = ldN P 8 tb 0 w' K := fun w' K => kr
 simp [hres, sl S19]
 exact h w19 v18 (S19.drop.swap.drop)
end
end Go.Proofs.YtfnhoaemapheoaaGreat
set_option maxRecDepth 100000
namespace Go.Proofs.YtfnhoaemapheoaaGreat.KeyR
open Go.Eng Go.Sort Go.Proofs.YtfnhoaemapheoaaGreat.Suint64
end Go.Proofs.YtfnhoaemapheoaaGreat.KeyR
set_option maxRecDepth 100000
namespace Go.Proofs.YtfnhoaemapheoaaGreat
open Go.Eng Go.Proofs.YtfnhoaemapheoaaGreat.Sint
def akq (hb p r : Nat) (jj : Bool) : Array Value := #[.pointer (some ⟨hb, 0, none⟩), .pointer (some ⟨p, 0, none⟩), .map (some r), .bool jj]
section
variable {w0 w : World} {R : List Asn} {q hb p r : Nat} {m : ado} {L : Lg} {jj : Bool} {mm : MP}
end
set_option maxRecDepth 100000
def wrF (L : Lg) (D : Dk) (jc : List (List Int)) : (Lg × Dk) × Int :=
 if (tt L D jc).2 = 0 then (((tt L D jc).1.1, ((tt L D jc).1.1.oc (tt L D jc).1.2).1), ((tt L D jc).1.1.oc (tt L D jc).1.2).2) else tt L D jc
theorem aro {L : Lg} {D : Dk} {b : List Int} {r : List (List Int)} (h : (L.append D b).2 = 0) : wrF L D (b :: r) = wrF (L.append D b).1.1 (L.append D b).1.2 r := by
 have e : tt L D (b :: r) = tt (L.append D b).1.1 (L.append D b).1.2 r := by rw [tt, if_pos h]
 unfold wrF; rw [e]
theorem bin {L : Lg} {D : Dk} {b : List Int} {r : List (List Int)} (h : (L.append D b).2 ≠ 0) : wrF L D (b :: r) = L.append D b := by
 have e : tt L D (b :: r) = L.append D b := by rw [tt, if_neg h]
 unfold wrF; rw [e, if_neg h]
section
variable {w0 w : World} {R : List Asn} {q hb p r : Nat} {m : ado} {L : Lg} {dn : Bool} {mm : MP} {D : Dk} {G : Nat} {s f : Int} {lv : Value} {vs : List SV} {jc : List (List Int)}
end
section
variable {w0 w : World} {R : List Asn} {q hb p r : Nat} {m : ado} {L : Lg} {dn : Bool} {mm : MP} {D D' : Dk} {G : Nat} {s f : Int} {iq : Int} {Q' : List Prt}
theorem axh (S : St w0 w R) : St w0 (w.alloc (.map #[] 0)) (jx w.heap.size .u64 [] :: R) := S.add (a := jx w.heap.size .u64 []) ((Fr.refl _ w).alloc _) (B := fun x => x = w.heap.size) ⟨⟨aio w .u64, List.nodup_nil⟩, rfl⟩ fun b hb => by subst hb; rw [jz]; omega
end
section
variable {w0 w : World} {R : List Asn} {q hb : Nat} {m : ado} {L : Lg} {dn : Bool} {D : Dk} {G : Nat} {s f : Int} {p : Pk} {ls : List Spn} {lm : List Mem} {lu : List Int}
end
inductive WrR (s f : Int) (L : Lg) (G : Nat) (D : Dk) (jc : List (List Int)) : (Lg × Dk) × Int → Prop
 | ok (L' : Lg) (D' : Dk) : rq s f L' (jt L'.ii).length D' → jt L'.ii = jt L.ii ++ jc → L'.iq = L.iq → D'.jh = D.jh → (D.jw = false → D'.jw = false) → WrR s f L G D jc ((L', D'), 0)
 | uq (i : Nat) (L' : Lg) (D' : Dk) : i < jc.length → rq s f L' G D' → jt L'.ii = jt L.ii ++ jc.take i → L'.iq = L.iq → D'.jh = D.jh → (D.jw = false → D'.jw = false) → WrR s f L G D jc ((L', D'), 9)
 | jj (i : Nat) (L' : Lg) (D' : Dk) (Q : List Prt) : D.jw = true → L'.iq = L.iq → L'.ii.length ≤ 63 → D'.jj = true → Vir s f Q G D' False → jt Q = jt L.ii ++ jc.take i → D'.jh = D.jh → f + (jt L'.ii).length ≤ f + (jt L.ii).length + jc.length → WrR s f L G D jc ((L', D'), 10)
theorem bkd {s f : Int} {L : Lg} {G : Nat} {D : Dk} {jc : List (List Int)} (g : rq s f L G D) (hl : ∀ b ∈ jc, b.length ≤ 8192) (hn : f + (jt L.ii).length + jc.length ≤ 1000000000000) : WrR s f L G D jc (wrF L D jc) := by
 have ha := bne jc g hl hn
 unfold wrF
 generalize tt L D jc = z at *
 cases ha with
 | ok L' D' g' e1 e2 e3 e4 =>
  obtain ⟨y1, y2, y3, y4, _, y6, _⟩ := aqz g'.vir g'.up
  rw [if_pos rfl, y1]
  exact .ok L' _ ⟨y2, g'.size, y3⟩ e1 e2 (by rw [y6, e3]) fun h => by rw [y4]; exact e4 h
 | uq i L' D' hi g' e1 e2 e3 e4 =>
  rw [if_neg (by simp)]
  exact .uq i L' D' hi g' e1 e2 e3 e4
 | jj i j L' D0 D' Q b1 b2 b3 b4 b5 b6 b7 b8 =>
  rw [if_neg (by simp)]
  refine .jj i L' D' Q b1 b4 b2.vir.len b5 b6 b7 b8 ?_
  rw [b3, List.length_append, List.length_take]
  omega
section
variable {w0 w : World} {R : List Asn} {q hb : Nat} {m : ado} {L : Lg} {dn : Bool} {D : Dk} {s f : Int}
end
section
variable {w0 w : World} {R : List Asn} {v : Value} {m : ado} {p : Pk} {ls : List Spn} {lm : List Mem} {lu : List Int}
end
section
variable {w0 w : World} {R : List Asn} {q hb : Nat} {m : ado} {L : Lg} {dn : Bool}
end
section
variable {w0 w : World} {R : List Asn} {p hb : Nat} {v : Value} {L : Lg} {D : Dk} {s f : Int} {G : Nat} {l : List PB} {ls : List (List Int)} {vs : List SV}
end
theorem atw (jh iq : Int) : rq 0 0 ⟨iq, []⟩ 0 ⟨jh, 0, false, false, []⟩ :=
 ⟨⟨trivial, by omega, by omega, by simp, by simp [jt], .inl ⟨rfl, rfl, rfl⟩, fun _ => ⟨rfl, rfl⟩, fun q h => by simp at h⟩, fun q h => by simp at h, rfl⟩
section
variable {w0 w : World} {R : List Asn} {q hb : Nat} {m m1 m2 : ado} {L : Lg} {D : Dk} {G : Nat} {s f : Int} {Q : List Prt} {x : Prop} {iq : Int}
variable {p : Pk} {ls : List Spn} {lm : List Mem} {lu : List Int} {F0 : Nat}
end
theorem aze {s f : Int} {L : Lg} {G : Nat} {D : Dk} (g : rq s f L G D) (h : L.ii = []) : D.jg = 0 := by
 rcases g.vir.dsc with ⟨_, hf, _⟩ | ⟨Q0, q, _, _, _, hq, _⟩
 ·unfold Dk.jg; rw [hf]; rfl
 ·rw [h] at hq; simp at hq
section
variable {w0 w : World} {R : List Asn} {q hb : Nat} {m : ado} {L : Lg} {D : Dk} {s f : Int} {p : Pk} {ls : List Spn} {lm : List Mem} {lu : List Int} {F0 : Nat}
end
structure bpp where
 ip : Int
 n : Int
 p : Pk
 ls : List Spn
 lm : List Mem
 lu : List Int
 kv : Value
 kf : List Int
section
variable {w0 w w' : World} {R : List Asn} {v : Value} {l : List bpp}
end
section
variable {w0 w w' : World} {L X R : List Asn} {v v' : Value} {m m' : ado}
theorem bdh : ∀ {X : List Asn}, St w0 w (L ++ X) → St w0 w L
 | [], S => by simpa using S
 | a :: X, S => bdh (S.perm List.perm_middle).drop
end
def nk (b : Bal) (l : List Spn) : List Int := mh b.n ++ (mh b.jk ++ l.flatMap pz)
theorem auf (s : ByteArray) : (xj s).length = s.size + 1 := by unfold xj; rw [List.length_cons, yx]
theorem ahk {s : Spn} (h : ly s = 0) : 43 ≤ (pz s).length ∧ (pz s).length ≤ 107 := by
 obtain ⟨n1, n2⟩ := aii h
 have : ((wq s).flatMap mh).length = 40 := by rw [ags]; rfl
 unfold pz
 rw [List.length_append, List.length_append, List.length_append, auf, auf, this]
 simp
 omega
theorem abn : ∀ {l : List Spn}, (∀ s ∈ l, ly s = 0) → (l.flatMap pz).length ≤ l.length * 107
 | [], _ => by simp
 | s :: t, h => by
  have h1 := (ahk (h s (by simp))).2
  have h2 := abn (l := t) fun x hx => h x (by simp [hx])
  rw [List.flatMap_cons, List.length_append, List.length_cons]
  omega
section
variable {w0 w : World} {R X Y : List Asn}
theorem Rdv.mono {v : Value} {l : List Int} (h : Rdv w0 R v l) (X : List Asn) : Rdv w0 (X ++ R) v l := fun w' L S => h w' (L ++ X) (by rw [List.append_assoc]; exact S)
theorem bkn {v : Value} {l : List Int} : Rdv w0 (kw v l :: R) v l := fun w' L S => (S.perm List.perm_middle).row ka
theorem bbw {L : List Asn} (S : St w0 w (L ++ (Y ++ R))) : St w0 w (L ++ R) := by
 refine bdh (X := Y) (S.perm ?_)
 rw [List.append_assoc]
 exact List.Perm.append_left _ List.perm_append_comm
def bpq (w0 : World) (b : Bal) (l : List Spn) (R : List Asn) : KL := fun x w1 => ∃ (v : Value) (i : Nat), x = [v, .int .i64 (i : Nat)] ∧ i ≤ l.length ∧ St w0 w1 (kw v (nk b (l.take i)) :: R)
theorem bfm (S : St w0 w R) (b : Bal) {lv : Value} {l : List Spn} (hs : ∀ w' L, St w0 w' (L ++ R) → SlS w' lv l) (hr : ∀ s ∈ l, ly s = 0) (hl : l.length ≤ 1000) {K : KV}
  (h : ∀ w' v', St w0 w' (kw v' (nk b l) :: R) → K v' w') : gr P F.fm [ko b, lv] w K := by
 rw [M.eb.fcall]
 apply M.eb.calls
 unfold M.eb
 refine St.td S fun bb w1 S1 => ?_
 have S1' : St w0 w1 (im bb #[.int .u64 b.n, .int .u64 b.jk] T.d :: R) := S1
 obtain ⟨c0, c1, _⟩ := pk S1'
 simp [c0]
 refine age (l := []) (qd S1') (by simp) _ fun w2 v2 S2 => ?_
 obtain ⟨_, d1, _⟩ := pk S2.swap
 simp [d1]
 refine age S2 (by simp [mj]) _ fun w3 v3 S3 => ?_
 have hlen : ∀ w' K, biT P .len #[T.b] T.c [false] [lv] w' K = K (.int .i64 l.length) w' := fun w' K => (hs w3 [_, _] S3).ja (by kernel_rfl) [false]
 simp [hlen]
 refine ⟨bpq w0 b l R, fun x _ => l.length - ms x 1, ⟨_, 0, rfl, Nat.zero_le _, by simpa [nk] using S3.swap.drop⟩, ?_⟩
 rintro x w4 ⟨v, i, rfl, hi, S4⟩
 by_cases hil : i < l.length
 ·have hwi : IntKind.i64.wrap ((i : Int) + 1) = ((i + 1 : Nat) : Int) := by rw [ig]; rfl
  simp [hil]
  unfold M.eb.j2
  obtain ⟨ab, ao, cap, hv, _, _, hc⟩ := (hs w4 [_] S4).at hil
  have hia : ∀ w' K, iaT P T.b lv (.int .i64 (i : Nat)) w' K = K (.pointer (some ⟨ab, ao + i * 8, none⟩)) w' := fun w' K => by rw [hv]; simp [hil]
  have hld : ∀ K, ldN P 8 ab (ao + i * 8) w4 K = K (ki l[i]) w4 := fun K => pg (iy l[i]) 8 rfl hc K
  simp [hia, hld]
  have S5 : St w0 (w4.alloc (.cells #[.int .u64 0, .int .u64 0, .int .u64 0, .int .u64 0, .int .u64 0, .string ⟨#[]⟩, .string ⟨#[]⟩, .bool false] T.e)) (spB w4.heap.size ⟨0, 0, 0, 0, 0, ⟨#[]⟩, ⟨#[]⟩, false⟩ :: _) := S4.mkB (iy ⟨0, 0, 0, 0, 0, ⟨#[]⟩, ⟨#[]⟩, false⟩).toArray T.e
  generalize w4.heap.size = tb at *
  generalize w4.alloc _ = w5 at *
  have hst : ∀ w' K, stT P T.e (.pointer (some ⟨tb, 0, none⟩)) (ki l[i]) w' K = stN P tb 0 (iy l[i]) w' K := fun w' K => by
   unfold ki
   simp [iy]
  rw [hst]
  refine St.put (vs := iy l[i]) (cs' := (iy l[i]).toArray) S5 (og _) (by simp [iy]) rfl fun w6 S6 => ?_
  have sl : ∀ K, ldN P 8 tb 0 w6 K = K (ki l[i]) w6 := fun K => S6.ldA (n := 8) (i := 0) (iy l[i]) rfl rfl K
  simp [sl]
  have hri := hr _ (List.getElem_mem hil)
  have hle : (nk b (l.take i)).length ≤ 10000000 := by
   have := abn (l := l.take i) fun s hs => hr s (List.mem_of_mem_take hs)
   have h2 : (l.take i).length ≤ 1000 := by rw [List.length_take]; omega
   unfold nk
   rw [List.length_append, List.length_append, mj, mj]
   have : (l.take i).length * 107 ≤ 1000 * 107 := Nat.mul_le_mul_right _ h2
   omega
  refine bba S6.drop (v := v) (l := nk b (l.take i)) (fun w' L S' => (S'.perm List.perm_middle).row ka) hle hri fun w7 v7 S7 => ?_
  simp [hwi]
  refine ⟨⟨v7, i + 1, rfl, by omega, ?_⟩, by simp [ms, gv]; omega⟩
  have e : nk b (l.take (i + 1)) = nk b (l.take i) ++ pz l[i] := by
   rw [List.take_add_one, List.getElem?_eq_getElem hil]
   unfold nk
   simp only [Option.toList, List.flatMap_append, List.flatMap_cons, List.flatMap_nil, List.append_nil, List.append_assoc]
  rw [e]
  exact S7.swap.drop
 ·have hie : i = l.length := by omega
  subst hie
  rw [List.take_length] at S4
  simp
  exact h w4 v S4
abbrev lj (v : Value) (l : List Spn) : Asn := nf T.e 8 iy v l
def bme (w0 : World) (b : Bal) (l : List Spn) (tb : Nat) (R : List Asn) : KL := fun x w1 => ∃ (i : Nat) (Y : List Asn), i ≤ l.length ∧ Rdv w0 (Y ++ R) (gv x 5) ((l.drop i).flatMap pz) ∧ St w0 w1 (lj (gv x 3) (l.take i) :: im tb #[.int .u64 b.n, .int .u64 b.jk] T.d :: (Y ++ R))
def slN (v : Value) : Nat := match v with
 | .slice _ n _ => n
 | _ => 0
theorem bid (S : St w0 w R) {v : Value} {b : Bal} {l : List Spn} (hv : Rdv w0 R v (nk b l)) (hb : b.rng) (hne : l ≠ []) (hr : ∀ s ∈ l, ly s = 0 ∧ wh s) (htr : ∀ s ∈ l, ∀ s' ∈ l, s.iu = s'.iu) (hl : l.length ≤ 1000) {K : KV}
  (h : ∀ w' v', St w0 w' (lj v' l :: R) → K (.tuple #[ko b, v', .bool true]) w') : gr P F.fk [v] w K := by
 rw [M.ci.fcall]
 apply M.ci.calls
 unfold M.ci
 have hlen : ∀ w' K, biT P .len #[T.g] T.c [false] [v] w' K = K (.int .i64 (nk b l).length) w' := fun w' K => (hv w [] S).ja (by kernel_rfl) [false]
 have h16 : ¬ ((nk b l).length : Int) ≤ 16 := by
  unfold nk
  rw [List.length_append, List.length_append, mj, mj]
  cases l with
  | nil => exact absurd rfl hne
  | cons s t =>
   have := (ahk (hr s (by simp)).1).1
   rw [List.flatMap_cons, List.length_append]
   omega
 simp [hlen, h16]
 have S1 : St w0 (w.alloc (.cells #[.int .u64 0, .int .u64 0] T.d)) (im w.heap.size #[.int .u64 0, .int .u64 0] T.d :: R) := S.mkB _ _
 generalize w.heap.size = tb at *
 generalize w.alloc _ = w1 at *
 unfold M.ci.j0
 have S2 := S1.jl ((Fr.refl _ w1).dr 1)
 have hlb : 16 ≤ (nk b l).length := by omega
 obtain ⟨v8, e8, r8⟩ := ajr (L0 := [_]) S2 hv (lo := some (.int .i64 (8 : Nat))) (hi := none) (i := 8) (j := (nk b l).length) (.inr ⟨_, rfl⟩) (.inl ⟨rfl, rfl⟩) (by omega) (Nat.le_refl _)
 obtain ⟨v16, e16, r16⟩ := ajr (L0 := [_]) S2 hv (lo := some (.int .i64 (16 : Nat))) (hi := none) (i := 16) (j := (nk b l).length) (.inr ⟨_, rfl⟩) (.inl ⟨rfl, rfl⟩) (by omega) (Nat.le_refl _)
 rw [List.take_of_length_le (by simp)] at r8 r16
 have d8 : (nk b l).drop 8 = mh b.jk ++ l.flatMap pz := by unfold nk; exact List.drop_left' (mj _)
 have d16 : (nk b l).drop 16 = l.flatMap pz := by
  have : (nk b l).drop 16 = ((nk b l).drop 8).drop 8 := by rw [List.drop_drop]
  rw [this, d8]
  exact List.drop_left' (mj _)
 rw [d8] at r8
 rw [d16] at r16
 have e8' : ∀ w1 K, slT P T.g v (some (.int .i64 8)) none none w1 K = K v8 w1 := e8
 have e16' : ∀ w1 K, slT P T.g v (some (.int .i64 16)) none none w1 K = K v16 w1 := e16
 simp [e8']
 refine anb (hv _ [_] S2) (by omega) ?_
 refine anb (r8 _ [_] S2) (by rw [List.length_append, mj]; omega) ?_
 have u1 : alb (nk b l) = b.n := by unfold nk; exact aks hb.1 _
 have u2 : alb (mh b.jk ++ l.flatMap pz) = b.jk := aks hb.2 _
 rw [u1, u2]
 simp
 refine St.put (vs := [.int .u64 b.n, .int .u64 b.jk]) (cs' := #[.int .u64 b.n, .int .u64 b.jk]) S2 (by simp [kq]) (by simp) rfl fun w3 S3 => ?_
 simp [e16']
 refine ⟨bme w0 b l tb R, fun x _ => l.length - slN (gv x 3), ⟨0, [], Nat.zero_le _, by simpa using r16, by simpa using Go.Eng.qd S3⟩, ?_⟩
 rintro x w4 ⟨i, Y, hi, hrv, S4⟩
 have hsn : slN (gv x 3) = i := by
  obtain ⟨_, _, e, _⟩ := S4.row lk
  rw [e]
  show (l.take i).length = i
  rw [List.length_take]
  omega
 unfold M.ci.j2
 have hrv4 := hrv w4 [_, _] S4
 have blen : ∀ w' K, biT P .len #[T.g] T.c [false] [gv x 5] w' K = K (.int .i64 ((l.drop i).flatMap pz).length) w' := fun w' K => hrv4.ja (by kernel_rfl) [false]
 by_cases hil : i < l.length
 case neg =>
  have hie : i = l.length := by omega
  subst hie
  rw [List.take_length] at S4
  obtain ⟨_, _, bl⟩ := pk S4.swap
  have e0 : ((l.drop l.length).flatMap pz).length = 0 := by simp
  have hst : ∀ w' K, stT P T.d (.pointer (some ⟨tb, 0, none⟩)) (ko b) w' K = stN P tb 0 [.int .u64 b.n, .int .u64 b.jk] w' K := fun w' K => by
   unfold ko
   simp
  rw [e0] at blen
  simp [blen, bl, hst]
  refine St.put (vs := [.int .u64 b.n, .int .u64 b.jk]) (cs' := #[.int .u64 b.n, .int .u64 b.jk]) S4.swap (by simp [kq]) (by simp) rfl fun w5 S5 => ?_
  obtain ⟨_, _, bl5⟩ := pk S5
  have hres : ∀ w' K, pj P T.d (.pointer (some ⟨tb, 0, none⟩)) w' K = ldN P 2 tb 0 w' K := fun w' K => kr
  simp [hres, bl5]
  exact h w5 _ (bbw (L := [_]) (Y := Y) S5.drop)
 have hcons : l.drop i = l[i] :: l.drop (i + 1) := List.drop_eq_getElem_cons hil
 obtain ⟨hri, hRi⟩ := hr _ (List.getElem_mem hil)
 rw [hcons, List.flatMap_cons] at hrv blen
 have hpos : (0 : Int) < ((pz l[i] ++ (l.drop (i + 1)).flatMap pz).length : Int) := by
  have := (ahk hri).1
  rw [List.length_append]
  omega
 generalize (pz l[i] ++ (l.drop (i + 1)).flatMap pz).length = N at hpos blen
 have hpn : 0 < N := by omega
 simp [blen, hpn]
 unfold M.ci.j3
 have hrl : ((l.drop (i + 1)).flatMap pz).length ≤ 10000000 := by
  have h1 := abn (l := l.drop (i + 1)) fun s hs => (hr s (List.mem_of_mem_drop hs)).1
  have h2 : (l.drop (i + 1)).length ≤ 1000 := by rw [List.length_drop]; omega
  have : (l.drop (i + 1)).length * 107 ≤ 1000 * 107 := Nat.mul_le_mul_right _ h2
  omega
 refine ayj S4 (hrv.mono [_, _]) hri hRi hrl fun w5 v5 S5 => ?_
 simp
 have S6 : St w0 (w5.alloc (.cells #[.int .u64 0, .int .u64 0, .int .u64 0, .int .u64 0, .int .u64 0, .string ⟨#[]⟩, .string ⟨#[]⟩, .bool false] T.e)) (spB w5.heap.size ⟨0, 0, 0, 0, 0, ⟨#[]⟩, ⟨#[]⟩, false⟩ :: _) := S5.mkB (iy ⟨0, 0, 0, 0, 0, ⟨#[]⟩, ⟨#[]⟩, false⟩).toArray T.e
 generalize w5.heap.size = sb at *
 generalize w5.alloc _ = w6 at *
 have hst : ∀ w' K, stT P T.e (.pointer (some ⟨sb, 0, none⟩)) (ki l[i]) w' K = stN P sb 0 (iy l[i]) w' K := fun w' K => by
  unfold ki
  simp [iy]
 rw [hst]
 refine St.put (vs := iy l[i]) (cs' := (iy l[i]).toArray) S6 (og _) (by simp [iy]) rfl fun w7 S7 => ?_
 have S8 := S7.jl ((Fr.refl _ w7).dr 1)
 have sl : ∀ {w' : World} {L : List Asn}, St w0 w' (spB sb l[i] :: L) → ∀ K, ldN P 8 sb 0 w' K = K (ki l[i]) w' := fun S' K => S'.ldA (n := 8) (i := 0) (iy l[i]) rfl rfl K
 have ct : ic (dr w7 1) sb 0 = some (.int .u64 l[i].iu) := by rw [S8.cell]; rfl
 have lvlen : ∀ w' K, biT P .len #[T.b] T.c [false] [gv x 3] w' K = K (.int .i64 (l.take i).length) w' := fun w' K => (S8.up2.row lk).ja (by kernel_rfl) [false]
 rw [List.length_take, Nat.min_eq_left hi] at lvlen
 have sn : ∀ (x4 : List Value) w', gv x4 0 = gv x 3 → St w0 w' (spB sb l[i] :: kw v5 ((l.drop (i + 1)).flatMap pz) :: lj (gv x 3) (l.take i) :: im tb #[.int .u64 b.n, .int .u64 b.jk] T.d :: (Y ++ R)) → biT P .append #[T.b, T.b] T.b [false, false] [gv x4 0, .slice (some ⟨w'.heap.size, 0, none⟩) 1 1] (w'.alloc (.cells (iy l[i]).toArray T.e)) fun t49 w => (fun x' w' => bme w0 b l tb R x' w' ∧ l.length - slN (gv x' 3) < l.length - slN (gv x 3)) [.pointer (some ⟨sb, 0, none⟩), v5, .int .i64 0, t49, gv x4 1, v5] w := fun x4 w' x40 S' => by
  have S9 : St w0 (w'.alloc (.cells (iy l[i]).toArray T.e)) (lj (.slice (some ⟨w'.heap.size, 0, none⟩) 1 1) [l[i]] :: _) := St.te (l := [l[i]]) S' lk (by simp) (by simp [maxLen])
  rw [x40]
  refine Go.Eng.rk et.b lk og S9.up3 (l2 := [l[i]]) (S9.row lk) (by simp; omega) (by decide) fun w10 v10 S10 => ?_
  have e : l.take (i + 1) = l.take i ++ [l[i]] := by rw [List.take_add_one, List.getElem?_eq_getElem hil]; rfl
  rw [← e] at S10
  have S11 : St w0 w10 (lj v10 (l.take (i + 1)) :: kw v5 ((l.drop (i + 1)).flatMap pz) :: im tb #[.int .u64 b.n, .int .u64 b.jk] T.d :: (Y ++ R)) := S10.swap.drop.swap.drop
  have S12 : St w0 w10 ([lj v10 (l.take (i + 1)), im tb #[.int .u64 b.n, .int .u64 b.jk] T.d, kw v5 ((l.drop (i + 1)).flatMap pz)] ++ (Y ++ R)) := S11.tail (.swap _ _ _)
  refine ⟨⟨i + 1, [kw v5 ((l.drop (i + 1)).flatMap pz)], by omega, bkn, bbw S12⟩, ?_⟩
  have h10 : slN v10 = i + 1 := by
   obtain ⟨_, _, e2, _⟩ := S11.row lk
   rw [e2]
   show (l.take (i + 1)).length = i + 1
   rw [List.length_take]
   omega
  show l.length - slN v10 < _
  rw [h10, hsn]
  omega
 have hbs : ∀ w' K, bsT P T.b 1 #[(0, ki l[i])] w' K = K (.slice (some ⟨w'.heap.size, 0, none⟩) 1 1) (w'.alloc (.cells (iy l[i]).toArray T.e)) := fun w' K => by
  unfold ki
  simp [iy]
 by_cases hi0 : i = 0
 ·simp [lvlen, hi0]
  simp only [sl S8]
  rw [hbs]
  exact sn [gv x 3, gv x 4] (dr w7 1) rfl S8
 ·have hip : 0 < i := by omega
  have hl0 : 0 < (l.take i).length := by rw [List.length_take]; omega
  obtain ⟨ab, ao, cap, hv0, _, _, hc⟩ := (S8.up2.row lk).at (i := 0) hl0
  have hle : (l.take i).length = i := by rw [List.length_take]; omega
  have hia0 : ∀ w' K, iaT P T.b (gv x 3) (.int .i64 0) w' K = K (.pointer (some ⟨ab, ao, none⟩)) w' := fun w' K => by
   rw [hv0, aaz (by simp) (by omega) (by omega)]
   simp
  have htt : (l.take i)[0].iu = l[i].iu := by
   rw [List.getElem_take]
   exact htr _ (List.getElem_mem _) _ (List.getElem_mem _)
  have c0 : ic (dr w7 1) ab ao = some (.int .u64 l[i].iu) := by
   have := hc 0 (.int .u64 (l.take i)[0].iu) rfl
   rw [htt] at this
   simpa using this
  simp [lvlen, hip, hia0, c0, ct]
  simp only [sl S8]
  rw [hbs]
  exact sn [gv x 3, gv x 4] (dr w7 1) rfl S8
end
def ya (b : Bal) : List Value := [.int .u64 b.n, .int .u64 b.jk]
theorem zo (b : Bal) : (ya b).length = 2 := rfl
theorem beh (b : Bal) : ∀ u ∈ ya b, kq u = true := fun u hu => by
 simp only [ya, List.mem_cons, List.not_mem_nil, or_false] at hu
 rcases hu with rfl | rfl <;> rfl
def qr (a : Bal) (l : List Bal) : Bal := l.foldl (fun a x => if a.ww x = true then x else a) a
section
variable {w0 w : World} {R : List Asn}
abbrev baB (b : Nat) (x : Bal) : Asn := im b #[.int .u64 x.n, .int .u64 x.jk] T.d
theorem acm {b : Nat} {x y : Bal} (S : St w0 w (baB b x :: R)) {K : KV} (h : ∀ w', St w0 w' (baB b y :: R) → K undef w') : stT P T.d (.pointer (some ⟨b, 0, none⟩)) (ko y) w K := by
 unfold ko
 simp
 exact St.put (vs := [.int .u64 y.n, .int .u64 y.jk]) (cs' := #[.int .u64 y.n, .int .u64 y.jk]) S (by simp [kq]) (by simp) rfl h
theorem aei (S : St w0 w R) : St w0 (w.alloc (.cells #[.int .u64 0, .int .u64 0] T.d)) (baB w.heap.size ir :: R) := S.mkB #[.int .u64 0, .int .u64 0] T.d
def GrI (w0 : World) (a : Bal) (l : List Bal) (tb : Nat) (R : List Asn) : KL := fun x w1 => ∃ (i : Nat), x = [.int .i64 (i : Nat)] ∧ i ≤ l.length ∧ St w0 w1 (baB tb (qr a (l.take i)) :: R)
theorem avy (S : St w0 w R) {v : Value} {l : List Bal} (hs : ∀ w' L, St w0 w' (L ++ R) → Sl w' 2 ya v l) (hl : l.length ≤ 1000000) (a : Bal) {K : KV} (h : ∀ w', St w0 w' R → K (ko (qr a l)) w') : gr P F.et [ko a, v] w K := by
 rw [M.co.fcall]
 apply M.co.calls
 unfold M.co
 refine St.td S fun tb w1 S1 => ?_
 have S1' : St w0 w1 (baB tb a :: R) := S1
 simp
 have S2 := aei S1'
 generalize w1.heap.size = rb at *
 generalize w1.alloc _ = w2 at *
 have hlen : ∀ w' K, biT P .len #[T.al] T.c [false] [v] w' K = K (.int .i64 l.length) w' := fun w' K => (hs w2 [_, _] S2).ja (by kernel_rfl) [false]
 simp [hlen]
 refine ⟨GrI w0 a l tb (baB rb ir :: R), fun x _ => l.length - ms x 0, ⟨0, rfl, Nat.zero_le _, S2.swap⟩, ?_⟩
 rintro x w3 ⟨i, rfl, hi, S3⟩
 by_cases hil : i < l.length
 ·have hwi : IntKind.i64.wrap ((i : Int) + 1) = ((i + 1 : Nat) : Int) := by rw [ig]; rfl
  simp [hil]
  unfold M.co.j2
  obtain ⟨ab, ao, cap, hv, _, _, hc⟩ := (hs w3 [_, _] S3).at hil
  have hia : ∀ w' K, iaT P T.al v (.int .i64 (i : Nat)) w' K = K (.pointer (some ⟨ab, ao + i * 2, none⟩)) w' := fun w' K => by
   rw [hv, aaz (by kernel_rfl) (by omega) (by omega), show szE P T.al = 2 from by kernel_rfl]
   simp
  have hld : ∀ K, ldN P 2 ab (ao + i * 2) w3 K = K (ko l[i]) w3 := fun K => pg (ya l[i]) 2 rfl hc K
  have e : qr a (l.take (i + 1)) = if (qr a (l.take i)).ww l[i] = true then l[i] else qr a (l.take i) := by
   rw [List.take_add_one, List.getElem?_eq_getElem hil]
   unfold qr
   rw [List.foldl_append]
   rfl
  simp [hia, hld]
  have S4 := aei S3
  generalize w3.heap.size = qb at *
  generalize w3.alloc _ = w4 at *
  refine acm (y := l[i]) S4 fun w5 S5 => ?_
  obtain ⟨_, _, b1⟩ := pk S5
  obtain ⟨_, _, b2⟩ := pk S5.swap
  simp [b1, b2]
  refine bdi _ _ fun w6 f6 => ?_
  have S6 := S5.jl f6
  obtain ⟨_, _, d1⟩ := pk S6
  simp
  rw [bgb]
  have fin : ∀ w', St w0 w' (baB tb (qr a (l.take (i + 1))) :: baB rb ir :: R) → GrI w0 a l tb (baB rb ir :: R) [.int .i64 ((i + 1 : Nat) : Int)] w' ∧ l.length - ms [.int .i64 ((i + 1 : Nat) : Int)] 0 < l.length - ms [.int .i64 (i : Nat)] 0 := fun w' S' => ⟨⟨i + 1, rfl, by omega, S'⟩, by simp [ms, gv]; omega⟩
  cases hb : (qr a (l.take i)).ww l[i] with
  | true =>
   rw [hb] at e
   simp only [if_true] at e
   simp [d1]
   refine acm (y := l[i]) S6.swap fun w7 S7 => ?_
   rw [hwi]
   refine fin w7 ?_
   rw [e]
   exact S7.swap.drop
  | false =>
   rw [hb] at e
   simp only [Bool.false_eq_true, if_false] at e
   simp
   rw [hwi]
   refine fin w6 ?_
   rw [e]
   exact S6.drop
 ·have hie : i = l.length := by omega
  subst hie
  rw [List.take_length] at S3
  obtain ⟨_, _, b1⟩ := pk S3
  simp [b1]
  refine acm (y := qr a l) S3.swap fun w5 S5 => ?_
  obtain ⟨_, _, b2⟩ := pk S5
  have hres : ∀ w' K, pj P T.d (.pointer (some ⟨rb, 0, none⟩)) w' K = ldN P 2 rb 0 w' K := fun w' K => kr
  simp [hres, b2]
  exact h w5 S5.drop.drop
theorem bmh (S : St w0 w R) {v : Value} {l : List Bal} (hs : ∀ w' L, St w0 w' (L ++ R) → Sl w' 2 ya v l) (hl : l.length ≤ 1000000) {K : KV} (h : ∀ w', St w0 w' R → K (ko (qr ir l)) w') : gr P F.fl [v] w K := by
 rw [M.fb.fcall]
 apply M.fb.calls
 unfold M.fb
 simp
 have S2 := aei S
 generalize w.heap.size = rb at *
 generalize w.alloc _ = w2 at *
 refine avy (a := ir) S2 (fun w' L S' => hs w' (L ++ [_]) (by simpa using S')) hl fun w3 S3 => ?_
 refine acm (y := qr ir l) S3 fun w5 S5 => ?_
 obtain ⟨_, _, b2⟩ := pk S5
 have hres : ∀ w' K, pj P T.d (.pointer (some ⟨rb, 0, none⟩)) w' K = ldN P 2 rb 0 w' K := fun w' K => kr
 simp [hres, b2]
 exact h w5 S5.drop
end
def rh (tr : Int) (v : Value) : Pk := ⟨10, tr, ir, ir, 0, false, iz, iz, v⟩
theorem bgz {tr : Int} {v : Value} (h : un tr) : xz (rh tr v) := ⟨h, ⟨by show (0 : Int) ≤ 0 ∧ (0 : Int) < _; omega, by show (0 : Int) ≤ 0 ∧ (0 : Int) < _; omega⟩, ⟨by show (0 : Int) ≤ 0 ∧ (0 : Int) < _; omega, by show (0 : Int) ≤ 0 ∧ (0 : Int) < _; omega⟩⟩
theorem aam {w : World} {tr : Int} {v : Value} {l : List Int} (h : SlU w v l) : ∀ u ∈ pkC (rh tr v), kq u = true := by
 obtain ⟨_, _, e, _⟩ := h
 unfold rh pkC
 rw [e]
 exact ug (b := ir) (s := ir)
theorem amn {w : World} {tr : Int} {v : Value} {l : List Int} (hs : SlU w v l) (hlen : l.length ≤ 1000000) {K : KV} (h : ∀ w' v', SlU w' v' l → (∀ b, v'.ownBlock = some b → w.heap.size ≤ b) → Fz w w' → K (pkA ⟨10, tr, ir, ir, 0, false, iz, iz, v'⟩) w') : gr P F.ax [.iface T.o (.agg #[.int .u64 tr, v])] w K := by
 rw [M.n.fcall]
 apply M.n.calls
 unfold M.n
 obtain ⟨a, c, hv, _⟩ := id hs
 rw [hv]
 simp [aax, zj, adp, aao, abw, xa]
 have S0 := afn w
 have z0 : (w.alloc (.cells #[.int .i64 0, .int .u64 0, .int .u64 0, .int .u64 0, .int .u64 0, .int .u64 0, .int .i64 0, .bool false, .slice none 0 0, .slice none 0 0, .slice none 0 0] T.a)).heap.size = w.heap.size + 1 := jz _ _
 generalize w.alloc (.cells #[.int .i64 0, .int .u64 0, .int .u64 0, .int .u64 0, .int .u64 0, .int .u64 0, .int .i64 0, .bool false, .slice none 0 0, .slice none 0 0, .slice none 0 0] T.a) = w1 at *
 have S1 := acx S0 #[.int .u64 0, .slice none 0 0] T.o
 rw [z0] at S1
 generalize w.heap.size = pb at *
 generalize pb + 1 = ob at *
 refine km (vs := [Value.int .u64 tr, .slice a l.length c]) S1.blk rfl (by simp [kq]) fun w2 b2 f2 => ?_
 have S2 := S1.nl f2 b2
 have thC : ∀ {W : World} {R : List Asn}, St w W (im ob [Value.int .u64 tr, .slice a l.length c].toArray T.o :: R) → ic W ob 0 = some (.int .u64 tr) ∧ ic W ob 1 = some (.slice a l.length c) := fun {W R} S' => by
  have hh := S'.blk
  exact ⟨by rw [ie hh]; rfl, by rw [ie hh]; rfl⟩
 have hpl : pb < w2.heap.size := (Array.getElem?_eq_some_iff.1 S2.swap.blk).1
 have fd : Fz w2 (dr w2 1) := (Fr.refl _ w2).dr 1
 have Sd := S2.jl fd
 obtain ⟨c0, c1⟩ := thC S2
 obtain ⟨e0, e1⟩ := thC Sd
 simp [c0, c1, e0, e1]
 rw [← hv]
 refine aiu ((hs.fr Sd.fr fun _ _ _ h => h)) hlen fun w3 v3 s3 n3 f3 => ?_
 obtain ⟨a3, c3, hv3, _⟩ := id s3
 have S3 := Sd.jl f3
 obtain ⟨g0, g1⟩ := thC S3
 have hnn : ∀ b, v3.ownBlock = some b → b ≠ pb := fun b hb => by
  have := n3 b hb
  have := fd.size
  omega
 have hge : ∀ b, v3.ownBlock = some b → pb ≤ b := fun b hb => by
  have := n3 b hb
  have := fd.size
  omega
 rw [hv3] at s3 hnn hge ⊢
 simp [g0, g1]
 refine km (vs := pkC ⟨10, tr, ir, ir, 0, false, iz, iz, .slice a3 l.length c3⟩) S3.swap.blk rfl ug fun w4 b4 f4 => ?_
 have S4 := S3.swap.nl f4 b4
 have s4 : SlU w4 (.slice a3 l.length c3) l := s3.fr f4 fun b hb _ => hnn b hb
 rw [xy S4]
 have e : pkA ⟨10, tr, ir, ir, 0, false, iz, iz, .slice a3 l.length c3⟩ = .agg #[.int .i64 10, .int .u64 tr, .int .u64 0, .int .u64 0, .int .u64 0, .int .u64 0, .int .i64 0, .bool false, .slice none 0 0, .slice none 0 0, .slice a3 l.length c3] := rfl
 rw [e]
 simp
 refine km (vs := pkC ⟨10, tr, ir, ir, 0, false, iz, iz, .slice a3 l.length c3⟩) S4.blk rfl ug fun w5 b5 f5 => ?_
 have S5 := S4.nl f5 b5
 rw [zw S5]
 exact ⟨rfl, h w5 _ (s4.fr f5 fun b hb _ => hnn b hb) hge S5.fr⟩
theorem awn {w : World} {tr : Int} {v : Value} {l : List Int} (hs : SlU w v l) (hl : l.length ≤ 1000000) (ht : un tr) (hr : ∀ v', tf (rh tr v') [] [] l = true) {K : KV}
  (h : ∀ w' v', SlU w' v' l → (∀ b, v'.ownBlock = some b → w.heap.size ≤ b) → Fz w w' → K (.tuple #[pkA (rh tr v'), .int .i64 0]) w') : gr P F.ey [.iface T.o (.agg #[.int .u64 tr, v])] w K := by
 rw [M.eg.fcall]
 apply M.eg.calls
 unfold M.eg
 simp
 have S1 := aai (St.ji w)
 generalize w.heap.size = tb at *
 generalize w.alloc _ = w1 at *
 have htb : tb < w1.heap.size := (Array.getElem?_eq_some_iff.1 S1.blk).1
 refine amn (hs.fr S1.fr fun _ _ _ h => h) hl fun w2 v2 s2 o2 f2 => ?_
 have S2 := S1.jl f2
 have S3 := aai (St.ji w2)
 generalize w2.heap.size = rb at *
 generalize w2.alloc _ = w3 at *
 have hst : ∀ b w' K, stT P T.a (.pointer (some ⟨b, 0, none⟩)) (pkA (rh tr v2)) w' K = stN P b 0 (pkC (rh tr v2)) w' K := fun b w' K => aak _ _ _ _
 show stT P T.a (.pointer (some ⟨rb, 0, none⟩)) (pkA (rh tr v2)) w3 _
 rw [hst]
 refine adz (q := rh tr v2) S3 rfl (aam s2) fun w4 S4 => ?_
 have s4 := s2.fr S4.fr fun _ _ _ h => h
 have pl := fun K => vk S4 K
 simp [pl]
 refine ahw ⟨Sl.nil, Sl.nil, s4, by simp, by simp, hl⟩ (bgz ht) fun w5 f5 => ?_
 have er : abv (rh tr v2) [] [] l = 0 := by unfold abv; rw [hr]; rfl
 rw [er]
 have S5 := S4.jl f5
 have s5 := s4.fr f5 fun _ _ _ h => h
 have pl5 := fun K => vk S5 K
 simp [pl5]
 rw [hst]
 have S6 : St w w5 (im tb (pkC pkZ).toArray T.a :: []) := S2.jl S5.fr
 refine km (vs := pkC (rh tr v2)) S6.blk rfl (aam s5) fun w6 b6 f6 => ?_
 have S7 := S6.nl f6 b6
 have s6 : SlU w6 v2 l := s5.fr f6 fun b hb _ => by
  have := o2 b hb
  omega
 rw [zw S7]
 exact ⟨rfl, h w6 v2 s6 (fun b hb => Nat.le_trans (Nat.le_of_lt htb) (o2 b hb)) S7.fr⟩
section
variable {w0 w : World} {R : List Asn} {q hb p r : Nat} {L : Lg} {dn : Bool} {D : Dk} {G : Nat} {s f : Int} {lv : Value} {l : List Spn} {b : Bal}
abbrev lc (q hb p r : Nat) (dn : Bool) : Asn := im q (akq hb p r dn) T.ak
theorem tw (S : St w0 w (lc q hb p r dn :: R)) : ic w q 0 = some (.pointer (some ⟨hb, 0, none⟩)) ∧ ic w q 1 = some (jy p) ∧ ic w q 2 = some (.map (some r)) ∧ ic w q 3 = some (.bool dn) :=
 ⟨by rw [S.cell]; rfl, by rw [S.cell]; rfl, by rw [S.cell]; rfl, by rw [S.cell]; rfl⟩
theorem ayh {k : Int} {x1 : List Value} (S : St w0 w (lc q hb p r dn :: R)) (hx : gv x1 0 = .int .i64 k) {K : KV} (h : ∀ w', St w0 w' (lc q hb p r (dn || decide (k = 10)) :: R) → K (.int .i64 k) w') : M.af.j1 (jy q) x1 w K := by
 obtain ⟨_, _, _, c3⟩ := tw S
 unfold M.af.j1 jy
 rw [hx]
 cases dn with
 | true =>
  simp [c3]
  exact S.vz rfl (by simp [akq]) fun w' S' => h w' S'
 | false =>
  by_cases hk : k = 10
  ·subst hk
   simp [c3]
   exact S.vz rfl (by simp [akq]) fun w' S' => h w' S'
  ·simp [c3, hk]
   refine S.vz rfl (by simp [akq]) fun w' S' => h w' ?_
   simp only [hk, decide_false, Bool.false_or]
   exact S'
theorem bbc (S : St w0 w R) (hs : SlS w lv []) {a0 : Value} {K : KV} (h : ∀ w', St w0 w' R → K (.int .i64 0) w') : gr P F.bt [a0, ko b, lv] w K := by
 rw [M.af.fcall]
 apply M.af.calls
 unfold M.af
 refine St.td S fun bb w1 S1 => ?_
 have hlen : ∀ w' K, biT P .len #[T.b] T.c [false] [lv] w' K = K (.int .i64 0) w' := fun w' K => hs.ja (by kernel_rfl) [false]
 simp [hlen]
 exact h w1 S1.drop
theorem bdb (S : St w0 w (lc q hb p r dn :: nb p hb L :: jb hb D :: R)) (hs : ∀ w' L', St w0 w' (L' ++ R) → SlS w' lv l) (hne : l ≠ []) (hr : ∀ s ∈ l, ly s = 0) (hl : l.length ≤ 60) (hg : rq s f L G D) (hn : f + (jt L.ii).length + 1 ≤ 1000000000000) {K : KV}
  (h : ∀ w', St w0 w' (lc q hb p r (dn || decide ((wrF L D [nk b l]).2 = 10)) :: nb p hb (wrF L D [nk b l]).1.1 :: jb hb (wrF L D [nk b l]).1.2 :: R) → K (.int .i64 (wrF L D [nk b l]).2) w') : gr P F.bt [jy q, ko b, lv] w K := by
 rw [M.af.fcall]
 apply M.af.calls
 unfold M.af
 refine St.td S fun bb w1 S1 => ?_
 have S1' : St w0 w1 (im bb #[.int .u64 b.n, .int .u64 b.jk] T.d :: lc q hb p r dn :: nb p hb L :: jb hb D :: R) := S1
 have hlen : ∀ w' K, biT P .len #[T.b] T.c [false] [lv] w' K = K (.int .i64 l.length) w' := fun w' K => (hs w1 [_, _, _, _] S1').ja (by kernel_rfl) [false]
 have hz : ¬ (l.length : Int) = 0 := fun hz => hne (List.eq_nil_of_length_eq_zero (by omega))
 simp [hlen, hne]
 unfold M.af.j0 jy
 have S2 := S1'.jl ((Fr.refl _ w1).dr 1)
 obtain ⟨_, c1, _, _⟩ := tw S2.swap
 obtain ⟨_, _, bl⟩ := pk S2
 simp [c1, bl]
 refine bfm S2 b (fun w' L' S' => hs w' (L' ++ [_, _, _, _]) (by simpa using S')) hr (by omega) fun w3 v3 S3 => ?_
 obtain ⟨_, d1, _, _⟩ := tw S3.up2
 simp [d1]
 have hrec : (nk b l).length ≤ 8192 := by
  have := abn hr
  unfold nk
  rw [List.length_append, List.length_append, mj, mj]
  omega
 have S4 : St w0 w3 (nb p hb L :: jb hb D :: lc q hb p r dn :: kw v3 (nk b l) :: im bb #[.int .u64 b.n, .int .u64 b.jk] T.d :: R) := (S3.up4.up4).tail (.cons _ (List.perm_middle (l₁ := [_, _])))
 refine ayp (av := v3) (rec := nk b l) S4 (bmc S4.swap hg) (by omega) (fun w' L' S' => ?_) fun w5 S5 => ?_
 ·have S6 : St w0 w' ((L' ++ [lc q hb p r dn]) ++ (kw v3 (nk b l) :: im bb #[.int .u64 b.n, .int .u64 b.jk] T.d :: R)) := by simpa using S'
  exact (S6.perm List.perm_middle).row ka
 have ha := bie (b := nk b l) hg hn
 by_cases h0 : (L.append D (nk b l)).2 = 0
 ·rw [aro h0] at h
  have e0 : ∀ Li Di, wrF Li Di [] = ((Li, (Li.oc Di).1), (Li.oc Di).2) := fun Li Di => by unfold wrF tt; simp
  rw [e0] at h
  generalize L.append D (nk b l) = z at *
  cases ha with
  | amo => simp at h0
  | uq => simp at h0
  | jj => simp at h0
  | ok L' D' g' e1 =>
   obtain ⟨_, f1, _, _⟩ := tw S5.up2
   simp [f1]
   refine arz S5 (by have := g'.vir.len; show L'.ii.length ≤ 1000000; omega) fun w6 S6 => ?_
   exact ayh S6.up2 rfl fun w7 S7 => h w7 (S7.up3.drop.up3.drop)
 ·rw [bin h0] at h
  simp [h0]
  exact ayh S5.up2 rfl fun w7 S7 => h w7 (S7.up3.drop.up3.drop)
end
def xk (x y : Spn) : Int := orK [tp x.ji y.ji, tp x.id y.id]
theorem bds {w : World} (x y : Spn) {K : KV} (h : ∀ w', Fz w w' → K (.int .i64 (xk x y)) w') : gr P F.ee [ki x, ki y] w K := by
 rw [M.fc.fcall]
 apply M.fc.calls
 unfold M.fc
 refine St.td (St.ji w) fun b1 w1 S1 => ?_
 refine St.td S1 fun b2 w2 S2 => ?_
 have S3 : St w (dr w2 1) (spB b2 y :: spB b1 x :: []) := S2.jl ((Fr.refl _ w2).dr 1)
 have x3 : ic (dr w2 1) b1 3 = some (.int .u64 x.ji) := by rw [S3.swap.cell]; rfl
 have x1 : ic (dr w2 1) b1 1 = some (.int .u64 x.id) := by rw [S3.swap.cell]; rfl
 have y3 : ic (dr w2 1) b2 3 = some (.int .u64 y.ji) := by rw [S3.cell]; rfl
 have y1 : ic (dr w2 1) b2 1 = some (.int .u64 y.id) := by rw [S3.cell]; rfl
 simp [x3, x1, y3, y1]
 refine abc _ _ ?_
 simp [x3, x1, y3, y1]
 refine abc _ _ ?_
 simp
 have S4 := S3.mkB #[.int .i64 (tp x.ji y.ji), .int .i64 (tp x.id y.id)] T.c
 rw [show (dr w2 1).heap.size = w2.heap.size from rfl] at S4
 have hsl : Sl ((dr w2 1).alloc (.cells #[.int .i64 (tp x.ji y.ji), .int .i64 (tp x.id y.id)] T.c)) 1 zg (.slice (some ⟨w2.heap.size, 0, none⟩) 2 2) [tp x.ji y.ji, tp x.id y.id] := by
  have hh := S4.blk
  refine ⟨some ⟨w2.heap.size, 0, none⟩, 2, rfl, by simp, by simp [maxLen], fun i z hz => ⟨w2.heap.size, 0, rfl, qc hh, fun j u hj => ?_⟩⟩
  rw [ie hh]
  match i, j with
  | 0, 0 => simp [zg] at hz hj ⊢; rw [hz]; exact hj
  | 1, 0 => simp [zg] at hz hj ⊢; rw [hz]; exact hj
  | i + 2, _ => simp at hz
  | _, j + 1 => simp [zg] at hj
 rw [M.dt.fcall]
 exact bcm hsl (by simp) (h _ S4.fr)
def anp (w0 : World) (R : List Asn) (fv : Value) (pf : Spn → Bool) : Prop := ∀ w' L x (K : KV), St w0 w' (L ++ R) → (∀ w'', Fz w' w'' → K (.bool (pf x)) w'') → nn P fv [ki x] w' K
section
variable {w0 w : World} {R : List Asn} {v fv : Value} {l : List Spn} {pf : Spn → Bool}
def bqn (w0 : World) (l : List Spn) (pf : Spn → Bool) (R : List Asn) : KL := fun x w1 => ∃ (i : Nat), gv x 2 = .int .i64 (i : Nat) ∧ i ≤ l.length ∧ (∀ j (h : j < l.length), j < i → pf l[j] = false) ∧ St w0 w1 R
theorem bem (S : St w0 w R) (hs : ∀ w' L, St w0 w' (L ++ R) → SlS w' v l) (hf : anp w0 R fv pf) (hl : l.length ≤ 1000000) {K : KV}
  (hno : (∀ x ∈ l, pf x = false) → ∀ w', St w0 w' R → K (.int .i64 (-1)) w')
  (hyes : ∀ i (hi : i < l.length), pf l[i] = true → (∀ j (h : j < l.length), j < i → pf l[j] = false) → ∀ w', St w0 w' R → K (.int .i64 (i : Nat)) w') : gr P F.bb [v, fv] w K := by
 rw [M.w.fcall]
 apply M.w.calls
 unfold M.w
 have hlen : ∀ w' K, biT P .len #[T.b] T.c [false] [v] w' K = K (.int .i64 l.length) w' := fun w' K => (hs w [] S).ja (by kernel_rfl) [false]
 simp [hlen]
 refine ⟨bqn w0 l pf R, fun x _ => l.length - ms x 2, ⟨0, rfl, Nat.zero_le _, fun j _ h => by omega, S⟩, ?_⟩
 rintro x w1 ⟨i, e2, hi, hpre, S1⟩
 rw [e2]
 by_cases hil : i < l.length
 ·have hwi : IntKind.i64.wrap ((i : Int) + 1) = ((i + 1 : Nat) : Int) := by rw [ig]; rfl
  simp [hil]
  unfold M.w.j2
  rw [e2]
  obtain ⟨ab, ao, cap, hv, _, _, hc⟩ := (hs w1 [] S1).at hil
  have hia : ∀ w' K, iaT P T.b v (.int .i64 (i : Nat)) w' K = K (.pointer (some ⟨ab, ao + i * 8, none⟩)) w' := fun w' K => by rw [hv]; simp [hil]
  have hld : ∀ K, ldN P 8 ab (ao + i * 8) w1 K = K (ki l[i]) w1 := fun K => pg (iy l[i]) 8 rfl hc K
  simp [hia, hld]
  refine hf w1 [] l[i] _ S1 fun w2 f2 => ?_
  have S2 := S1.jl f2
  cases hp : pf l[i] with
  | true =>
   simp
   exact hyes i hil hp hpre w2 S2
  | false =>
   simp
   rw [hwi]
   refine ⟨⟨i + 1, rfl, by omega, fun j h hj => ?_, S2⟩, ?_⟩
   ·by_cases hji : j = i
    ·subst hji; exact hp
    ·exact hpre j h (by omega)
   ·have : ms x 2 = i := by unfold ms; rw [e2]; simp
    rw [this]
    simp [ms, gv]; omega
 ·have hie : i = l.length := by omega
  subst hie
  simp
  refine hno (fun y hy => ?_) w1 S1
  obtain ⟨j, hj, rfl⟩ := List.getElem_of_mem hy
  exact hpre j hj hj
end
open Go.Eng
def leS (x y : Spn) : Prop := x.ji < y.ji ∨ (x.ji = y.ji ∧ x.id ≤ y.id)
theorem vt {x y : Spn} : xk x y < 0 ↔ ¬ leS y x := by
 unfold xk orK tp leS
 by_cases h1 : x.ji < y.ji
 ·have h2 : ¬ y.ji < x.ji := by omega
  simp [h1, h2]
  omega
 ·by_cases h2 : y.ji < x.ji
  ·simp [h1, h2]
  ·have h3 : y.ji = x.ji := by omega
   by_cases h4 : x.id < y.id
   ·simp [h3, h4]
   ·by_cases h5 : y.id < x.id
    ·simp [h3, h4, h5] <;> omega
    ·simp [h3, h4, h5] <;> omega
theorem leS.refl (x : Spn) : leS x x := .inr ⟨rfl, Int.le_refl _⟩
theorem leS.trans {x y z : Spn} (h : leS x y) (h' : leS y z) : leS x z := by unfold leS at *; omega
theorem leS.of {x y : Spn} (h : ¬ leS y x) : leS x y := by unfold leS at *; omega
abbrev oy (l : List Spn) : Prop := l.Pairwise leS
theorem oy.le {l : List Spn} (h : oy l) {i j : Nat} (hij : i ≤ j) (hj : j < l.length) : leS (l[i]'(by omega)) l[j] := by
 by_cases he : i = j
 ·subst he; exact leS.refl _
 ·exact List.pairwise_iff_getElem.1 h i j (by omega) hj (by omega)
theorem apc {l l' : List Spn} (hp : l.Perm l') (h1 : oy l) (h2 : oy l') (hn : ∀ x ∈ l, ∀ y ∈ l, x.id = y.id → x = y) : l = l' :=
 List.Perm.eq_of_pairwise (fun a b ha hb h1 h2 => hn a ha b (hp.mem_iff.2 hb) (by unfold leS at h1 h2; omega)) h1 h2 hp
theorem alo {A B : List Spn} (hA : oy A) (hB : oy B) {s t : Nat} (hs : s ≤ A.length) (h : s = 0 ∨ t = B.length ∨ ∃ (h1 : s - 1 < A.length) (h2 : t < B.length), leS A[s - 1] B[t]) : ∀ x ∈ A.take s, ∀ y ∈ B.drop t, leS x y := by
 intro x hx y hy
 obtain ⟨i, hi, rfl⟩ := List.mem_iff_getElem.1 hx
 obtain ⟨j, hj, rfl⟩ := List.mem_iff_getElem.1 hy
 simp only [List.length_take, List.length_drop] at hi hj
 rw [List.getElem_take, List.getElem_drop]
 rcases h with h | h | ⟨h1, h2, h3⟩
 ·omega
 ·omega
 ·exact ((hA.le (i := i) (j := s - 1) (by omega) h1).trans h3).trans (hB.le (i := t) (j := t + j) (by omega) (by omega))
theorem akh {A B C1 C2 : List Spn} (hA : oy A) (hB : oy B) {s t : Nat} (hs : s ≤ A.length) (ht : t ≤ B.length)
  (h1 : s = 0 ∨ t = B.length ∨ ∃ (h1 : s - 1 < A.length) (h2 : t < B.length), leS A[s - 1] B[t])
  (h2 : t = 0 ∨ s = A.length ∨ ∃ (h1 : t - 1 < B.length) (h2 : s < A.length), leS B[t - 1] A[s])
  (c1 : oy C1) (p1 : C1.Perm (A.take s ++ B.take t)) (c2 : oy C2) (p2 : C2.Perm (A.drop s ++ B.drop t)) : oy (C1 ++ C2) ∧ (C1 ++ C2).Perm (A ++ B) := by
 have k1 := alo hA hB hs h1
 have k2 := alo hB hA ht h2
 refine ⟨List.pairwise_append.2 ⟨c1, c2, fun x hx y hy => ?_⟩, ?_⟩
 ·have hx' := List.mem_append.1 (p1.mem_iff.1 hx)
  have hy' := List.mem_append.1 (p2.mem_iff.1 hy)
  have dA : A = A.take s ++ A.drop s := (List.take_append_drop s A).symm
  have dB : B = B.take t ++ B.drop t := (List.take_append_drop t B).symm
  rw [dA] at hA
  rw [dB] at hB
  rcases hx' with hx' | hx' <;> rcases hy' with hy' | hy'
  ·exact (List.pairwise_append.1 hA).2.2 x hx' y hy'
  ·exact k1 x hx' y hy'
  ·exact k2 x hx' y hy'
  ·exact (List.pairwise_append.1 hB).2.2 x hx' y hy'
 ·refine (p1.append p2).trans ?_
  have e : (A.take s ++ B.take t ++ (A.drop s ++ B.drop t)).Perm (A.take s ++ A.drop s ++ (B.take t ++ B.drop t)) := by
   simp only [List.append_assoc]
   refine List.Perm.append_left _ ?_
   rw [← List.append_assoc, ← List.append_assoc]
   exact List.Perm.append_right _ List.perm_append_comm
  rwa [List.take_append_drop, List.take_append_drop] at e
theorem akk {B : List Spn} {x : Spn} {i : Nat} (hB : oy B) (hi : i ≤ B.length) (h1 : i = 0 ∨ ∃ h : i - 1 < B.length, leS B[i - 1] x) (h2 : i = B.length ∨ ∃ h : i < B.length, leS x B[i]) : oy (B.take i ++ x :: B.drop i) := by
 have h := akh (A := B) (B := [x]) (C1 := B.take i) (C2 := x :: B.drop i) (s := i) (t := 0) hB (by simp) hi (by simp) (by
  rcases h1 with h | ⟨h, hl⟩
  ·exact .inl h
  ·exact .inr (.inr ⟨h, by simp, by simpa using hl⟩)) (.inl rfl) (hB.sublist (List.take_sublist _ _)) (by simp) ?_ (by simpa using (List.perm_append_comm (l₁ := [x]) (l₂ := B.drop i)))
 ·exact h.1
 ·refine List.pairwise_cons.2 ⟨fun y hy => ?_, hB.sublist (List.drop_sublist _ _)⟩
  obtain ⟨j, hj, rfl⟩ := List.mem_iff_getElem.1 hy
  simp only [List.length_drop] at hj
  rw [List.getElem_drop]
  rcases h2 with h | ⟨h, hl⟩
  ·omega
  ·exact hl.trans (hB.le (i := i) (j := i + j) (by omega) (by omega))
theorem akr (B : List Spn) (x : Spn) (i : Nat) : (B.take i ++ x :: B.drop i).Perm (x :: B) := by
 have := List.perm_middle (l₁ := B.take i) (a := x) (l₂ := B.drop i)
 rwa [List.take_append_drop] at this
def ayt (l : List Spn) (i j : Nat) (hi : i < l.length) (hj : j < l.length) : List Spn := (l.set i l[j]).set j l[i]
theorem axq (P Q R : List Spn) (x y : Spn) {l : List Spn} {i j : Nat} (hl : l = P ++ x :: (Q ++ y :: R)) (hi : i = P.length) (hj : j = P.length + 1 + Q.length) (h1 : i < l.length) (h2 : j < l.length) : ayt l i j h1 h2 = P ++ y :: (Q ++ x :: R) := by
 subst hl hi hj
 have e1 : (P ++ x :: (Q ++ y :: R))[P.length]'h1 = x := by simp
 have e2 : (P ++ x :: (Q ++ y :: R))[P.length + 1 + Q.length]'h2 = y := by
  rw [List.getElem_append_right (by omega)]
  have : P.length + 1 + Q.length - P.length = Q.length + 1 := by omega
  simp [this]
 unfold ayt
 rw [e1, e2]
 have : (P ++ x :: (Q ++ y :: R)).set P.length y = P ++ y :: (Q ++ y :: R) := by simp
 rw [this]
 rw [List.set_append_right _ _ (by omega)]
 have : P.length + 1 + Q.length - P.length = Q.length + 1 := by omega
 rw [this]
 simp
abbrev EnS := Bal × Spn
def isE (t : Int) (e : EnS) : Bool := decide (e.2.iu = t)
def uo (es : List EnS) (x : Spn) : Bool := es.any fun e => decide (e.2.iu = x.iu) && decide (e.2.id = x.id)
def na (b : Bal) (es : List EnS) (x : Spn) : List EnS := if uo es x = true then es else es ++ [(b, x)]
def nr (es : List EnS) (t : Int) : List Spn := (es.filter (isE t)).map (·.2)
def wx (es : List EnS) (t : Int) : List Bal := (es.filter (isE t)).map (·.1)
def bOf (es : List EnS) (t : Int) : Bal := qr ir (wx es t)
def yw (l : List Int) (t : Int) : List Int := if t ∈ l then l else l ++ [t]
def mw (es : List EnS) : List Int := es.foldl (fun l e => yw l e.2.iu) []
theorem akj (es : List EnS) (e : EnS) : mw (es ++ [e]) = yw (mw es) e.2.iu := by unfold mw; rw [List.foldl_append]; rfl
theorem akl {l : List Int} {t x : Int} : x ∈ yw l t ↔ x ∈ l ∨ x = t := by
 unfold yw
 split
 ·exact ⟨.inl, fun h => h.elim id fun h => by rw [h]; assumption⟩
 ·simp
theorem bbm {l : List Int} (h : l.Nodup) (t : Int) : (yw l t).Nodup := by
 unfold yw
 split
 ·exact h
 ·rename_i hn
  rw [List.nodup_append]
  exact ⟨h, by simp, fun a ha b hb => by simp at hb; subst hb; exact fun e => hn (e ▸ ha)⟩
theorem aol {es : List EnS} {t : Int} : t ∈ mw es ↔ ∃ e ∈ es, e.2.iu = t := by
 have h : ∀ (es : List EnS) (l : List Int), t ∈ es.foldl (fun l e => yw l e.2.iu) l ↔ t ∈ l ∨ ∃ e ∈ es, e.2.iu = t := by
  intro es
  induction es with
  | nil => simp
  | cons a r ih =>
   intro l
   rw [List.foldl_cons, ih, akl]
   simp only [List.mem_cons, exists_eq_or_imp, or_assoc]
   rw [show (t = a.2.iu) = (a.2.iu = t) from propext ⟨Eq.symm, Eq.symm⟩]
 have := h es []
 simpa [mw] using this
theorem abi (es : List EnS) : (mw es).Nodup := by
 have h : ∀ (es : List EnS) (l : List Int), l.Nodup → (es.foldl (fun l e => yw l e.2.iu) l).Nodup := by
  intro es
  induction es with
  | nil => exact fun l h => h
  | cons a r ih => exact fun l h => ih _ (bbm h _)
 exact h es [] (by simp)
theorem agv (es : List EnS) (b : Bal) (x : Spn) (t : Int) : nr (es ++ [(b, x)]) t = if x.iu = t then nr es t ++ [x] else nr es t := by
 unfold nr
 rw [List.filter_append, List.map_append]
 split <;> rename_i h <;> simp [isE, h]
theorem akp (es : List EnS) (b : Bal) (x : Spn) (t : Int) : wx (es ++ [(b, x)]) t = if x.iu = t then wx es t ++ [b] else wx es t := by
 unfold wx
 rw [List.filter_append, List.map_append]
 split <;> rename_i h <;> simp [isE, h]
theorem apb (a : Bal) (l : List Bal) (b : Bal) : qr a (l ++ [b]) = if (qr a l).ww b = true then b else qr a l := by unfold qr; rw [List.foldl_append]; rfl
theorem blm {l : List Bal} (h : ∀ b ∈ l, b.rng) : ∀ {a : Bal}, a.rng → (qr a l).rng := by
 induction l with
 | nil => exact fun h => h
 | cons x r ih =>
  intro a ha
  show (qr (if a.ww x = true then x else a) r).rng
  refine ih (fun b hb => h b (List.mem_cons_of_mem _ hb)) ?_
  split
  ·exact h x (by simp)
  ·exact ha
theorem bpk : ir.rng := by unfold Bal.rng ir un; simp
theorem bla {a b : Bal} (ha : a.rng) : qr ir [a, b] = if a.ww b = true then b else a := by
 have h : (if ir.ww a = true then a else ir) = a := by
  by_cases hl : ir.ww a = true
  ·rw [if_pos hl]
  ·rw [if_neg hl]
   have h1 := ha
   obtain ⟨n, d⟩ := a
   unfold Bal.rng un at h1
   unfold Bal.ww ir at hl
   simp at hl h1
   unfold ir
   congr 1 <;> omega
 show (if (if ir.ww a = true then a else ir).ww b = true then b else (if ir.ww a = true then a else ir)) = _
 rw [h]
theorem avg {es : List EnS} (hr : ∀ e ∈ es, e.1.rng) (b : Bal) (x : Spn) : bOf (es ++ [(b, x)]) x.iu = qr ir [bOf es x.iu, b] := by
 have h1 : (bOf es x.iu).rng := blm (fun y hy => by
  unfold wx at hy
  obtain ⟨e, he, rfl⟩ := List.mem_map.1 hy
  exact hr e (List.mem_filter.1 he).1) bpk
 rw [bla h1]
 unfold bOf
 rw [akp, if_pos rfl, apb]
theorem bcb {es : List EnS} (b : Bal) (x : Spn) {t : Int} (h : x.iu ≠ t) : bOf (es ++ [(b, x)]) t = bOf es t := by
 unfold bOf
 rw [akp, if_neg h]
theorem aoh {es : List EnS} {t : Int} {x : Spn} : x ∈ nr es t ↔ ∃ b, (b, x) ∈ es ∧ x.iu = t := by
 unfold nr
 constructor
 ·intro h
  obtain ⟨e, he, rfl⟩ := List.mem_map.1 h
  have := List.mem_filter.1 he
  exact ⟨e.1, this.1, by simpa [isE] using this.2⟩
 ·rintro ⟨b, h, ht⟩
  exact List.mem_map.2 ⟨(b, x), List.mem_filter.2 ⟨h, by simpa [isE] using ht⟩, rfl⟩
theorem agr {es : List EnS} {t : Int} (h : t ∉ mw es) : nr es t = [] := by
 rw [List.eq_nil_iff_forall_not_mem]
 intro x hx
 obtain ⟨b, hb, ht⟩ := aoh.1 hx
 exact h (aol.2 ⟨_, hb, ht⟩)
theorem arq {es : List EnS} {t : Int} (h : t ∉ mw es) : wx es t = [] := by
 unfold wx
 rw [List.map_eq_nil_iff, List.filter_eq_nil_iff]
 intro e he hi
 exact h (aol.2 ⟨e, he, by simpa [isE] using hi⟩)
def qh (l : List Spn) : MP := l.map fun s => (s.id, ki s)
theorem asx {α : Type} (f : α → Int) (g : α → Value) (l : List α) (k : Int) : mn (l.map fun s => (f s, g s)) k = (l.find? fun s => decide (f s = k)).map g := by
 induction l with
 | nil => rfl
 | cons a r ih =>
  show (if f a = k then some (g a) else mn (r.map fun s => (f s, g s)) k) = _
  rw [List.find?_cons]
  by_cases h : f a = k
  ·simp [h]
  ·rw [if_neg h, ih]; simp [h]
theorem asf {m : MP} {k : Int} {v : Value} (h : mn m k = none) : tj m k v = m ++ [(k, v)] := by
 induction m with
 | nil => rfl
 | cons a r ih =>
  obtain ⟨y, u⟩ := a
  have h' : (if y = k then some u else mn r k) = none := h
  by_cases hy : y = k
  ·rw [if_pos hy] at h'; cases h'
  ·rw [if_neg hy] at h'
   show (if y = k then (k, v) :: r else (y, u) :: tj r k v) = _
   rw [if_neg hy, ih h']
   rfl
theorem anr {es : List EnS} {x : Spn} : uo es x = (nr es x.iu).any fun s => decide (s.id = x.id) := by
 unfold uo nr
 rw [List.any_map, List.any_filter]
 rfl
theorem auj (es : List EnS) (x : Spn) : (mn (qh (nr es x.iu)) x.id).isSome = uo es x := by
 unfold qh
 rw [asx (fun s : Spn => s.id) ki, anr, Option.isSome_map, Bool.eq_iff_iff, List.find?_isSome, List.any_eq_true]
abbrev WrM := Bal × List Spn
structure okM (m : WrM) : Prop where
 b : m.1.rng
 ne : m.2 ≠ []
 ok : ∀ s ∈ m.2, ly s = 0 ∧ wh s
 tr : ∀ s ∈ m.2, ∀ s' ∈ m.2, s.iu = s'.iu
 len : m.2.length ≤ 16
def qw (m : WrM) : List Int := nk m.1 m.2
def afv (es : List EnS) (m : WrM) : List EnS := m.2.foldl (na m.1) es
def kt (ms : List WrM) : List EnS := ms.foldl afv []
theorem apo (ms : List WrM) (m : WrM) : kt (ms ++ [m]) = afv (kt ms) m := by unfold kt; rw [List.foldl_append]; rfl
theorem avc {m : WrM} (h : okM m) : (qw m).length ≤ 1728 := by
 have h1 := abn fun s hs => (h.ok s hs).1
 have h2 := h.len
 unfold qw nk
 rw [List.length_append, List.length_append, mj, mj]
 omega
structure SI (s f : Int) (L : Lg) (D : Dk) (ms : List WrM) : Prop where
 aag : rq s f L ms.length D
 jc : jt L.ii = ms.map qw
 ok : ∀ m ∈ ms, okM m
theorem SI.len {s f : Int} {L : Lg} {D : Dk} {ms : List WrM} (h : SI s f L D ms) : (jt L.ii).length = ms.length := by rw [h.jc, List.length_map]
inductive aqr (s f iq B : Int) (arm : Bool) (jh : Int) (ms : List WrM) (m : WrM) : Int → List WrM → Bool → Lg → Dk → Prop
 | ok (L : Lg) (D : Dk) : SI s f L D (ms ++ [m]) → L.iq = iq → f + (jt L.ii).length ≤ B → (arm = false → D.jw = false) → D.jh = jh → aqr s f iq B arm jh ms m 0 (ms ++ [m]) false L D
 | uq (L : Lg) (D : Dk) : SI s f L D ms → L.iq = iq → f + (jt L.ii).length ≤ B → (arm = false → D.jw = false) → D.jh = jh → aqr s f iq B arm jh ms m 9 ms false L D
 | jj (L : Lg) (D : Dk) (Q : List Prt) (X : List WrM) : arm = true → D.jj = true → Vir s f Q ms.length D False → jt Q = X.map qw → (X = ms ∨ X = ms ++ [m]) → f + (jt Q).length ≤ B → D.jh = jh → L.iq = iq → f + (jt L.ii).length ≤ B → aqr s f iq B arm jh ms m 10 ms true L D
theorem aww {s f B : Int} {L : Lg} {D : Dk} {ms : List WrM} {m : WrM} (I : SI s f L D ms) (hm : okM m) (hB : f + (jt L.ii).length + 1 ≤ B) (hB2 : B ≤ 1000000000000) :
  aqr s f L.iq B D.jw D.jh ms m (wrF L D [qw m]).2 (if (wrF L D [qw m]).2 = 0 then ms ++ [m] else ms) (decide ((wrF L D [qw m]).2 = 10)) (wrF L D [qw m]).1.1 (wrF L D [qw m]).1.2 := by
 have hl := avc hm
 have hw := bkd (jc := [qw m]) I.aag (fun b hb => by rw [List.mem_singleton.1 hb]; omega) (by simp; omega)
 have hok : ∀ x ∈ ms ++ [m], okM x := fun x hx => by
  rcases List.mem_append.1 hx with hx | hx
  ·exact I.ok x hx
  ·rw [List.mem_singleton.1 hx]; exact hm
 generalize wrF L D [qw m] = z at *
 cases hw with
 | ok L' D' g e1 e2 e3 e4 =>
  have e5 : jt L'.ii = (ms ++ [m]).map qw := by rw [e1, I.jc]; simp
  refine .ok L' D' ⟨?_, e5, hok⟩ e2 (by rw [e1, List.length_append, List.length_singleton]; omega) e4 e3
  have : (ms ++ [m]).length = (jt L'.ii).length := by rw [e5, List.length_map]
  rw [this]; exact g
 | uq i L' D' hi g e1 e2 e3 e4 =>
  have hi0 : i = 0 := by simpa using hi
  rw [hi0, List.take_zero, List.append_nil] at e1
  exact .uq L' D' ⟨g, by rw [e1]; exact I.jc, I.ok⟩ e2 (by rw [e1]; omega) e4 e3
 | jj i L' D' Q b1 b2 b3 b4 b5 b6 b7 b8 =>
  have hb : f + (jt Q).length ≤ B := by rw [b6, List.length_append, List.length_take, List.length_singleton]; omega
  have hb8 : f + (jt L'.ii).length ≤ B := by simp at b8; omega
  cases i with
  | zero => exact .jj L' D' Q ms b1 b4 b5 (by rw [b6, I.jc]; simp) (.inl rfl) hb b7 b2 hb8
  | succ i => exact .jj L' D' Q (ms ++ [m]) b1 b4 b5 (by rw [b6, I.jc, List.take_of_length_le (by simp)]; simp) (.inr rfl) hb b7 b2 hb8
theorem alm {tr : Int} : ∀ {l : List Spn} {met : List Int}, th tr met l = true → (∀ s ∈ l, ly s = 0 ∧ s.iu = tr ∧ s.id ∉ met) ∧ (l.map Spn.id).Nodup
 | [], _, _ => ⟨fun s hs => by simp at hs, by simp⟩
 | s :: r, met, h => by
  rw [th] at h
  simp only [Bool.and_eq_true, decide_eq_true_eq, Bool.not_eq_true', decide_eq_false_iff_not] at h
  obtain ⟨⟨h1, h2, h3⟩, h4⟩ := h
  obtain ⟨k1, k2⟩ := alm h4
  refine ⟨fun x hx => ?_, ?_⟩
  ·rcases List.mem_cons.1 hx with rfl | hx
   ·exact ⟨h1, h2, h3⟩
   ·have := k1 x hx
    exact ⟨this.1, this.2.1, fun hm => this.2.2 (List.mem_append_left _ hm)⟩
  ·rw [List.map_cons, List.nodup_cons]
   refine ⟨fun hm => ?_, k2⟩
   obtain ⟨x, hx, he⟩ := List.mem_map.1 hm
   exact (k1 x hx).2.2 (List.mem_append_right _ (by rw [he]; simp))
structure WrP (p : Pk) (ls : List Spn) : Prop where
 tr : 0 < p.tr
 bn : 0 < p.b.n
 ok : ∀ s ∈ ls, ly s = 0 ∧ s.iu = p.tr
 ids : (ls.map Spn.id).Nodup
 ne : ls ≠ []
 len : ls.length ≤ 16
def wrE (p : Pk) (ls : List Spn) (lm : List Mem) (lu : List Int) : Bool := decide (p.ip = 9) && tf p ls lm lu
theorem ajo {p : Pk} {ls : List Spn} {lm : List Mem} {lu : List Int} (h : wrE p ls lm lu = true) : p.ip = 9 ∧ WrP p ls := by
 unfold wrE at h
 simp only [Bool.and_eq_true, decide_eq_true_eq] at h
 obtain ⟨hk, h⟩ := h
 unfold tf nh ro at h
 simp [hk] at h
 obtain ⟨⟨_, htr⟩, hb, hs, h1, h2⟩ := h
 obtain ⟨k1, k2⟩ := alm hs
 exact ⟨hk, htr, hb, fun s hs => ⟨(k1 s hs).1, (k1 s hs).2.1⟩, k2, fun e => by rw [e] at h1; simp at h1, h2⟩
def jv (es : List EnS) (l : List Spn) : List Spn := l.filter fun x => !uo es x
theorem bia (es : List EnS) (b : Bal) (y x : Spn) : uo (es ++ [(b, y)]) x = (uo es x || (decide (y.iu = x.iu) && decide (y.id = x.id))) := by
 unfold uo; rw [List.any_append]; simp
theorem amq (b : Bal) : ∀ {l : List Spn} {es : List EnS}, (l.map Spn.id).Nodup → (∀ x ∈ l, uo es x = false) → l.foldl (na b) es = es ++ l.map fun x => (b, x)
 | [], es, _, _ => by simp
 | x :: r, es, hn, hx => by
  rw [List.map_cons, List.nodup_cons] at hn
  have h0 := hx x (by simp)
  rw [List.foldl_cons]
  have e1 : na b es x = es ++ [(b, x)] := by unfold na; rw [h0]; simp
  rw [e1, amq b hn.2 fun y hy => ?_]
  ·simp
  ·rw [bia, hx y (List.mem_cons_of_mem _ hy)]
   have : x.id ≠ y.id := fun e => hn.1 (List.mem_map.2 ⟨y, hy, e.symm⟩)
   simp [this]
theorem baf {b : Bal} {l : List Spn} {es : List EnS} (hn : (l.map Spn.id).Nodup) : (jv es l).foldl (na b) es = es ++ (jv es l).map fun x => (b, x) :=
 amq b (((List.filter_sublist).map _).nodup hn) fun x hx => by simpa using (List.mem_filter.1 hx).2
def yb (es : List EnS) : Prop := es.Pairwise fun a b => ¬ (a.2.iu = b.2.iu ∧ a.2.id = b.2.id)
theorem bfi {es : List EnS} (h : yb es) (b : Bal) (x : Spn) : yb (na b es x) := by
 unfold na
 split
 ·exact h
 ·rename_i hn
  unfold yb
  rw [List.pairwise_append]
  refine ⟨h, by simp, fun a ha c hc => ?_⟩
  rw [List.mem_singleton.1 hc]
  rintro ⟨h1, h2⟩
  refine hn ?_
  unfold uo
  rw [List.any_eq_true]
  exact ⟨a, ha, by simp [h1, h2]⟩
theorem apx (b : Bal) : ∀ {l : List Spn} {es : List EnS}, yb es → yb (l.foldl (na b) es)
 | [], _, h => h
 | x :: r, _, h => apx b (l := r) (bfi h b x)
theorem apk : ∀ (ms : List WrM), yb (kt ms) := by
 have h : ∀ (ms : List WrM) (es : List EnS), yb es → yb (ms.foldl afv es) := by
  intro ms
  induction ms with
  | nil => exact fun _ h => h
  | cons m r ih => exact fun es h => ih _ (apx m.1 h)
 exact fun ms => h ms [] List.Pairwise.nil
theorem bhf {es : List EnS} (h : yb es) (t : Int) : ∀ x ∈ nr es t, ∀ y ∈ nr es t, x.id = y.id → x = y := by
 have hp : (nr es t).Pairwise fun x y => x.id ≠ y.id := by
  unfold nr
  rw [List.pairwise_map]
  refine (List.Pairwise.filter _ h).imp_of_mem fun {a b} ha hb hab he => hab ⟨?_, he⟩
  have h1 := (List.mem_filter.1 ha).2
  have h2 := (List.mem_filter.1 hb).2
  simp only [isE, decide_eq_true_eq] at h1 h2
  rw [h1, h2]
 intro x hx y hy he
 have hnd : ((nr es t).map Spn.id).Nodup := by
  rw [List.nodup_iff_pairwise_ne, List.pairwise_map]
  exact hp
 exact yt hnd hx hy he
structure ws (es : List EnS) : Prop where
 rng : ∀ e ∈ es, e.1.rng ∧ ly e.2 = 0 ∧ wh e.2
theorem ago {b : Bal} (hb : b.rng) : ∀ {l : List Spn} {es : List EnS}, (∀ s ∈ l, ly s = 0 ∧ wh s) → ws es → ws (l.foldl (na b) es)
 | [], _, _, h => h
 | x :: r, es, hl, h => ago hb (l := r) (fun s hs => hl s (List.mem_cons_of_mem _ hs)) (by
   unfold na
   split
   ·exact h
   ·refine ⟨fun e he => ?_⟩
    rcases List.mem_append.1 he with he | he
    ·exact h.rng e he
    ·rw [List.mem_singleton.1 he]
     exact ⟨hb, hl x (by simp)⟩)
theorem ajx {ms : List WrM} (h : ∀ m ∈ ms, okM m) : ws (kt ms) := by
 have g : ∀ (ms : List WrM) (es : List EnS), (∀ m ∈ ms, okM m) → ws es → ws (ms.foldl afv es) := by
  intro ms
  induction ms with
  | nil => exact fun _ _ h => h
  | cons m r ih => exact fun es hm h => ih _ (fun x hx => hm x (List.mem_cons_of_mem _ hx)) (ago (hm m (by simp)).b (hm m (by simp)).ok h)
 exact g ms [] h ⟨fun e he => by simp at he⟩
theorem auy {ms : List WrM} (h : ∀ m ∈ ms, okM m) : (kt ms).length ≤ 16 * ms.length := by
 have f : ∀ (b : Bal) (l : List Spn) (es : List EnS), (l.foldl (na b) es).length ≤ es.length + l.length := by
  intro b l
  induction l with
  | nil => simp
  | cons x r ih =>
   intro es
   rw [List.foldl_cons]
   have h1 := ih (na b es x)
   have h2 : (na b es x).length ≤ es.length + 1 := by unfold na; split <;> simp
   simp only [List.length_cons]; omega
 have g : ∀ (ms : List WrM) (es : List EnS), (∀ m ∈ ms, okM m) → (ms.foldl afv es).length ≤ es.length + 16 * ms.length := by
  intro ms
  induction ms with
  | nil => simp
  | cons m r ih =>
   intro es hm
   rw [List.foldl_cons]
   have h1 := ih (afv es m) fun x hx => hm x (List.mem_cons_of_mem _ hx)
   have h2 := f m.1 m.2 es
   have h3 := (hm m (by simp)).len
   unfold afv at h1 ⊢
   simp only [List.length_cons]; omega
 have := g ms [] h
 rw [List.length_nil, Nat.zero_add] at this
 exact this
end Go.Proofs.YtfnhoaemapheoaaGreat
