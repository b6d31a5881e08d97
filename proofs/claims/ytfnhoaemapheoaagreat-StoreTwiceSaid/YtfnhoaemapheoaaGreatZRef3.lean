/-
  The document's rune and the model's. No condition.
-/
import Derived.Test.YtfnhoaemapheoaaGreatZMs2
import Derived.Test.YtfnhoaemapheoaaGreatZEngSl
import Derived.Test.YtfnhoaemapheoaaGreatZSgD
set_option maxRecDepth 100000
namespace Go.Proofs.YtfnhoaemapheoaaGreat
open Go.Eng
theorem ajj {t : ByteArray} (h0 : 0 < t.size) (h1 : ¬ byt t 0 < 128) {n least r : Nat} (hc : na (byt t 0) = (n, least, r)) :
  rr t = if n = 0 ∨ t.size < n then (0, 0) else if sw t (n - 1) = false then (0, 0) else if ka t r (n - 1) < least ∨ 1114111 < ka t r (n - 1) ∨ (55296 ≤ ka t r (n - 1) ∧ ka t r (n - 1) ≤ 57343) then (0, 0) else (ka t r (n - 1), n) := by
 unfold rr
 rw [if_neg (by omega), if_neg h1, hc]
theorem bga (v : Nat) : Utf8.valid (v : Int) = decide (¬ (1114111 < v ∨ (55296 ≤ v ∧ v ≤ 57343))) := by
 unfold Utf8.valid
 rw [Bool.eq_iff_iff]
 simp only [Bool.or_eq_true, Bool.and_eq_true, decide_eq_true_eq]
 omega
def nt (t : ByteArray) (k : Nat) : Bool := decide (k < t.size) && tj t k
def ajb (least n v : Nat) : Nat × Nat := if least ≤ v ∧ ¬ (1114111 < v ∨ (55296 ≤ v ∧ v ≤ 57343)) then (v, n) else (65533, 1)
theorem aad (t : ByteArray) : Utf8.decode t 0 = if byt t 0 < 128 then (byt t 0, 1) else if byt t 0 / 32 = 6 ∧ nt t 1 = true then (if 128 ≤ byt t 0 % 32 * 64 + byt t 1 % 64 then (byt t 0 % 32 * 64 + byt t 1 % 64, 2) else (65533, 1))
  else if byt t 0 / 16 = 14 ∧ nt t 1 = true ∧ nt t 2 = true then ajb 2048 3 (byt t 0 % 16 * 4096 + byt t 1 % 64 * 64 + byt t 2 % 64)
  else if byt t 0 / 8 = 30 ∧ nt t 1 = true ∧ nt t 2 = true ∧ nt t 3 = true then ajb 65536 4 (byt t 0 % 8 * 262144 + byt t 1 % 64 * 4096 + byt t 2 % 64 * 64 + byt t 3 % 64) else (65533, 1) := by
 have e : ∀ k, (t.get! (0 + k)).toNat = byt t k := fun k => by rw [Nat.zero_add]; rfl
 have c0 : ∀ k, (decide (0 + k < t.size) && byt t k / 64 == 2) = nt t k := fun k => by
  have := ahc t k
  have : (byt t k / 64 == 2) = tj t k := by
   unfold tj
   by_cases h : 128 ≤ byt t k <;> by_cases h' : byt t k ≤ 191
   ·have : byt t k / 64 = 2 := by omega
    simp [h, h', this]
   ·have : ¬ byt t k / 64 = 2 := by omega
    simp [h, h', this]
   ·have : ¬ byt t k / 64 = 2 := by omega
    simp [h, h', this]
   ·omega
  rw [this, Nat.zero_add]; rfl
 unfold Utf8.decode ajb
 simp only [e, c0, bga, Bool.and_eq_true, beq_iff_eq, and_assoc, decide_eq_true_eq, ge_iff_le, Utf8.runeError]
theorem xl {t : ByteArray} {k : Nat} (h : nt t k = true) : k < t.size ∧ tj t k = true ∧ 128 ≤ byt t k ∧ byt t k ≤ 191 := by
 unfold nt tj at h
 simp only [Bool.and_eq_true, decide_eq_true_eq] at h
 exact ⟨h.1, by unfold tj; simp [h.2], h.2.1, h.2.2⟩
def act (c : Nat × Nat) : Nat × Nat := if c.2 = 0 then (65533, 1) else c
theorem alu {least n v : Nat} (hn : n ≠ 0) : ajb least n v = act (if v < least ∨ 1114111 < v ∨ (55296 ≤ v ∧ v ≤ 57343) then (0, 0) else (v, n)) := by
 unfold ajb act
 by_cases g : v < least ∨ 1114111 < v ∨ (55296 ≤ v ∧ v ≤ 57343)
 ·rw [if_pos g, if_neg (by omega)]; rfl
 ·rw [if_neg g, if_pos (by omega)]; simp [hn]
theorem ags {t : ByteArray} : ∀ {n : Nat}, sw t n = true ↔ ∀ k, 1 ≤ k → k ≤ n → tj t k = true
 | 0 => ⟨fun _ k h1 h2 => by omega, fun _ => rfl⟩
 | n + 1 => by
  simp only [sw, Bool.and_eq_true, ags (n := n)]
  constructor
  ·rintro ⟨h1, h2⟩ k hk1 hk2
   by_cases hk : k = n + 1
   ·subst hk; exact h2
   ·exact h1 k hk1 (by omega)
  ·intro h
   exact ⟨fun k h1 h2 => h k h1 (by omega), h (n + 1) (by omega) (by omega)⟩
theorem ady {t : ByteArray} (h0 : 0 < t.size) (h1 : ¬ byt t 0 < 128) {n least r : Nat} (hc : na (byt t 0) = (n, least, r)) (hn : 2 ≤ n) (h : ∀ k, 1 ≤ k → k ≤ n - 1 → nt t k = true) :
  rr t = if ka t r (n - 1) < least ∨ 1114111 < ka t r (n - 1) ∨ (55296 ≤ ka t r (n - 1) ∧ ka t r (n - 1) ≤ 57343) then (0, 0) else (ka t r (n - 1), n) := by
 rw [ajj h0 h1 hc]
 have := (xl (h (n - 1) (by omega) (by omega))).1
 rw [if_neg (by omega), if_neg]
 rw [ags.2 fun k h1 h2 => (xl (h k h1 h2)).2.1]; simp
theorem aho {t : ByteArray} (h0 : 0 < t.size) (h1 : ¬ byt t 0 < 128) {n least r : Nat} (hc : na (byt t 0) = (n, least, r)) (hn : 2 ≤ n) (h : ¬ ∀ k, 1 ≤ k → k ≤ n - 1 → nt t k = true) : rr t = (0, 0) := by
 rw [ajj h0 h1 hc]
 by_cases hs : t.size < n
 ·rw [if_pos (.inr hs)]
 ·rw [if_neg (by omega), if_pos]
  cases hcs : sw t (n - 1) with
  | false => rfl
  | true =>
   refine absurd (fun k h1 h2 => ?_) h
   unfold nt
   rw [ags.1 hcs k h1 h2]
   simp; omega
theorem ayk {p : Nat → Prop} : (∀ k, 1 ≤ k → k ≤ 2 - 1 → p k) ↔ p 1 := ⟨fun h => h 1 (by omega) (by omega), fun h k h1 h2 => by
 obtain rfl : k = 1 := by omega
 exact h⟩
theorem ayd {p : Nat → Prop} : (∀ k, 1 ≤ k → k ≤ 3 - 1 → p k) ↔ p 1 ∧ p 2 := ⟨fun h => ⟨h 1 (by omega) (by omega), h 2 (by omega) (by omega)⟩, fun h k h1 h2 => by
 have : k = 1 ∨ k = 2 := by omega
 rcases this with rfl | rfl
 ·exact h.1
 ·exact h.2⟩
theorem axk {p : Nat → Prop} : (∀ k, 1 ≤ k → k ≤ 4 - 1 → p k) ↔ p 1 ∧ p 2 ∧ p 3 := ⟨fun h => ⟨h 1 (by omega) (by omega), h 2 (by omega) (by omega), h 3 (by omega) (by omega)⟩, fun h k h1 h2 => by
 have : k = 1 ∨ k = 2 ∨ k = 3 := by omega
 rcases this with rfl | rfl | rfl
 ·exact h.1
 ·exact h.2.1
 ·exact h.2.2⟩
theorem ahp {x : Nat} (h1 : 128 ≤ x) (h2 : x ≤ 191) : x % 64 = x - 128 := by omega
theorem rf1 (t : ByteArray) (r : Nat) : ka t r 1 = r * 64 + byt t 1 - 128 := rfl
theorem rf2 (t : ByteArray) (r : Nat) : ka t r 2 = (r * 64 + byt t 1 - 128) * 64 + byt t 2 - 128 := rfl
theorem rf3 (t : ByteArray) (r : Nat) : ka t r 3 = ((r * 64 + byt t 1 - 128) * 64 + byt t 2 - 128) * 64 + byt t 3 - 128 := rfl
theorem bmf {t : ByteArray} (h0 : 0 < t.size) (c1 : 194 ≤ byt t 0 ∧ byt t 0 ≤ 223) : Utf8.decode t 0 = act (rr t) := by
 have h1 : ¬ byt t 0 < 128 := by omega
 have hc : na (byt t 0) = (2, 128, byt t 0 - 192) := by unfold na; rw [if_pos c1]
 rw [aad, if_neg h1]
 by_cases hd : nt t 1 = true
 ·rw [ady h0 h1 hc (by decide) (ayk.2 hd), if_pos ⟨by omega, hd⟩, ← alu (by decide)]
  obtain ⟨_, _, g1, g2⟩ := xl hd
  have hv : ka t (byt t 0 - 192) (2 - 1) = byt t 0 % 32 * 64 + byt t 1 % 64 := by
   show ka t (byt t 0 - 192) 1 = _
   rw [rf1, ahp g1 g2]; omega
  rw [hv]
  have hle : byt t 0 % 32 * 64 + byt t 1 % 64 < 55296 := by omega
  unfold ajb
  by_cases hg : 128 ≤ byt t 0 % 32 * 64 + byt t 1 % 64
  ·rw [if_pos hg, if_pos ⟨hg, by omega⟩]
  ·rw [if_neg hg, if_neg fun h => hg h.1]
 ·rw [if_neg fun h => hd h.2, if_neg (by omega), if_neg (by omega), aho h0 h1 hc (by decide) fun h => hd (ayk.1 h)]; rfl
theorem bmu {t : ByteArray} (h0 : 0 < t.size) (c1 : 224 ≤ byt t 0 ∧ byt t 0 ≤ 239) : Utf8.decode t 0 = act (rr t) := by
 have h1 : ¬ byt t 0 < 128 := by omega
 have hc : na (byt t 0) = (3, 2048, byt t 0 - 224) := by unfold na; rw [if_neg (by omega), if_pos c1]
 rw [aad, if_neg h1, if_neg (by omega)]
 by_cases hd : nt t 1 = true ∧ nt t 2 = true
 ·rw [ady h0 h1 hc (by decide) (ayd.2 hd), if_pos ⟨by omega, hd⟩, ← alu (by decide)]
  obtain ⟨_, _, g1, g2⟩ := xl hd.1
  obtain ⟨_, _, g3, g4⟩ := xl hd.2
  have hv : ka t (byt t 0 - 224) (3 - 1) = byt t 0 % 16 * 4096 + byt t 1 % 64 * 64 + byt t 2 % 64 := by
   show ka t (byt t 0 - 224) 2 = _
   rw [rf2, ahp g1 g2, ahp g3 g4]; omega
  rw [hv]
 ·rw [if_neg fun h => hd h.2, if_neg (by omega), aho h0 h1 hc (by decide) fun h => hd (ayd.1 h)]; rfl
theorem bmz {t : ByteArray} (h0 : 0 < t.size) (c1 : 240 ≤ byt t 0 ∧ byt t 0 ≤ 244) : Utf8.decode t 0 = act (rr t) := by
 have h1 : ¬ byt t 0 < 128 := by omega
 have hc : na (byt t 0) = (4, 65536, byt t 0 - 240) := by unfold na; rw [if_neg (by omega), if_neg (by omega), if_pos c1]
 rw [aad, if_neg h1, if_neg (by omega), if_neg (by omega)]
 by_cases hd : nt t 1 = true ∧ nt t 2 = true ∧ nt t 3 = true
 ·rw [ady h0 h1 hc (by decide) (axk.2 hd), if_pos ⟨by omega, hd⟩, ← alu (by decide)]
  obtain ⟨_, _, g1, g2⟩ := xl hd.1
  obtain ⟨_, _, g3, g4⟩ := xl hd.2.1
  obtain ⟨_, _, g5, g6⟩ := xl hd.2.2
  have hv : ka t (byt t 0 - 240) (4 - 1) = byt t 0 % 8 * 262144 + byt t 1 % 64 * 4096 + byt t 2 % 64 * 64 + byt t 3 % 64 := by
   show ka t (byt t 0 - 240) 3 = _
   rw [rf3, ahp g1 g2, ahp g3 g4, ahp g5 g6]; omega
  rw [hv]
 ·rw [if_neg fun h => hd h.2, aho h0 h1 hc (by decide) fun h => hd (axk.1 h)]; rfl
theorem azz (t : ByteArray) (h0 : 0 < t.size) : Utf8.decode t 0 = act (rr t) := by
 by_cases h1 : byt t 0 < 128
 ·have hr : rr t = (byt t 0, 1) := by unfold rr; rw [if_neg (by omega), if_pos h1]
  rw [aad, if_pos h1, hr]; rfl
 by_cases c1 : 194 ≤ byt t 0 ∧ byt t 0 ≤ 223
 ·exact bmf h0 c1
 by_cases c2 : 224 ≤ byt t 0 ∧ byt t 0 ≤ 239
 ·exact bmu h0 c2
 by_cases c3 : 240 ≤ byt t 0 ∧ byt t 0 ≤ 244
 ·exact bmz h0 c3
 have hc : na (byt t 0) = (0, 0, 0) := by unfold na; rw [if_neg c1, if_neg c2, if_neg c3]
 have hr : rr t = (0, 0) := by rw [ajj h0 h1 hc]; simp
 have hb := ahc t 0
 rw [hr, aad, if_neg h1]
 show _ = (65533, 1)
 by_cases d1 : byt t 0 / 32 = 6 ∧ nt t 1 = true
 ·obtain ⟨_, _, g1, g2⟩ := xl d1.2
  rw [if_pos d1, if_neg (by omega)]
 ·rw [if_neg d1, if_neg (by omega)]
  by_cases d3 : byt t 0 / 8 = 30 ∧ nt t 1 = true ∧ nt t 2 = true ∧ nt t 3 = true
  ·rw [if_pos d3]
   unfold ajb
   rw [if_neg (by omega)]
  ·rw [if_neg d3]
set_option maxRecDepth 100000
def kf (s : ByteArray) (i : Nat) : ByteArray := s.extract i s.size
theorem ahb (s : ByteArray) (i : Nat) : (kf s i).size = s.size - i := by simp [kf]
theorem arh (s : ByteArray) (k : Nat) : s.get! k = s.data[k]! := by cases s; rfl
theorem bcn (s : ByteArray) (i k : Nat) : byt (kf s i) k = byt s (i + k) := by
 unfold byt
 rw [arh, arh]
 have h : (kf s i).data = s.data.extract i s.size := by simp [kf]
 rw [h, getElem!_def, getElem!_def, Array.getElem?_extract]
 have hs : s.size = s.data.size := rfl
 by_cases hk : k < min s.size s.data.size - i
 ·rw [if_pos (by omega)]
 ·rw [if_neg (by omega), Array.getElem?_eq_none (by omega)]
theorem bau (s : ByteArray) (i n : Nat) : kf (kf s i) n = kf s (i + n) := by
 unfold kf
 rw [ByteArray.extract_extract]
 congr 1
 simp; omega
theorem atz (s : ByteArray) (i : Nat) : Utf8.decode s i = Utf8.decode (kf s i) 0 := by
 have e : ∀ k, (s.get! (i + k)).toNat = byt (kf s i) k := fun k => by rw [bcn]; rfl
 have e' : ∀ k, ((kf s i).get! (0 + k)).toNat = byt (kf s i) k := fun k => by rw [Nat.zero_add]; rfl
 have c : ∀ k, decide (i + k < s.size) = decide (0 + k < (kf s i).size) := fun k => by
  rw [ahb, decide_eq_decide]; omega
 unfold Utf8.decode
 simp only [e, e', c]
theorem bin (t : ByteArray) : wd t wx = true ↔ 3 ≤ t.size ∧ byt t 0 = 239 ∧ byt t 1 = 191 ∧ byt t 2 = 189 := by
 have hs : t.size = t.data.toList.length := Array.length_toList.symm
 have hr : wx.toList = [239, 191, 189] := by decide +kernel
 have hz : wx.size = 3 := rfl
 unfold wd
 rw [hr, hz, Bool.and_eq_true, decide_eq_true_eq, beq_iff_eq]
 have he : (t.extract 0 3).toList = t.data.toList.take 3 := by
  rw [ByteArray.toList_eq]
  simp
 rw [he]
 have b : ∀ k, byt t k = (t.data.toList[k]?.getD default).toNat := fun k => by
  unfold byt
  rw [arh, getElem!_def]
  simp only [Array.getElem?_toList]
  cases t.data[k]? <;> rfl
 rw [b, b, b, hs]
 have u : ∀ (x : UInt8) (n : Nat) (h : n < 256), x.toNat = n ↔ x = UInt8.ofNat n := fun x n h => by
  constructor
  ·intro hx; rw [← hx]; simp
  ·rintro rfl; simp; omega
 match t.data.toList with
 | [] => simp
 | [x] => simp
 | [x, y] => simp
 | x :: y :: z :: r =>
  simp [u x 239 (by decide), u y 191 (by decide), u z 189 (by decide)]
theorem bjo (t : ByteArray) (h0 : 0 < t.size) : ((rr t).2 ≠ 0 ∧ (rr t).1 = 65533) ↔ (3 ≤ t.size ∧ byt t 0 = 239 ∧ byt t 1 = 191 ∧ byt t 2 = 189) := by
 have hb := ahc t 0
 by_cases h1 : byt t 0 < 128
 ·have hr : rr t = (byt t 0, 1) := by unfold rr; rw [if_neg (by omega), if_pos h1]
  rw [hr]; simp; omega
 by_cases c1 : 194 ≤ byt t 0 ∧ byt t 0 ≤ 223
 ·have hc : na (byt t 0) = (2, 128, byt t 0 - 192) := by unfold na; rw [if_pos c1]
  by_cases hd : nt t 1 = true
  ·rw [ady h0 h1 hc (by decide) (ayk.2 hd)]
   obtain ⟨_, _, g1, g2⟩ := xl hd
   have hv : ka t (byt t 0 - 192) (2 - 1) = (byt t 0 - 192) * 64 + byt t 1 - 128 := rfl
   rw [hv]
   split <;> simp <;> omega
  ·rw [aho h0 h1 hc (by decide) fun h => hd (ayk.1 h)]; simp; omega
 by_cases c2 : 224 ≤ byt t 0 ∧ byt t 0 ≤ 239
 ·have hc : na (byt t 0) = (3, 2048, byt t 0 - 224) := by unfold na; rw [if_neg (by omega), if_pos c2]
  by_cases hd : nt t 1 = true ∧ nt t 2 = true
  ·rw [ady h0 h1 hc (by decide) (ayd.2 hd)]
   obtain ⟨_, _, g1, g2⟩ := xl hd.1
   obtain ⟨g5, _, g3, g4⟩ := xl hd.2
   have hv : ka t (byt t 0 - 224) (3 - 1) = ((byt t 0 - 224) * 64 + byt t 1 - 128) * 64 + byt t 2 - 128 := rfl
   rw [hv]
   split <;> simp <;> omega
  ·rw [aho h0 h1 hc (by decide) fun h => hd (ayd.1 h)]
   simp only [ne_eq, not_true_eq_false, false_and, false_iff]
   rintro ⟨k0, k1, k2, k3⟩
   apply hd
   unfold nt tj
   simp [k2, k3]; omega
 by_cases c3 : 240 ≤ byt t 0 ∧ byt t 0 ≤ 244
 ·have hc : na (byt t 0) = (4, 65536, byt t 0 - 240) := by unfold na; rw [if_neg (by omega), if_neg (by omega), if_pos c3]
  by_cases hd : nt t 1 = true ∧ nt t 2 = true ∧ nt t 3 = true
  ·rw [ady h0 h1 hc (by decide) (axk.2 hd)]
   generalize ka t (byt t 0 - 240) (4 - 1) = v
   split <;> simp <;> omega
  ·rw [aho h0 h1 hc (by decide) fun h => hd (axk.1 h)]; simp; omega
 have hc : na (byt t 0) = (0, 0, 0) := by unfold na; rw [if_neg c1, if_neg c2, if_neg c3]
 have hr : rr t = (0, 0) := by rw [ajj h0 h1 hc]; simp
 rw [hr]; simp; omega
theorem bge (t : ByteArray) : (rr t).2 ≤ t.size := by
 unfold rr
 by_cases h0 : t.size = 0
 ·rw [if_pos h0]; omega
 rw [if_neg h0]
 split
 ·simp; omega
 split
 ·simp
 split
 ·simp
 split
 ·simp
 ·simp; omega
def rrs (s : ByteArray) (i : Nat) : Option (List Nat) :=
 if h : i < s.size then (if h2 : (rr (kf s i)).2 = 0 then none else (rrs s (i + (rr (kf s i)).2)).map ((rr (kf s i)).1 :: ·)) else some []
termination_by s.size - i
decreasing_by omega
def ctl (c : Nat) : Bool := decide (c < 32) || (decide (127 ≤ c) && decide (c ≤ 159))
theorem bco (s : ByteArray) : ∀ (m i : Nat), s.size - i ≤ m → tf s i = match rrs s i with
  | none => false
  | some l => l.all fun c => !ctl c := by
 intro m
 induction m with
 | zero =>
  intro i hm
  unfold tf rrs
  rw [dif_neg (by omega), dif_neg (by omega)]; rfl
 | succ m ih =>
  intro i hm
  unfold tf rrs
  by_cases hi : i < s.size
  ·rw [dif_pos hi, dif_pos hi]
   have ht : 0 < (kf s i).size := by rw [ahb]; omega
   have hd : Utf8.decode s i = act (rr (kf s i)) := by rw [atz, azz _ ht]
   have he := bjo (kf s i) ht
   rw [← bin] at he
   unfold abo
   have hrest : s.extract i s.size = kf s i := rfl
   rw [hrest, hd]
   by_cases h2 : (rr (kf s i)).2 = 0
   ·rw [dif_pos h2]
    have hp : wd (kf s i) wx = false := by
     cases hq : wd (kf s i) wx with
     | false => rfl
     | true => exact absurd h2 (he.2 hq).1
    simp [act, h2, hp]
   ·rw [dif_neg h2]
    have hf : act (rr (kf s i)) = rr (kf s i) := by simp [act, h2]
    rw [hf, ih (i + (rr (kf s i)).2) (by omega)]
    have hb : (decide ((rr (kf s i)).1 < 32) || (decide (127 ≤ (rr (kf s i)).1) && decide ((rr (kf s i)).1 ≤ 159) || decide ((rr (kf s i)).1 = 65533) && !wd (kf s i) wx)) = ctl (rr (kf s i)).1 := by
     unfold ctl
     by_cases hc : (rr (kf s i)).1 = 65533
     ·rw [he.1 ⟨h2, hc⟩, hc]; decide
     ·simp [hc]
    rw [hb]
    cases rrs s (i + (rr (kf s i)).2) with
    | none => simp
    | some l => simp
  ·rw [dif_neg hi, dif_neg hi]; rfl
def bfq (c : Nat) : List Value := [.int .i32 (c : Nat)]
abbrev OwR (w : World) (base : Nat) (v : Value) (l : List Nat) : Prop := Ow w base T.ap 1 bfq v l
def akd (v : Value) : Nat := match v with
 | .string s => s.size
 | _ => 0
def bmo (w : World) (s : ByteArray) : KL := fun x w1 => ∃ (i : Nat) (l : List Nat), x.length = 6 ∧ gv x 5 = .string (kf s i) ∧ OwR w1 w.heap.size (gv x 4) l ∧ Fr (fun _ => False) w w1 ∧ i ≤ s.size ∧ l.length ≤ i ∧ rrs s 0 = (rrs s i).map (l ++ ·)
theorem bfn {w : World} {s : ByteArray} (hs : s.size < 100000) {K : KV} (h0 : rrs s 0 = none → ∀ w', Fr (fun _ => False) w w' → K (.tuple #[.slice none 0 0, .bool false]) w')
  (h1 : ∀ l, rrs s 0 = some l → l.length ≤ s.size → ∀ w' v, OwR w' w.heap.size v l → Fr (fun _ => False) w w' → K (.tuple #[v, .bool true]) w') : jr P F.dh [.string s] w K := by
 apply M.al.calls
 unfold M.al
 rw [gg]
 refine ⟨bmo w s, fun x _ => akd (gv x 5), ⟨0, [], rfl, ?_, Ow.none, Fr.refl _ _, Nat.zero_le _, Nat.le_refl _, by simp⟩, ?_⟩
 ·show Value.string s = _
  unfold kf; simp
 rintro x w1 ⟨i, l, hx, e5, o1, f1, hi, hl, hR⟩
 unfold M.al.j1
 simp only [gg, e5, bjx]
 have hsz := ahb s i
 by_cases hlt : i < s.size
 ·have hlt' : (0 : Int) < ((kf s i).size : Int) := by omega
  simp only [qp, hlt', decide_true, Eng.cond_true]
  unfold M.al.j2
  rw [e5, M.g.fcall]
  refine bhe _ ?_
  simp only [ads, adg, gg, te]
  rw [show rrs s i = _ from rrs.eq_1 s i, dif_pos hlt] at hR
  by_cases h2 : (rr (kf s i)).2 = 0
  ·have h2' : (((rr (kf s i)).2 : Nat) : Int) = 0 := by omega
   simp only [h2', decide_true, Eng.cond_true]
   rw [dif_pos h2] at hR
   exact h0 hR w1 f1
  ·have h2' : ¬ (((rr (kf s i)).2 : Nat) : Int) = 0 := by omega
   simp only [h2', decide_false, Eng.cond_false]
   rw [dif_neg h2] at hR
   have hwd := bge (kf s i)
   unfold M.al.j3
   simp [e5]
   have fa : Fr (fun _ => False) w1 (w1.alloc (.cells #[.int .i32 ((rr (kf s i)).1 : Nat)] T.ap)) := (Fr.refl _ w1).alloc _
   have hge := f1.size
   refine vv et.ar (fun _ => rfl) (fun x u hu => by simp [bfq] at hu; subst hu; rfl) (o1.fr fa fun _ _ h => h) (Sl.one (x := (rr (kf s i)).1) rfl rfl) (by simp; omega) (by decide) (by simp; omega) _ fun v' w2 o2 f2 g2 => ?_
   rw [ape (i := (rr (kf s i)).2) ale (.inr ⟨_, rfl⟩) (.inl ⟨rfl, rfl⟩) hwd (Nat.le_refl _)]
   refine ⟨⟨i + (rr (kf s i)).2, l ++ [(rr (kf s i)).1], rfl, ?_, o2, ?_, by omega, by simp; omega, ?_⟩, ?_⟩
   ·show Value.string _ = _
    rw [← bau]; rfl
   ·refine f1.me ((fa.mono fun _ _ h => h.elim).trans f2) fun b hb he => ?_
    have := (o1.lt he).1; omega
   ·rw [hR]
    cases rrs s (i + (rr (kf s i)).2) <;> simp
   ·show akd (.string ((kf s i).extract (rr (kf s i)).2 (kf s i).size)) < akd (.string (kf s i))
    simp only [akd, ByteArray.size_extract]
    omega
 ·have hlt' : ¬ (0 : Int) < ((kf s i).size : Int) := by omega
  simp only [qp, hlt', decide_false, Eng.cond_false]
  rw [show rrs s i = _ from rrs.eq_1 s i, dif_neg hlt] at hR
  exact h1 l (by simpa using hR) (by omega) w1 _ o1 f1
def NmI (w : World) (l : List Nat) : KL := fun x w1 => ∃ (u : Value) (i : Nat), x = [u, .int .i64 (i : Nat)] ∧ w1 = w ∧ i ≤ l.length ∧ ∀ j c, l[j]? = some c → j < i → ctl c = false
theorem ajy {w : World} (s : ByteArray) {K : KV} (h : ∀ w', Fr (fun _ => False) w w' → K (.int .i64 (ou s)) w') : jr P F.cr [.string s] w K := by
 apply M.ax.calls
 unfold M.ax
 unfold ou at h
 simp only [gg, bjx, km]
 by_cases h0 : s.size = 0
 ·have : (s.size : Int) < 1 := by omega
  simp [h0] at h ⊢
  exact h w (Fr.refl _ _)
 have h0' : ¬ (s.size : Int) < 1 := by omega
 by_cases h1 : 32 < s.size
 ·have h1' : (32 : Int) < s.size := by omega
  simp [h0, h0', h1, h1'] at h ⊢
  exact h w (Fr.refl _ _)
 have h1' : ¬ (32 : Int) < s.size := by omega
 simp [h0, h0', h1, h1'] at h ⊢
 unfold M.ax.j0
 rw [M.al.fcall]
 rw [bco s _ 0 (Nat.le_refl _)] at h
 refine bfn (by omega) (fun hr w1 f1 => ?_) fun l hr hll w1 v o1 f1 => ?_
 ·rw [hr] at h
  simp only [ads, adg, gg]
  refine ⟨fun x w2 => gv x 1 = .int .i64 0 ∧ w2 = w1, fun _ _ => 0, ⟨rfl, rfl⟩, ?_⟩
  rintro x w2 ⟨e1, rfl⟩
  simp [e1]
  have := h w2 f1
  simpa using this
 ·rw [hr] at h
  simp only [ads, adg, gg]
  have hsl : Sl w1 1 bfq v l := o1.sl fun _ => rfl
  refine ⟨NmI w1 l, fun x _ => l.length - ms x 1, ⟨_, 0, rfl, rfl, Nat.zero_le _, fun j c _ h => by omega⟩, ?_⟩
  rintro x w2 ⟨u, i, rfl, rfl, hi, hall⟩
  have q0 : ∀ a b : Value, gv [a, b] 0 = a := fun _ _ => rfl
  have q1 : ∀ a b : Value, gv [a, b] 1 = b := fun _ _ => rfl
  simp only [q0, q1]
  rw [hsl.im (by simp)]
  by_cases hil : i < l.length
  ·have hil' : (i : Int) < l.length := by omega
   simp only [km, hil', decide_true, Eng.cond_true]
   unfold M.ax.j3
   obtain ⟨b, o, cap, rfl, hb, _, hc⟩ := hsl.at hil
   have c0 := hc 0 _ rfl
   simp only [Nat.mul_one, Nat.add_zero] at c0
   generalize hli : l[i] = c at *
   have hgi : l[i]? = some c := by rw [List.getElem?_eq_getElem hil, hli]
   have hw : IntKind.i64.wrap ((i : Int) + 1) = ((i + 1 : Nat) : Int) := by rw [gm (by omega) (by omega)]; rfl
   have bad : ctl c = true → K (.int .i64 5) w2 := fun hct => by
    have : (l.all fun c => !ctl c) = false := by
     rw [List.all_eq_false]
     exact ⟨c, List.mem_of_getElem? hgi, by simp [hct]⟩
    have hh := h w2 f1
    simpa [this] using hh
   have aaq : ctl c = false → ∀ u, NmI w2 l [u, .int .i64 ((i : Int) + 1)] w2 ∧ l.length - ms [u, .int .i64 ((i : Int) + 1)] 1 < l.length - ms [u, .int .i64 (i : Int)] 1 := fun hct u => by
    refine ⟨⟨u, i + 1, rfl, rfl, by omega, fun j c' hj hlt => ?_⟩, by simp [ms, gv]; omega⟩
    by_cases hji : j = i
    ·subst hji; rw [hgi] at hj; cases hj; exact hct
    ·exact hall j c' hj (by omega)
   by_cases d1 : c < 32
   ·have d1' : (c : Int) < 32 := by omega
    simp [q0, q1, hil, c0, d1']
    exact bad (by simp [ctl, d1])
   have d1' : ¬ (c : Int) < 32 := by omega
   by_cases d2 : 127 ≤ c
   ·have d2' : (127 : Int) ≤ c := by omega
    by_cases d3 : c ≤ 159
    ·have d3' : (c : Int) ≤ 159 := by omega
     simp [q0, q1, hil, c0, d1', d2', d3']
     exact bad (by simp [ctl, d2, d3])
    ·have d3' : ¬ (c : Int) ≤ 159 := by omega
     simp [q0, q1, hil, c0, d1', d2', d3', hw]
     exact aaq (by simp [ctl, d1, d3]) _
   ·have d2' : ¬ (127 : Int) ≤ c := by omega
    simp [q0, q1, hil, c0, d1', d2', hw]
    exact aaq (by simp [ctl, d1, d2]) _
  ·have hil' : ¬ (i : Int) < l.length := by omega
   simp only [km, hil', decide_false, Eng.cond_false]
   have : (l.all fun c => !ctl c) = true := by
    rw [List.all_eq_true]
    intro c hc
    obtain ⟨j, hj, rfl⟩ := List.mem_iff_getElem.1 hc
    rw [hall j _ (List.getElem?_eq_getElem hj) (by omega)]; rfl
   simp
   have hh := h w2 f1
   simpa [this] using hh
theorem bne (a b : Int) : orK [a, b] = if a = 0 then b else a := by
 unfold orK
 by_cases ha : a = 0 <;> by_cases hb : b = 0 <;> simp [List.find?, ha, hb]
theorem asm (s : ByteArray) : ou s = 0 ∨ ou s = 5 := by
 unfold ou
 split
 ·exact .inr rfl
 split
 ·exact .inl rfl
 ·exact .inr rfl
theorem atl {w : World} (s : Spn) {K : KV} (h : ∀ w', Fr (fun _ => False) w w' → K (.int .i64 (ku s)) w') : jr P F.dg [jx s] w K := by
 apply M.bn.calls
 unfold M.bn
 rw [bhk]
 have hb := bfj w s
 have hf : Fr (fun _ => False) w (w.alloc (.cells #[.int .u64 s.il, .int .u64 s.id, .int .u64 s.ph, .int .u64 s.jh, .int .u64 s.len, .string s.jn, .string s.name, .bool s.tc] T.e)) := (Fr.refl _ w).alloc _
 generalize w.alloc (.cells #[.int .u64 s.il, .int .u64 s.id, .int .u64 s.ph, .int .u64 s.jh, .int .u64 s.len, .string s.jn, .string s.name, .bool s.tc] T.e) = wa at *
 have c0 := ww hb 0 _ rfl
 have c1 := ww hb 1 _ rfl
 have c3 := ww hb 3 _ rfl
 have c4 := ww hb 4 _ rfl
 have c5 := ww hb 5 _ rfl
 unfold ku at h
 simp only [gg]
 by_cases h0 : s.il = 0
 ·simp [c0, h0] at h ⊢
  exact h wa hf
 by_cases h1 : s.id = 0
 ·simp [c0, c1, h0, h1] at h ⊢
  exact h wa hf
 by_cases h2 : 1099511627776 < s.jh
 ·have h3 : 1099511627776 < max s.jh s.len := by omega
  simp [c0, c1, c3, h0, h1, h2, h3] at h ⊢
  exact h wa hf
 by_cases h2' : 1099511627776 < s.len
 ·have h3 : 1099511627776 < max s.jh s.len := by omega
  simp [c0, c1, c3, c4, h0, h1, h2, h2', h3] at h ⊢
  exact h wa hf
 have h3 : ¬ 1099511627776 < max s.jh s.len := by omega
 rw [if_neg (by simp [h0, h1, h3]), bne] at h
 simp [c0, c1, c3, c4, h0, h1, h2, h2']
 unfold M.bn.j0
 simp [c5]
 rw [M.ax.fcall]
 refine ajy _ fun w2 f2 => ?_
 have hb2 : ast w2 w.heap.size s := f2.heap hb fun h => h
 have d6 := ww hb2 6 _ rfl
 by_cases n1 : ou s.jn = 0
 ·simp [n1, d6] at h ⊢
  rw [M.ax.fcall]
  refine ajy _ fun w3 f3 => ?_
  have hh := h w3 ((hf.trans f2).trans f3)
  rcases asm s.name with n2 | n2
  ·simp [n2] at hh ⊢; exact hh
  ·simp [n2] at hh ⊢; exact hh
 ·have n5 : ou s.jn = 5 := (asm _).resolve_left n1
  have hh := h w2 (hf.trans f2)
  simp [n5] at hh ⊢
  exact hh
def SoI (W : World) (tr : Int) (l : List Spn) : KL := fun x w1 => ∃ (u0 u1 : Value) (i : Nat), x = [u0, u1, .int .i64 (i : Nat)] ∧ i ≤ l.length ∧ rn tr [] l = rn tr ((l.take i).map Spn.id) (l.drop i) ∧ Fr (fun _ => False) W w1
def SiI (W : World) (l : List Spn) (i : Nat) (hi : i < l.length) : KL := fun x w1 => ∃ (u : Value) (j : Nat), x = [u, .int .i64 (j : Nat)] ∧ j ≤ i ∧ (∀ k (hk : k < l.length), k < j → l[k].id ≠ l[i].id) ∧ Fr (fun _ => False) W w1
theorem afi {w : World} {v : Value} {l : List Spn} {tr : Int} (hs : SlS w v l) (hlen : l.length ≤ 1000000) {K : KV} (h : ∀ w', Fr (fun _ => False) w w' → K (.bool (qk tr l)) w') : gb P F.ck [.int .u64 tr, v] w K := by
 rw [M.w.fcall]
 apply M.w.calls
 unfold M.w
 simp only [gg]
 have hln : ∀ w' K, biT P .len #[T.c] T.b [false] [v] w' K = K (.int .i64 l.length) w' := fun w' K => hs.im (by kernel_rfl) [false]
 refine ⟨SoI w tr l, fun x _ => l.length - ms x 2, ⟨_, _, 0, rfl, Nat.zero_le _, by simp, Fr.refl _ _⟩, ?_⟩
 rintro x w1 ⟨u0, u1, i, rfl, hi, hr, f1⟩
 unfold M.w.j1
 by_cases hil : i < l.length
 ·have hili : (i : Int) < (l.length : Int) := by omega
  have hwi : IntKind.i64.wrap ((i : Int) + 1) = ((i + 1 : Nat) : Int) := by rw [gm (by omega) (by omega)]; rfl
  simp [hln, hil]
  unfold M.w.j2
  obtain ⟨b, o, cap, hv, hb, _, hc⟩ := (hs.fr f1 fun _ _ _ h => h : SlS w1 v l).at hil
  have hia : ∀ w' K, iaT P T.c v (.int .i64 (i : Nat)) w' K = K (.pointer (some ⟨b, o + i * 8, none⟩)) w' := fun w' K => by rw [hv]; simp [hil]
  have hld : ∀ K, ldN P 8 b (o + i * 8) w1 K = K (jx l[i]) w1 := fun K => ldS hc K
  have hdrop : l.drop i = l[i] :: l.drop (i + 1) := List.drop_eq_getElem_cons hil
  rw [hdrop] at hr
  simp [hia, hld]
  rw [M.bn.fcall]
  refine atl l[i] fun w2 f2 => ?_
  have no : ∀ w', Fr (fun _ => False) w w' → ¬ (ku l[i] = 0 ∧ l[i].il = tr ∧ l[i].id ∉ (l.take i).map Spn.id) → K (.bool false) w' := fun w' f hn => by
   have := h w' f
   unfold qk at this
   rw [hr, agq hn] at this
   simpa using this
  have c0 : gi w2 b (o + i * 8) = some (.int .u64 l[i].il) := by
   have := hc 0 _ rfl
   rw [Nat.add_zero] at this
   rw [xg (f2.jy b hb fun h => h)]; exact this
  by_cases h1 : ku l[i] = 0
  case neg =>
   simp [h1]
   exact no w2 (f1.trans f2) fun hh => h1 hh.1
  by_cases h2 : l[i].il = tr
  case neg =>
   simp [h1, hia, c0, h2]
   exact no w2 (f1.trans f2) fun hh => h2 hh.2.1
  simp [h1, hia, c0, h2]
  refine ⟨SiI w l i hil, fun x _ => i - ms x 1, ⟨_, 0, rfl, Nat.zero_le _, fun k _ hk => by omega, f1.trans f2⟩, ?_⟩
  rintro x w3 ⟨u, j, rfl, hj, hpre, f3⟩
  have hs3 : SlS w3 v l := hs.fr f3 fun _ _ _ h => h
  by_cases hji : j < i
  ·have hjl : j < l.length := by omega
   have hjii : (j : Int) < (i : Int) := by omega
   have hwj : IntKind.i64.wrap ((j : Int) + 1) = ((j + 1 : Nat) : Int) := by rw [gm (by omega) (by omega)]; rfl
   obtain ⟨b1, o1, c1, e1, _, _, k1⟩ := hs3.at hil
   obtain ⟨b2, o2, c2, e2, _, _, k2⟩ := hs3.at hjl
   have i1 : ∀ w' K, iaT P T.c v (.int .i64 (i : Nat)) w' K = K (.pointer (some ⟨b1, o1 + i * 8, none⟩)) w' := fun w' K => by rw [e1]; simp [hil]
   have i2 : ∀ w' K, iaT P T.c v (.int .i64 (j : Nat)) w' K = K (.pointer (some ⟨b2, o2 + j * 8, none⟩)) w' := fun w' K => by rw [e2]; simp [hjl]
   have q1 := k1 1 _ rfl
   have q2 := k2 1 _ rfl
   simp [hjii]
   unfold M.w.j6
   by_cases he : l[j].id = l[i].id
   ·simp [i1, i2, q1, q2, he]
    refine no _ (f3.dr 1) fun hh => hh.2.2 ?_
    rw [List.mem_map]
    exact ⟨l[j], List.mem_take_iff_getElem.2 ⟨j, by omega, rfl⟩, he⟩
   ·simp [i1, i2, q1, q2, he, hwj]
    refine ⟨⟨_, j + 1, rfl, by omega, fun k hk hkj => ?_, f3.dr 1⟩, by simp [ms, gv]; omega⟩
    by_cases hkj2 : k = j
    ·subst hkj2; exact he
    ·exact hpre k hk (by omega)
  ·have hjii : ¬ (j : Int) < (i : Int) := by omega
   simp [hjii, hwi]
   refine ⟨⟨_, _, i + 1, rfl, by omega, ?_, f3⟩, by simp [ms, gv]; omega⟩
   have hni : l[i].id ∉ (l.take i).map Spn.id := fun hm => by
    obtain ⟨s, hs', hse⟩ := List.mem_map.1 hm
    obtain ⟨k, hk, rfl⟩ := List.mem_take_iff_getElem.1 hs'
    exact hpre k (by omega) (by omega) hse
   rw [hr, zp h1 h2 hni, List.take_add_one, List.map_append, List.getElem?_eq_getElem hil]
   rfl
 ·have hili : ¬ (i : Int) < (l.length : Int) := by omega
  have hr1 : rn tr [] l = true := by rw [hr, List.drop_of_length_le (by omega)]; rfl
  simp [hln, hil]
  unfold M.w.j0
  have fin := h w1 f1
  unfold qk at fin
  rw [hr1] at fin
  by_cases h0 : 0 < l.length
  ·have h0' : (1 : Int) ≤ l.length := by omega
   by_cases h16 : l.length ≤ 16
   ·have h16' : (l.length : Int) ≤ 16 := by omega
    simp [hln, h0', h16']
    simpa [h0, h16] using fin
   ·have h16' : ¬ (l.length : Int) ≤ 16 := by omega
    simp [hln, h0', h16']
    simpa [h0, h16] using fin
  ·have h0' : ¬ (1 : Int) ≤ l.length := by omega
   simp [hln, h0']
   simpa [h0] using fin
def akb (l : List Int) (i : Nat) : Int := match i with
 | 0 => 0
 | i + 1 => l.getD i 0
def RrI (W : World) (l : List Int) : KL := fun x w1 => ∃ (u : Value) (i : Nat), x = [u, .int .i64 (i : Nat)] ∧ i ≤ l.length ∧ qv 0 l = qv (akb l i) (l.drop i) ∧ Fr (fun _ => False) W w1
theorem ayl {w : World} {v : Value} {l : List Int} (hs : SlU w v l) (hlen : l.length ≤ 1000000) (hid : ∀ m ∈ l, 0 ≤ m) {K : KV} (h : ∀ w', Fr (fun _ => False) w w' → K (.bool (qv 0 l && (decide (0 < l.length) && decide (l.length ≤ 16)))) w') : gb P F.dn [v] w K := by
 rw [M.bd.fcall]
 apply M.bd.calls
 unfold M.bd
 simp only [gg]
 have hln : ∀ w' K, biT P .len #[T.k] T.b [false] [v] w' K = K (.int .i64 l.length) w' := fun w' K => hs.im (by kernel_rfl) [false]
 refine ⟨RrI w l, fun x _ => l.length - ms x 1, ⟨_, 0, rfl, Nat.zero_le _, rfl, Fr.refl _ _⟩, ?_⟩
 rintro x w1 ⟨u, i, rfl, hi, hr, f1⟩
 by_cases hil : i < l.length
 ·have hili : (i : Int) < (l.length : Int) := by omega
  have hwi : IntKind.i64.wrap ((i : Int) + 1) = ((i + 1 : Nat) : Int) := by rw [gm (by omega) (by omega)]; rfl
  simp [hln, hil]
  unfold M.bd.j2
  have hs1 : SlU w1 v l := hs.fr f1 fun _ _ _ h => h
  obtain ⟨b, o, cap, hv, hb, hc⟩ := adi hs1 hil
  have hia : ∀ w' K, iaT P T.k v (.int .i64 (i : Nat)) w' K = K (.pointer (some ⟨b, o + i, none⟩)) w' := fun w' K => by rw [hv]; simp [hil]
  have hdrop : l.drop i = l[i] :: l.drop (i + 1) := List.drop_eq_getElem_cons hil
  rw [hdrop, qv] at hr
  have hm0 := hid _ (List.getElem_mem hil)
  have no : ¬ akb l i < l[i] → K (.bool false) (dr w1 1) := fun hn => by
   have := h _ (f1.dr 1)
   rw [hr, decide_eq_false hn] at this
   simpa using this
  have yes : akb l i < l[i] → RrI w l [u, .int .i64 (IntKind.i64.wrap ((i : Int) + 1))] (dr w1 1) ∧ l.length - ms [u, .int .i64 (IntKind.i64.wrap ((i : Int) + 1))] 1 < l.length - ms [u, .int .i64 (i : Nat)] 1 := fun hy => by
   rw [hwi]
   refine ⟨⟨_, i + 1, rfl, by omega, ?_, f1.dr 1⟩, by simp [ms, gv]; omega⟩
   rw [hr, decide_eq_true hy, Bool.true_and]
   show _ = qv (l.getD i 0) _
   rw [List.getD_eq_getElem?_getD, List.getElem?_eq_getElem hil]
   rfl
  by_cases hz : l[i] = 0
  ·simp [hia, hc, hz]
   refine no ?_
   rw [hz]
   cases i with
   | zero => simp [akb]
   | succ j =>
    show ¬ l.getD j 0 < 0
    rw [List.getD_eq_getElem?_getD, List.getElem?_eq_getElem (by omega)]
    have := hid _ (List.getElem_mem (show j < l.length by omega))
    simp; exact this
  cases i with
  | zero =>
   have yy := yes (by show 0 < _; omega)
   have hia' : ∀ w' K, iaT P T.k v (.int .i64 0) w' K = K (.pointer (some ⟨b, o + 0, none⟩)) w' := fun w' K => hia w' K
   have hc0 : gi w1 b o = some (.int .u64 l[0]) := hc
   simp [hia', hc0, hz]
   simpa using yy
  | succ j =>
   have hjl : j < l.length := by omega
   obtain ⟨b2, o2, cap2, hv2, hb2, hc2⟩ := adi hs1 hjl
   have hia2 : ∀ w' K, iaT P T.k v (.int .i64 (j : Nat)) w' K = K (.pointer (some ⟨b2, o2 + j, none⟩)) w' := fun w' K => by rw [hv2]; simp [hjl]
   have hwj : IntKind.i64.wrap (((j + 1 : Nat) : Int) - 1) = (j : Int) := by rw [gm (by omega) (by omega)]; omega
   have hwj' : IntKind.i64.wrap (j : Int) = (j : Int) := by rw [gm (by omega) (by omega)]
   have hpos : (0 : Int) < (j : Int) + 1 := by omega
   have hpos' : (0 : Int) < ((j + 1 : Nat) : Int) := by omega
   have hla : akb l (j + 1) = l[j] := by
    show l.getD j 0 = _
    rw [List.getD_eq_getElem?_getD, List.getElem?_eq_getElem hjl]; rfl
   have hia' : ∀ w' K, iaT P T.k v (.int .i64 ((j : Int) + 1)) w' K = K (.pointer (some ⟨b, o + (j + 1), none⟩)) w' := fun w' K => hia w' K
   by_cases hge : l[j + 1] ≤ l[j]
   ·simp [hia', hc, hz, hpos, hwj', hia2, hc2, hge]
    exact no (by rw [hla]; omega)
   ·have yy := yes (by rw [hla]; omega)
    simp [hia', hc, hz, hpos, hwj', hia2, hc2, hge]
    simpa using yy
 ·have hili : ¬ (i : Int) < (l.length : Int) := by omega
  have hr1 : qv 0 l = true := by rw [hr, List.drop_of_length_le (by omega)]; rfl
  simp [hln, hil]
  unfold M.bd.j0
  have fin := h w1 f1
  rw [hr1] at fin
  by_cases h0 : 0 < l.length
  ·have h0' : (1 : Int) ≤ l.length := by omega
   by_cases h16 : l.length ≤ 16
   ·have h16' : (l.length : Int) ≤ 16 := by omega
    simp [hln, h0', h16']
    simpa [h0, h16] using fin
   ·have h16' : ¬ (l.length : Int) ≤ 16 := by omega
    simp [hln, h0', h16']
    simpa [h0, h16] using fin
  ·have h0' : ¬ (1 : Int) ≤ l.length := by omega
   simp [hln, h0']
   simpa [h0] using fin
def akg (ok : Bool) (jd : Bal) (v : Int) : Bool := (decide (v = 0) || (qj v && !(decide (jd = ic)))) && (if ok = true then !(decide (v = 0)) || decide (jd = ic) else decide (v = 0) && !(decide (jd = ic)))
def lr (p : Pk) (ls : List Spn) (lm : List Mem) (lu : List Int) : Bool :=
 if p.gr = 1 ∨ p.gr = 2 then qk p.tr ls else if p.gr = 3 then yv lm else if p.gr = 4 then decide (0 < p.b.n) else if p.gr = 5 then decide (0 < p.b.n) && akg p.ok p.jd p.v else if p.gr = 6 then decide (0 < p.b.n) && qj p.v else if p.gr = 7 then decide (0 < p.b.n) && (p.ok == decide (p.jd = ic)) else if p.gr = 8 then qj p.v else if p.gr = 9 then decide (0 < p.b.n) && qk p.tr ls else if p.gr = 10 then qv 0 lu && (decide (0 < lu.length) && decide (lu.length ≤ 16)) else false
def acr (p : Pk) (ls : List Spn) (lm : List Mem) (lu : List Int) : Bool := px p (kr p) ls (oc p ls) lm (og p lm) lu (om p lu)
def rl (p : Pk) (ls : List Spn) (lm : List Mem) (lu : List Int) : Bool := (acr p ls lm lu && (decide (p.gr = 3) || decide (0 < p.tr))) && lr p ls lm lu
def aaj (p : Pk) (ls : List Spn) (lm : List Mem) (lu : List Int) : Int := if rl p ls lm lu = true then 0 else 6
def qi (p : Pk) : Pk := if p.gr = 4 ∨ p.gr = 6 then ⟨if p.v = 0 then 4 else 6, p.tr, p.b, ic, p.v, false, ia, ia, ia⟩ else if p.gr = 5 ∨ p.gr = 7 then ⟨p.gr, p.tr, p.b, p.jd, p.v, p.ok, ia, ia, ia⟩ else kr p
theorem beb {p : Pk} {ls : List Spn} {lm : List Mem} {lu : List Int} (hr : xn p) (hk : 1 ≤ p.gr ∧ p.gr ≤ 10) : (sq p ls lm lu && px p (qi p) ls (oc p ls) lm (og p lm) lu (om p lu)) = rl p ls lm lu := by
 have h1 := hr.tr.1
 have h2 := hr.b.1.1
 have core : (sq p ls lm lu && lc p (qi p)) = ((lc p (kr p) && (decide (p.gr = 3) || decide (0 < p.tr))) && lr p ls lm lu) := by
  obtain ⟨k, tr, b, jd, v, ok, sv, mv, iv⟩ := p
  simp only at hk h1 h2
  have hcase : k = 1 ∨ k = 2 ∨ k = 3 ∨ k = 4 ∨ k = 5 ∨ k = 6 ∨ k = 7 ∨ k = 8 ∨ k = 9 ∨ k = 10 := by omega
  rcases hcase with rfl | rfl | rfl | rfl | rfl | rfl | rfl | rfl | rfl | rfl
  ·simp [sq, lr, qi, kr, lc, afm]
   cases qk tr ls <;> by_cases ht : 0 < tr <;> by_cases hb : b = ic <;> by_cases hs : jd = ic <;> by_cases hv : v = 0 <;> cases ok <;> simp [ht, hb, hs, hv]
  ·simp [sq, lr, qi, kr, lc, afm]
   cases qk tr ls <;> by_cases ht : 0 < tr <;> by_cases hb : b = ic <;> by_cases hs : jd = ic <;> by_cases hv : v = 0 <;> cases ok <;> simp [ht, hb, hs, hv]
  ·simp [sq, lr, qi, kr, lc]
   cases yv lm <;> by_cases ht : tr = 0 <;> by_cases hb : b = ic <;> by_cases hs : jd = ic <;> by_cases hv : v = 0 <;> cases ok <;> simp [ht, hb, hs, hv]
  ·simp [sq, lr, qi, kr, lc, art]
   by_cases ht : 0 < tr <;> by_cases hb : 0 < b.n <;> by_cases hs : jd = ic <;> by_cases hv : v = 0 <;> cases ok <;> simp [ht, hb, hs, hv]
  ·simp [sq, lr, qi, kr, lc, ago, akg]
   by_cases ht : tr = 0 <;> by_cases hb : b.n = 0 <;> by_cases hs : jd = ic <;> by_cases hv : v = 0 <;> cases ok <;> cases htl : qj v <;> simp [ht, hb, hs, hv, htl] <;> first | omega | (subst hv; simp [qj] at htl) | skip
  ·simp [sq, lr, qi, kr, lc, art]
   by_cases ht : 0 < tr <;> by_cases hb : 0 < b.n <;> by_cases hs : jd = ic <;> by_cases hv : v = 0 <;> cases ok <;> simp [ht, hb, hs, hv] <;> first | rfl | (simp [qj]; done) | skip
  ·simp [sq, lr, qi, kr, lc, ago]
   by_cases ht : tr = 0 <;> by_cases hb : b.n = 0 <;> by_cases hs : jd = ic <;> by_cases hv : v = 0 <;> cases ok <;> simp [ht, hb, hs, hv] <;> first | omega | skip
  ·simp [sq, lr, qi, kr, lc, aoj]
   by_cases ht : 0 < tr <;> by_cases hb : b = ic <;> by_cases hs : jd = ic <;> cases ok <;> simp [ht, hb, hs]
  ·simp [sq, lr, qi, kr, lc, ahq]
   cases qk tr ls <;> by_cases ht : 0 < tr <;> by_cases hb : 0 < b.n <;> by_cases hs : jd = ic <;> by_cases hv : v = 0 <;> cases ok <;> simp [ht, hb, hs, hv]
  ·simp [sq, lr, qi, kr, lc, ajh]
   cases qv 0 lu <;> by_cases ht : 0 < tr <;> by_cases hb : b = ic <;> by_cases hs : jd = ic <;> by_cases hv : v = 0 <;> cases ok <;> simp [ht, hb, hs, hv]
 unfold rl acr px
 generalize decide (lm = og p lm) = A
 generalize decide (lu = om p lu) = B
 generalize qw ls (oc p ls) = C
 cases A <;> cases B <;> cases C <;> simp <;> simpa using core
theorem wk {p q q' : Pk} (h1 : q.gr = q'.gr) (h2 : q.tr = q'.tr) (h3 : q.b = q'.b) (h4 : q.jd = q'.jd) (h5 : q.v = q'.v) (h6 : q.ok = q'.ok) : lc p q = lc p q' := by
 unfold lc; rw [h1, h2, h3, h4, h5, h6]
theorem bak {w : World} {p : Pk} {ls : List Spn} {lm : List Mem} {lu : List Int} {t : Value} (ht : ThR w p ls lm lu t) (hk : 1 ≤ p.gr ∧ p.gr ≤ 10) (l1 : ls.length ≤ 1000000) (l2 : lm.length ≤ 1000000) (l3 : lu.length ≤ 1000000) {K : KV}
  (h : ∀ w' q, pw w' q (oc p ls) (og p lm) (om p lu) → (∀ x, lc x q = lc x (qi p)) → Fr (fun _ => False) w w' → K (pkA q) w') : gb P F.au [t] w K := by
 have e0 : ([] : List Spn).length ≤ 1000000 := by simp
 have e1 : ([] : List Mem).length ≤ 1000000 := by simp
 have e2 : ([] : List Int).length ≤ 1000000 := by simp
 cases ht with
 | nk v q hs =>
  have hS : oc p ls = ls := by unfold oc; rw [if_pos (by omega)]
  have hM : og p lm = [] := by unfold og; rw [if_neg (by omega)]
  have hU : om p lu = [] := by unfold om; rw [if_neg (by omega)]
  rw [hS, hM, hU] at h
  refine ama hs l1 fun w' v' s f => h w' _ ⟨s, Sl.nil, Sl.nil, l1, e1, e2⟩ (fun x => wk ?_ ?_ ?_ ?_ ?_ ?_) f
  all_goals rcases q with q | q <;> simp [qi, kr, q]
 | agf v q hs =>
  have hS : oc p ls = [] := by unfold oc; rw [if_neg (by omega)]
  have hM : og p lm = lm := by unfold og; rw [if_pos (by omega)]
  have hU : om p lu = [] := by unfold om; rw [if_neg (by omega)]
  rw [hS, hM, hU] at h
  refine ayg hs l2 fun w' v' s f => h w' ⟨3, 0, ic, ic, 0, false, ia, v', ia⟩ ⟨Sl.nil, s, Sl.nil, e0, l2, e2⟩ (fun x => wk ?_ ?_ ?_ ?_ ?_ ?_) f
  all_goals simp [qi, kr, q]
 | ask q =>
  have hS : oc p ls = [] := by unfold oc; rw [if_neg (by omega)]
  have hM : og p lm = [] := by unfold og; rw [if_neg (by omega)]
  have hU : om p lu = [] := by unfold om; rw [if_neg (by omega)]
  rw [hS, hM, hU] at h
  refine asf fun w' f => h w' _ ⟨Sl.nil, Sl.nil, Sl.nil, e0, e1, e2⟩ (fun x => wk ?_ ?_ ?_ ?_ ?_ ?_) f
  all_goals rcases q with q | q <;> simp [qi, bcp, q]
 | yz q =>
  have hS : oc p ls = [] := by unfold oc; rw [if_neg (by omega)]
  have hM : og p lm = [] := by unfold og; rw [if_neg (by omega)]
  have hU : om p lu = [] := by unfold om; rw [if_neg (by omega)]
  rw [hS, hM, hU] at h
  refine alp fun w' f => h w' _ ⟨Sl.nil, Sl.nil, Sl.nil, e0, e1, e2⟩ (fun x => wk ?_ ?_ ?_ ?_ ?_ ?_) f
  all_goals rcases q with q | q <;> simp [qi, q]
 | ut q =>
  have hS : oc p ls = [] := by unfold oc; rw [if_neg (by omega)]
  have hM : og p lm = [] := by unfold og; rw [if_neg (by omega)]
  have hU : om p lu = [] := by unfold om; rw [if_neg (by omega)]
  rw [hS, hM, hU] at h
  refine aof fun w' f => h w' _ ⟨Sl.nil, Sl.nil, Sl.nil, e0, e1, e2⟩ (fun x => wk ?_ ?_ ?_ ?_ ?_ ?_) f
  all_goals simp [qi, kr, q]
 | vz v q hs =>
  have hS : oc p ls = ls := by unfold oc; rw [if_pos (by omega)]
  have hM : og p lm = [] := by unfold og; rw [if_neg (by omega)]
  have hU : om p lu = [] := by unfold om; rw [if_neg (by omega)]
  rw [hS, hM, hU] at h
  refine aju hs l1 fun w' v' s f => h w' _ ⟨s, Sl.nil, Sl.nil, l1, e1, e2⟩ (fun x => wk ?_ ?_ ?_ ?_ ?_ ?_) f
  all_goals simp [qi, kr, q]
 | ym v q hs =>
  have hS : oc p ls = [] := by unfold oc; rw [if_neg (by omega)]
  have hM : og p lm = [] := by unfold og; rw [if_neg (by omega)]
  have hU : om p lu = lu := by unfold om; rw [if_pos (by omega)]
  rw [hS, hM, hU] at h
  refine amd hs l3 fun w' v' s f => h w' _ ⟨Sl.nil, Sl.nil, s, e0, e1, l3⟩ (fun x => wk ?_ ?_ ?_ ?_ ?_ ?_) f
  all_goals simp [qi, kr, q]
 | none q => exact absurd hk q
theorem bam {p : Pk} {ls : List Spn} {lm : List Mem} {lu : List Int} (h : ¬ (1 ≤ p.gr ∧ p.gr ≤ 10)) : rl p ls lm lu = false := by
 unfold rl lr
 rw [if_neg (by omega), if_neg (by omega), if_neg (by omega), if_neg (by omega), if_neg (by omega), if_neg (by omega), if_neg (by omega), if_neg (by omega), if_neg (by omega), Bool.and_false]
theorem afq {w : World} {p : Pk} {ls : List Spn} {lm : List Mem} {lu : List Int} (hp : pw w p ls lm lu) (hr : xn p) {K : KV} (h : ∀ w', Fr (fun _ => False) w w' → K (.int .i64 (aaj p ls lm lu)) w') : gb P F.du [pkA p] w K := by
 rw [M.dq.fcall]
 apply M.dq.calls
 unfold M.dq
 refine St.sx (St.jh w) fun pb w1 S1 => ?_
 have S1' : St w w1 (gp pb (pkC p).toArray T.a :: []) := S1
 have pl := fun K => qc S1' K
 simp [pl]
 refine anr (hp.fr S1.fr) fun w2 t ht _ f2 => ?_
 have S2 := S1'.jg f2
 have S3 := S2.jg ((Fr.refl _ w2).dr 1)
 unfold aaj at h
 by_cases hk : 1 ≤ p.gr ∧ p.gr ≤ 10
 case neg =>
  rw [ht.blu hk]
  rw [bam hk] at h
  simp [bhb]
  exact h _ S3.fr
 rw [← beb hr hk] at h
 simp [ht.eqn hk]
 have ht3 := ht.fr ((Fr.refl _ w2).dr 1)
 refine bim ht3 hk hp.ls hp.lm hp.lu fun w4 f4 => ?_
 have S4 := S3.jg f4
 have pl4 := fun K => qc S4 K
 cases hb : sq p ls lm lu with
 | false =>
  rw [hb] at h
  simp
  exact h _ S4.fr
 | true =>
 rw [hb, Bool.true_and] at h
 simp [pl4]
 refine bak (ht3.fr f4) hk hp.ls hp.lm hp.lu fun w5 q hq hf f5 => ?_
 have S5 := S4.jg f5
 have pl5 := fun K => qc S5 K
 simp [pl5]
 refine bff (hp.fr S5.fr) hq fun w6 f6 => ?_
 have S6 := S5.jg f6
 have fin := h w6 S6.fr
 have e : px p q ls (oc p ls) lm (og p lm) lu (om p lu) = px p (qi p) ls (oc p ls) lm (og p lm) lu (om p lu) := by unfold px; rw [hf p]
 rw [e]
 generalize px p (qi p) ls (oc p ls) lm (og p lm) lu (om p lu) = bb at *
 cases bb with
 | true => simp at fin ⊢; exact fin
 | false => simp at fin ⊢; exact fin
theorem bdv {w : World} {p : Pk} {ls : List Spn} {lm : List Mem} {lu : List Int} (hp : pw w p ls lm lu) (hr : xn p) {K : KV} (h1 : rl p ls lm lu = true → ∀ w' t, ThR w' p ls lm lu t → aio w t → Fr (fun _ => False) w w' → K (.tuple #[t, .int .i64 0]) w') (h0 : rl p ls lm lu = false → ∀ w', Fr (fun _ => False) w w' → K (.tuple #[.nilIface, .int .i64 6]) w') : gb P F.eo [pkA p] w K := by
 rw [M.ee.fcall]
 apply M.ee.calls
 unfold M.ee
 refine St.sx (St.jh w) fun pb w1 S1 => ?_
 have S1' : St w w1 (gp pb (pkC p).toArray T.a :: []) := S1
 have pl := fun K => qc S1' K
 simp [pl]
 refine afq (hp.fr S1.fr) hr fun w2 f2 => ?_
 have S2 := S1'.jg f2
 unfold aaj
 cases he : rl p ls lm lu with
 | false =>
  simp
  exact h0 he w2 S2.fr
 | true =>
  simp
  have pl2 := fun K => qc S2 K
  simp [pl2]
  refine anr (hp.fr S2.fr) fun w3 t ht ho f3 => ?_
  exact h1 he w3 t ht (ho.mono S2.fr.size) (S2.jg f3).fr
theorem adw {x : Int} (h : 0 ≤ x) : decide (0 < x) = !decide (x = 0) := by
 by_cases hx : x = 0
 ·simp [hx]
 ·have : 0 < x := by omega
  simp [hx, this]
theorem bio {v : Int} : qj v = (decide (1 ≤ v) && decide (v ≤ 3)) := by unfold qj; simp
theorem aoa {w : World} {p : Pk} {ls : List Spn} {lm : List Mem} {lu : List Int} (hp : pw w p ls lm lu) (hr : xn p) (hm : ∀ m ∈ lm, 0 ≤ m.id) (hu : ∀ m ∈ lu, 0 ≤ m) {K : KV} (h : ∀ w', Fr (fun _ => False) w w' → K (.int .i64 (aaj p ls lm lu)) w') : gb P F.de [pkA p] w K := by
 rw [M.au.fcall]
 apply M.au.calls
 unfold M.au
 refine St.sx (St.jh w) fun pb w1 S1 => ?_
 have S1' : St w w1 (gp pb (pkC p).toArray T.a :: []) := S1
 obtain ⟨_, _, _, c4, _⟩ := jb S1'
 have S1d := S1'.jg ((Fr.refl _ w1).dr 1)
 have pl := fun K => qc S1d K
 simp [c4, bll, vd, pl]
 refine bha (hp.fr S1d.fr) fun w2 f2 => ?_
 have S2 := S1d.jg f2
 have pl2 := fun K => qc S2 K
 simp [pl2]
 refine ams (hp.fr S2.fr) (avd (hp.fr S2.fr)) fun w3 f3 => ?_
 have S3 := S2.jg f3
 obtain ⟨c0, c1, c2, c4, c6, c7, c8, c9, c10, _⟩ := jb S3
 have hbn : gi w3 pb 2 = some (.int .u64 p.b.n) := by rw [S3.cell]; rfl
 have hp3 := hp.fr S3.fr
 show _
 have eB : px p (kr p) ls (oc p ls) lm (og p lm) lu (om p lu) = acr p ls lm lu := rfl
 rw [eB]
 have h1 := hr.tr.1
 have h2 := hr.b.1.1
 unfold aaj rl at h
 rw [adw h1] at h
 have hbo : aes P T.ao = true := by kernel_rfl
 -- the ut of its verdict
 have main : ∀ (B : Bool), B = (acr p ls lm lu && (decide (p.gr = 3) || !decide (p.tr = 0))) → ∀ (K0 : KL), (∀ (v0 v1 : Value) (r : List Value) (w4 : World), Fr (fun _ => False) w w4 → K0 (v0 :: v1 :: .bool (B && lr p ls lm lu) :: r) w4) →
   ∀ t33 x1, t33 = .int .i64 p.gr → x1 = [.bool (decide (p.gr = 1) || decide (p.gr = 2))] → M.au.j1 x1 (.bool B) (.pointer (some ⟨pb, 0, none⟩)) K0 t33 (.bool (qj p.v)) (.bool (decide (p.jd = ic))) w3 K := by
  intro B eB K0 hK t33 x1 e33 ex
  subst e33 ex
  unfold M.au.j1
  have fin := fun v0 v1 r => hK v0 v1 r w3 S3.fr
  by_cases q12 : p.gr = 1 ∨ p.gr = 2
  ·have hk : lr p ls lm lu = qk p.tr ls := by unfold lr; rw [if_pos q12]
   rw [hk] at hK fin
   have hd : (decide (p.gr = 1) || decide (p.gr = 2)) = true := by simpa using q12
   rw [hd]
   cases B with
   | false => simp at fin ⊢; exact fin _ _ _
   | true =>
    simp [c1, c8]
    refine afi hp3.s hp.ls fun w4 f4 => ?_
    exact hK _ _ _ w4 (S3.fr.trans f4)
  have n1 : ¬ p.gr = 1 := fun h => q12 (.inl h)
  have n2 : ¬ p.gr = 2 := fun h => q12 (.inr h)
  by_cases q3 : p.gr = 3
  ·have hk : lr p ls lm lu = yv lm := by unfold lr; rw [if_neg q12, if_pos q3]
   rw [hk] at hK fin
   cases B with
   | false => simp [n1, n2, q3] at fin ⊢; exact fin _ _ _
   | true =>
    simp [q3, c9]
    refine aod hp3.m hp.lm hm fun w4 f4 => ?_
    exact hK _ _ _ w4 (S3.fr.trans f4)
  by_cases q4 : p.gr = 4
  ·have hk : lr p ls lm lu = !decide (p.b.n = 0) := by unfold lr; rw [if_neg q12, if_neg q3, if_pos q4, adw h2]
   rw [hk] at hK fin
   cases B with
   | false => simp [n1, n2, q3, q4] at fin ⊢; exact fin _ _ _
   | true => simp [q4, hbn] at fin ⊢; exact fin _ _ _
  by_cases q5 : p.gr = 5
  ·have hk : lr p ls lm lu = (!decide (p.b.n = 0) && akg p.ok p.jd p.v) := by unfold lr; rw [if_neg q12, if_neg q3, if_neg q4, if_pos q5, adw h2]
   rw [hk] at hK fin
   unfold akg at fin
   cases B with
   | false => cases hok : p.ok <;> simp [n1, n2, q3, q4, q5, c7, hok] at fin ⊢ <;> exact fin _ _ _
   | true =>
    cases hok : p.ok <;> cases htl : qj p.v <;> by_cases hb : p.b.n = 0 <;> by_cases hv : p.v = 0 <;> by_cases hs : p.jd = ic <;> simp [q5, hbn, c7, c6, hok, htl, hb, hv, hs] at fin ⊢ <;> exact fin _ _ _
  by_cases q6 : p.gr = 6
  ·have hk : lr p ls lm lu = (!decide (p.b.n = 0) && qj p.v) := by unfold lr; rw [if_neg q12, if_neg q3, if_neg q4, if_neg q5, if_pos q6, adw h2]
   rw [hk] at hK fin
   cases B with
   | false => simp [n1, n2, q3, q4, q5, q6] at fin ⊢; exact fin _ _ _
   | true => by_cases hb : p.b.n = 0 <;> simp [q6, hbn, hb] at fin ⊢ <;> exact fin _ _ _
  by_cases q7 : p.gr = 7
  ·have hk : lr p ls lm lu = (!decide (p.b.n = 0) && (p.ok == decide (p.jd = ic))) := by unfold lr; rw [if_neg q12, if_neg q3, if_neg q4, if_neg q5, if_neg q6, if_pos q7, adw h2]
   rw [hk] at hK fin
   cases B with
   | false => simp [n1, n2, q3, q4, q5, q6, q7] at fin ⊢; exact fin _ _ _
   | true => by_cases hb : p.b.n = 0 <;> simp [q7, hbn, hb, c7, aeh hbo] at fin ⊢ <;> exact fin _ _ _
  by_cases q8 : p.gr = 8
  ·have hk : lr p ls lm lu = qj p.v := by unfold lr; rw [if_neg q12, if_neg q3, if_neg q4, if_neg q5, if_neg q6, if_neg q7, if_pos q8]
   rw [hk] at hK fin
   cases B with
   | false => simp [n1, n2, q3, q4, q5, q6, q7, q8] at fin ⊢; exact fin _ _ _
   | true => simp [q8] at fin ⊢; exact fin _ _ _
  by_cases q9 : p.gr = 9
  ·have hk : lr p ls lm lu = (!decide (p.b.n = 0) && qk p.tr ls) := by unfold lr; rw [if_neg q12, if_neg q3, if_neg q4, if_neg q5, if_neg q6, if_neg q7, if_neg q8, if_pos q9, adw h2]
   rw [hk] at hK fin
   cases B with
   | false => simp [n1, n2, q3, q4, q5, q6, q7, q8, q9] at fin ⊢; exact fin _ _ _
   | true =>
    by_cases hb : p.b.n = 0
    ·simp [q9, hbn, hb] at fin ⊢; exact fin _ _ _
    ·simp [q9, hbn, hb, c1, c8]
     refine afi hp3.s hp.ls fun w4 f4 => ?_
     have fin4 := fun v0 v1 r => hK v0 v1 r w4 (S3.fr.trans f4)
     simp [hb] at fin4 ⊢
     exact fin4 _ _ _
  by_cases q10 : p.gr = 10
  ·have hk : lr p ls lm lu = (qv 0 lu && (decide (0 < lu.length) && decide (lu.length ≤ 16))) := by unfold lr; rw [if_neg q12, if_neg q3, if_neg q4, if_neg q5, if_neg q6, if_neg q7, if_neg q8, if_neg q9, if_pos q10]
   rw [hk] at hK fin
   cases B with
   | false => simp [n1, n2, q3, q4, q5, q6, q7, q8, q9, q10] at fin ⊢; exact fin _ _ _
   | true =>
    simp [q10, c10]
    refine ayl hp3.u hp.lu hu fun w4 f4 => ?_
    exact hK _ _ _ w4 (S3.fr.trans f4)
  ·have hk : lr p ls lm lu = false := by unfold lr; rw [if_neg q12, if_neg q3, if_neg q4, if_neg q5, if_neg q6, if_neg q7, if_neg q8, if_neg q9, if_neg q10]
   rw [hk, Bool.and_false] at fin
   simp [n1, n2, q3, q4, q5, q6, q7, q8, q9, q10]
   exact fin _ _ _
 have fin : ∀ w4, Fr (fun _ => False) w w4 → K (.int .i64 (if (((acr p ls lm lu && (decide (p.gr = 3) || !decide (p.tr = 0))) && lr p ls lm lu) = true) then 0 else 6)) w4 := h
 have m2 := main _ rfl
 have tl : qj p.v = (decide (1 ≤ p.v) && decide (p.v ≤ 3)) := bio
 generalize acr p ls lm lu = E at *
 have m3 := fun e K0 hK t33 x1 a b => main (E && (decide (p.gr = 3) || !decide (p.tr = 0))) e K0 hK t33 x1 a b
 have m4 := m3 rfl
 have tailK : ∀ (X : Bool) (w4 : World), X = ((E && (decide (p.gr = 3) || !decide (p.tr = 0))) && lr p ls lm lu) → Fr (fun _ => False) w w4 → (unT P .not (.bool X) w4 fun t162 w => ge t162 (K (.int .i64 6) w) (K (.int .i64 0) w)) := fun X w4 e f => by
  have := fin w4 f
  rw [← e] at this
  cases X with
  | true => simp at this ⊢; exact this
  | false => simp at this ⊢; exact this
 have fork : M.au.j1 [.bool (decide (p.gr = 1) || decide (p.gr = 2))] (.bool (E && (decide (p.gr = 3) || !decide (p.tr = 0)))) (.pointer (some ⟨pb, 0, none⟩)) (fun x0 w => unT P .not (gv x0 2) w fun t162 w => ge t162 (K (.int .i64 6) w) (K (.int .i64 0) w)) (.int .i64 p.gr) (.bool (qj p.v)) (.bool (decide (p.jd = ic))) w3 K :=
  m4 _ (fun v0 v1 r w4 f4 => tailK _ w4 rfl f4) _ _ rfl rfl
 clear main m3 m4 m2
 have tl1 : ∀ {Q : Value → World → Prop}, Q (.bool (qj p.v)) w3 → (ga P .geq T.o (.tmp 25) (.const (.int .i64 1)) (.int .i64 p.v) (.int .i64 1) w3 fun t26 w => fy (isB t26 true) (fun K' => K' (.pointer (some ⟨pb, 6, none⟩)) w) w fun t28 w => fy (isB t26 true) (fun K' => ldT P T.o t28 w K') w fun t29 w => fy (isB t26 true) (fun K' => ga P .leq T.o (.tmp 29) (.const (.int .i64 3)) t29 (.int .i64 3) w K') w fun t30 w => gq t26 t30 (.bool false) w Q) := fun {Q} hQ => by
  rw [tl] at hQ
  by_cases v1 : 1 ≤ p.v
  ·by_cases v3 : p.v ≤ 3
   ·simp [v1, v3, c6] at hQ ⊢; exact hQ
   ·simp [v1, v3, c6] at hQ ⊢; exact hQ
  ·simp [v1] at hQ ⊢; exact hQ
 have go : (ga P .geq T.o (.tmp 25) (.const (.int .i64 1)) (.int .i64 p.v) (.int .i64 1) w3 fun t26 w => fy (isB t26 true) (fun K' => K' (.pointer (some ⟨pb, 6, none⟩)) w) w fun t28 w => fy (isB t26 true) (fun K' => ldT P T.o t28 w K') w fun t29 w => fy (isB t26 true) (fun K' => ga P .leq T.o (.tmp 29) (.const (.int .i64 3)) t29 (.int .i64 3) w K') w fun t30 w => gq t26 t30 (.bool false) w fun t31 w =>
   ldT P T.b (.pointer (some ⟨pb, 0, none⟩)) w fun t33 w => ga P .eql T.b (.tmp 33) (.const (.int .i64 1)) t33 (.int .i64 1) w fun t35 w =>
   ge t35 (M.au.j1 [t35] (.bool (E && (decide (p.gr = 3) || !decide (p.tr = 0)))) (.pointer (some ⟨pb, 0, none⟩)) (fun x0 w => unT P .not (gv x0 2) w fun t162 w => ge t162 (K (.int .i64 6) w) (K (.int .i64 0) w)) t33 t31 (.bool (decide (p.jd = ic))) w K)
    (ga P .eql T.b (.tmp 33) (.const (.int .i64 2)) t33 (.int .i64 2) w fun t36 w => M.au.j1 [t36] (.bool (E && (decide (p.gr = 3) || !decide (p.tr = 0)))) (.pointer (some ⟨pb, 0, none⟩)) (fun x0 w => unT P .not (gv x0 2) w fun t162 w => ge t162 (K (.int .i64 6) w) (K (.int .i64 0) w)) t33 t31 (.bool (decide (p.jd = ic))) w K)) := by
  refine tl1 ?_
  simp [c0]
  by_cases k1 : p.gr = 1
  ·simp [k1] at fork ⊢; exact fork
  ·simp [k1] at fork ⊢; exact fork
 clear fork tl1
 cases E with
 | false =>
  simp [c6] at go ⊢
  exact go
 | true =>
  by_cases k3 : p.gr = 3
  ·simp [c0, c6, k3] at go ⊢
   exact go
  ·simp [c0, c1, c6, k3] at go ⊢
   exact go
structure bbb (ls : List Spn) (lm : List Mem) (lu : List Int) : Prop where
 s : ls.length ≤ 40
 m : lm.length ≤ 100
 u : lu.length ≤ 100
 nm : ∀ x ∈ ls, x.name.size ≤ 200 ∧ x.jn.size ≤ 200
theorem zo.aoo {w : World} {p : Pk} {ls : List Spn} {lm : List Mem} {lu : List Int} (h : zo w p ls lm lu) (l : bbb ls lm lu) : pw w p ls lm lu := h.rd (by have := l.s; omega) (by have := l.m; omega) (by have := l.u; omega)
def LiI (W : World) (pb : Nat) (p : Pk) (ls : List Spn) : KL := fun x w1 => ∃ (u : Value) (i : Nat), x = [u, .int .i64 (i : Nat)] ∧ i ≤ ls.length ∧ (∀ j (h : j < ls.length), j < i → ls[j].name.size ≤ 200 ∧ ls[j].jn.size ≤ 200) ∧ St W w1 (gp pb (pkC p).toArray T.a :: [])
theorem ano {w : World} {p : Pk} {ls : List Spn} {lm : List Mem} {lu : List Int} (hp : zo w p ls lm lu) {K : KV} (h : ∀ bb w', (bb = true → bbb ls lm lu) → Fr (fun _ => False) w w' → K (.bool bb) w') : gb P F.ci [pkA p] w K := by
 rw [M.ay.fcall]
 apply M.ay.calls
 unfold M.ay
 refine St.sx (St.jh w) fun pb w1 S1 => ?_
 have S1' : St w w1 (gp pb (pkC p).toArray T.a :: []) := S1
 obtain ⟨_, _, _, _, _, _, c8, c9, c10, _⟩ := jb S1'
 have l1 : ∀ w' K, biT P .len #[T.c] T.b [false] [p.sv] w' K = K (.int .i64 ls.length) w' := fun w' K => hp.s.im (by kernel_rfl) [false]
 have l2 : ∀ w' K, biT P .len #[T.i] T.b [false] [p.mv] w' K = K (.int .i64 lm.length) w' := fun w' K => hp.m.im (by kernel_rfl) [false]
 have l3 : ∀ w' K, biT P .len #[T.k] T.b [false] [p.iv] w' K = K (.int .i64 lu.length) w' := fun w' K => hp.u.im (by kernel_rfl) [false]
 have no : ∀ w', Fr (fun _ => False) w w' → K (.bool false) w' := fun w' f => h false w' (fun h => by cases h) f
 by_cases h1 : 40 < ls.length
 ·have h1' : (40 : Int) < ls.length := by omega
  simp [c8, l1, h1']
  exact no _ S1.fr
 have h1' : ¬ (40 : Int) < ls.length := by omega
 by_cases h2 : 100 < lm.length
 ·have h2' : (100 : Int) < lm.length := by omega
  simp [c8, l1, h1', c9, l2, h2']
  exact no _ S1.fr
 have h2' : ¬ (100 : Int) < lm.length := by omega
 by_cases h3 : 100 < lu.length
 ·have h3' : (100 : Int) < lu.length := by omega
  simp [c8, l1, h1', c9, l2, h2', c10, l3, h3']
  exact no _ S1.fr
 have h3' : ¬ (100 : Int) < lu.length := by omega
 simp [c8, l1, h1', c9, l2, h2', c10, l3, h3']
 refine ⟨LiI w pb p ls, fun x _ => ls.length - ms x 1, ⟨_, 0, rfl, Nat.zero_le _, fun j _ h => by omega, S1'⟩, ?_⟩
 rintro x w2 ⟨u, i, rfl, hi, hpre, S2⟩
 unfold M.ay.j2
 obtain ⟨_, _, _, _, _, _, c8, _⟩ := jb S2
 by_cases hil : i < ls.length
 ·have hili : (i : Int) < (ls.length : Int) := by omega
  have hwi : IntKind.i64.wrap ((i : Int) + 1) = ((i + 1 : Nat) : Int) := by rw [gm (by omega) (by omega)]; rfl
  obtain ⟨b, o, cap, hv, _, _, k1⟩ := (hp.fr S2.fr).s.at hil
  have hia : ∀ w' K, iaT P T.c p.sv (.int .i64 (i : Nat)) w' K = K (.pointer (some ⟨b, o + i * 8, none⟩)) w' := fun w' K => by rw [hv]; simp [hil]
  have n6 := k1 6 _ rfl
  have n5 := k1 5 _ rfl
  have lstr : ∀ (s : ByteArray) w' K, biT P .len #[T.ad] T.b [false] [.string s] w' K = K (.int .i64 s.size) w' := fun s w' K => avh (by kernel_rfl) [false] s w' K
  simp [c8, l1, hil]
  unfold M.ay.j3
  by_cases q1 : 200 < ls[i].name.size
  ·have q1' : (200 : Int) < (ls[i].name.size : Int) := by omega
   simp [c8, hia, n6, lstr, q1']
   exact no _ S2.fr
  have q1' : ¬ (200 : Int) < (ls[i].name.size : Int) := by omega
  by_cases q2 : 200 < ls[i].jn.size
  ·have q2' : (200 : Int) < (ls[i].jn.size : Int) := by omega
   simp [c8, hia, n6, n5, lstr, q1', q2']
   exact no _ S2.fr
  have q2' : ¬ (200 : Int) < (ls[i].jn.size : Int) := by omega
  simp [c8, hia, n6, n5, lstr, q1', q2', hwi]
  refine ⟨⟨_, i + 1, rfl, by omega, fun j hj hlt => ?_, S2⟩, by simp [ms, gv]; omega⟩
  by_cases hji : j = i
  ·subst hji; omega
  ·exact hpre j hj (by omega)
 ·have hili : ¬ (i : Int) < (ls.length : Int) := by omega
  simp [c8, l1, hil]
  refine h true _ (fun _ => ⟨by omega, by omega, by omega, fun x hx => ?_⟩) S2.fr
  obtain ⟨j, hj, rfl⟩ := List.getElem_of_mem hx
  exact hpre j hj (by omega)
section
variable {i : Nat} {g : Nat → Rg} {val iy : Nat → Int} {prop : Nat → Prop} {tk : List (Nat × Nat)}
end
set_option maxRecDepth 100000
open Go.Eng Go.Proofs.YtfnhoaemapheoaaGreat.Sint
section
variable {s f : Int} {L : Lg} {F : Nat} {D : Dk} {m : acd}
end
set_option maxRecDepth 100000
open Go.Eng Go.Proofs.YtfnhoaemapheoaaGreat.Sint
theorem bmh (a b c d e : Int) (w : World) (K : KV) : jp P T.ba #[(0, .int .u64 a), (1, .int .u64 b), (2, .int .u64 c), (3, .int .u64 d), (4, .int .u64 e)] w K = K (.agg #[.int .u64 a, .int .u64 b, .int .u64 c, .int .u64 d, .int .u64 e]) w := .trans (by kernel_rfl) rfl
theorem blj (a b c d e : Value) (w : World) (K : KV) : ixT P T.ba (.agg #[a, b, c, d, e]) (.int .i64 0) w K = K a w := .trans (by kernel_rfl) rfl
theorem blh (a b c d e : Value) (w : World) (K : KV) : ixT P T.ba (.agg #[a, b, c, d, e]) (.int .i64 1) w K = K b w := .trans (by kernel_rfl) rfl
theorem bla (a b c d e : Value) (w : World) (K : KV) : ixT P T.ba (.agg #[a, b, c, d, e]) (.int .i64 2) w K = K c w := .trans (by kernel_rfl) rfl
theorem blm (a b c d e : Value) (w : World) (K : KV) : ixT P T.ba (.agg #[a, b, c, d, e]) (.int .i64 3) w K = K d w := .trans (by kernel_rfl) rfl
theorem blw (a b c d e : Value) (w : World) (K : KV) : ixT P T.ba (.agg #[a, b, c, d, e]) (.int .i64 4) w K = K e w := .trans (by kernel_rfl) rfl
theorem ael : ∀ l : List Int, (l.flatMap kz).length = l.length * 8
 | [] => rfl
 | x :: l => by rw [List.flatMap_cons, List.length_append, la, ael l, List.length_cons]; omega
section
variable {w0 w : World} {R : List Asn}
theorem bjn (a b c d e : Int) {i : Nat} (hi : i < 5) (w : World) (K : KV) : ixT P T.ba (.agg #[.int .u64 a, .int .u64 b, .int .u64 c, .int .u64 d, .int .u64 e]) (.int .i64 (i : Nat)) w K = K (.int .u64 ([a, b, c, d, e][i]'hi)) w := by
 match i, hi with
 | 0, _ => exact blj _ _ _ _ _ _ _
 | 1, _ => exact blh _ _ _ _ _ _ _
 | 2, _ => exact bla _ _ _ _ _ _ _
 | 3, _ => exact blm _ _ _ _ _ _ _
 | 4, _ => exact blw _ _ _ _ _ _ _
end
set_option maxRecDepth 100000
open Go.Eng Go.Proofs.YtfnhoaemapheoaaGreat.Sint
def acl (b : Bool) : Int := if b = true then 1 else 0
def wg (s : ByteArray) : List Int := (s.size : Int) :: yd s
def ur (s : Spn) : List Int := [s.il, s.id, s.ph, s.jh, s.len]
def ol (s : Spn) : List Int := (ur s).flatMap kz ++ [acl s.tc] ++ wg s.jn ++ wg s.name
theorem age {s : Spn} (h : ku s = 0) : s.jn.size ≤ 32 ∧ s.name.size ≤ 32 := by
 unfold ku at h
 split at h
 ·cases h
 ·unfold orK at h
  have hn : ∀ b : ByteArray, ou b = 0 → b.size ≤ 32 := fun b hb => by
   unfold ou at hb
   split at hb
   ·cases hb
   ·rename_i hh
    have := not_or.1 hh
    omega
  by_cases ha : ou s.jn = 0
  ·by_cases hb : ou s.name = 0
   ·exact ⟨hn _ ha, hn _ hb⟩
   ·simp [ha, hb] at h
  ·simp [ha] at h
def P5I (w0 : World) (s : Spn) (l : List Int) (R : List Asn) : KL := fun x w1 => ∃ (u v : Value) (i : Nat), x = [u, v, .int .i64 (i : Nat)] ∧ i ≤ 5 ∧ St w0 w1 (jq v (l ++ ((ur s).take i).flatMap kz) :: R)
def P2I (w0 : World) (s : Spn) (l : List Int) (R : List Asn) : KL := fun x w1 => ∃ (u v : Value) (i : Nat), x = [u, v, .int .i64 (i : Nat)] ∧ i ≤ 2 ∧ St w0 w1 (jq v (l ++ (([s.jn, s.name] : List ByteArray).take i).flatMap wg) :: R)
theorem blg (a b : ByteArray) (w : World) (K : KV) : jp P T.be #[(0, .string a), (1, .string b)] w K = K (.agg #[.string a, .string b]) w := .trans (by kernel_rfl) rfl
theorem blp (a b : Value) (w : World) (K : KV) : ixT P T.be (.agg #[a, b]) (.int .i64 0) w K = K a w := .trans (by kernel_rfl) rfl
theorem bma (a b : Value) (w : World) (K : KV) : ixT P T.be (.agg #[a, b]) (.int .i64 1) w K = K b w := .trans (by kernel_rfl) rfl
section
variable {w0 w : World} {R : List Asn}
theorem axt (S : St w0 w R) {v : Value} {l : List Int} (hs : ∀ w' L, St w0 w' (L ++ R) → SlB w' v l) (hl : l.length ≤ 10000000) {s : Spn} (hr : ku s = 0) {K : KV} (h : ∀ w' v', St w0 w' (jq v' (l ++ ol s) :: R) → K (.tuple #[v', .int .i64 0]) w') : gb P F.fd [v, jx s] w K := by
 obtain ⟨n1, n2⟩ := age hr
 rw [M.bv.fcall]
 apply M.bv.calls
 unfold M.bv
 refine St.sx S fun b w1 S1 => ?_
 have S1' : St w0 w1 (gp b (gy s).toArray T.e :: R) := S1
 have cl : ∀ {w' : World} {L : List Asn}, St w0 w' (gp b (gy s).toArray T.e :: L) → gi w' b 0 = some (.int .u64 s.il) ∧ gi w' b 1 = some (.int .u64 s.id) ∧ gi w' b 2 = some (.int .u64 s.ph) ∧ gi w' b 3 = some (.int .u64 s.jh) ∧ gi w' b 4 = some (.int .u64 s.len) ∧ gi w' b 5 = some (.string s.jn) ∧ gi w' b 6 = some (.string s.name) ∧ gi w' b 7 = some (.bool s.tc) := fun S' => by
  refine ⟨?_, ?_, ?_, ?_, ?_, ?_, ?_, ?_⟩ <;> rw [S'.cell] <;> rfl
 have sl : ∀ K, ldN P 8 b 0 w1 K = K (jx s) w1 := fun K => S1'.ldA (n := 8) (i := 0) (gy s) rfl rfl K
 simp [sl]
 rw [M.co.fcall]
 refine aiw s fun w2 f2 => ?_
 rw [hr]
 have S2 := S1'.jg f2
 simp
 unfold M.bv.j0
 refine wj S2 (hs w2 [_] S2) (by omega) fun w3 v3 S3 => ?_
 obtain ⟨c0, c1, c2, c3, c4, _⟩ := cl S3.swap
 simp [c0, c1, c2, c3, c4, bmh]
 have hl5 : ∀ i, (((ur s).take i).flatMap kz).length ≤ 40 := fun i => by
  rw [ael, List.length_take]
  have : (ur s).length = 5 := rfl
  omega
 refine ⟨P5I w0 s l (gp b (gy s).toArray T.e :: R), fun x _ => 5 - ms x 2, ⟨_, _, 0, rfl, Nat.zero_le _, by simpa using S3⟩, ?_⟩
 rintro x w4 ⟨u, v4, i, rfl, hi, S4⟩
 by_cases hil : i < 5
 ·have hili : (i : Int) < 5 := by omega
  have hwi : IntKind.i64.wrap ((i : Int) + 1) = ((i + 1 : Nat) : Int) := by rw [gm (by omega) (by omega)]; rfl
  simp [hili]
  unfold M.bv.j3
  simp [bjn _ _ _ _ _ hil]
  refine aem S4 (by rw [List.length_append]; have := hl5 i; omega) _ fun w5 v5 S5 => ?_
  simp [hwi]
  refine ⟨⟨_, _, i + 1, rfl, by omega, ?_⟩, by simp [ms, gv]; omega⟩
  have e : (((ur s).take (i + 1)).flatMap kz) = (((ur s).take i).flatMap kz) ++ kz ((ur s)[i]'hil) := by
   rw [List.take_add_one, List.getElem?_eq_getElem (show i < (ur s).length from hil), List.flatMap_append]
   show _ ++ ([_] : List Int).flatMap kz = _
   simp only [List.flatMap_cons, List.flatMap_nil, List.append_nil]
   rfl
  rw [e, ← List.append_assoc]
  exact S5
 have hi5 : i = 5 := by omega
 subst hi5
 have e5 : (ur s).take 5 = ur s := rfl
 rw [e5] at S4
 have hl4 : (l ++ (ur s).flatMap kz).length ≤ 10000040 := by
  rw [List.length_append]
  have := hl5 5
  rw [e5] at this
  omega
 obtain ⟨_, _, _, _, _, d5, d6, d7⟩ := cl S4.swap
 have rest : ∀ (fb : Int) (y : List Value), fb = acl s.tc → gv y 3 = v4 → M.bv.j5 [.int .u8 fb] y (.pointer (some ⟨b, 0, none⟩)) w4 K := fun fb y hfb y3 => by
  unfold M.bv.j5
  rw [y3]
  simp
  have S5 : St w0 (w4.alloc (.cells #[.int .u8 fb] T.ak)) (jq (.slice (some ⟨w4.heap.size, 0, none⟩) 1 1) [fb] :: _) := St.uy (l := [fb]) S4 jj rfl (by simp [maxLen])
  refine Go.Eng.ud et.f jj vu S5.swap (l2 := [fb]) (S5.row jj) (by simp at hl4 ⊢; omega) (by decide) fun w6 v6 S6 => ?_
  obtain ⟨_, _, _, _, _, g5, g6, _⟩ := cl S6.up2
  simp [g5, g6, blg]
  have S6d := S6.swap.drop
  refine ⟨P2I w0 s (l ++ (ur s).flatMap kz ++ [fb]) (gp b (gy s).toArray T.e :: R), fun x _ => 2 - ms x 2, ⟨_, _, 0, rfl, Nat.zero_le _, by simpa using S6d⟩, ?_⟩
  rintro x w7 ⟨u7, v7, i, rfl, hi7, S7⟩
  have hsz : ∀ k, k ≤ 2 → ((([s.jn, s.name] : List ByteArray).take k).flatMap wg).length ≤ 66 := fun k hk => by
   match k, hk with
   | 0, _ => simp
   | 1, _ => simp [wg, xz]; omega
   | 2, _ => simp [wg, xz]; omega
  by_cases hil : i < 2
  ·have hili : (i : Int) < 2 := by omega
   have hwi : IntKind.i64.wrap ((i : Int) + 1) = ((i + 1 : Nat) : Int) := by rw [gm (by omega) (by omega)]; rfl
   have hix : ∀ w K, ixT P T.be (.agg #[.string s.jn, .string s.name]) (.int .i64 (i : Nat)) w K = K (.string (([s.jn, s.name] : List ByteArray)[i]'hil)) w := fun w K => by
    match i, hil with
    | 0, _ => exact blp _ _ _ _
    | 1, _ => exact bma _ _ _ _
   have hs32 : (([s.jn, s.name] : List ByteArray)[i]'hil).size ≤ 32 := by
    match i, hil with
    | 0, _ => exact n1
    | 1, _ => exact n2
   simp [hili]
   unfold M.bv.j8
   have e : ((([s.jn, s.name] : List ByteArray).take (i + 1)).flatMap wg) = ((([s.jn, s.name] : List ByteArray).take i).flatMap wg) ++ wg (([s.jn, s.name] : List ByteArray)[i]'hil) := by
    rw [List.take_add_one, List.getElem?_eq_getElem (show i < ([s.jn, s.name] : List ByteArray).length from hil), List.flatMap_append]
    simp
   have hlen0 := hsz i (by omega)
   simp [hix]
   generalize ([s.jn, s.name] : List ByteArray)[i]'hil = str at *
   have hw8 : IntKind.u8.wrap (str.size : Int) = (str.size : Int) := by
    unfold IntKind.wrap
    simp [IntKind.bits, IntKind.signed]
    omega
   have hcv : ∀ w' K', cvT P T.b T.ak (.int .i64 (str.size : Int)) w' K' = K' (.int .u8 (str.size : Int)) w' := fun w' K' => by
    rw [nl (ks := .i64) (kd := .u8) (by kernel_rfl) (by kernel_rfl), hw8]
   simp [hcv]
   have S8 : St w0 (w7.alloc (.cells #[.int .u8 (str.size : Int)] T.ak)) (jq (.slice (some ⟨w7.heap.size, 0, none⟩) 1 1) [(str.size : Int)] :: _) := St.uy (l := [(str.size : Int)]) S7 jj rfl (by simp [maxLen])
   refine Go.Eng.ud et.f jj vu S8.swap (l2 := [(str.size : Int)]) (S8.row jj) (by simp at hlen0 hl4 ⊢; omega) (by decide) fun w9 v9 S9 => ?_
   refine bht et.f (by kernel_rfl) (by kernel_rfl) (fun _ => rfl) S9 str (by simp at hlen0 hl4 ⊢; omega) fun w10 v10 S10 => ?_
   rw [hwi]
   refine ⟨⟨_, v10, i + 1, rfl, by omega, ?_⟩, by simp [ms, gv]; omega⟩
   rw [e]
   have S11 := S10.swap.drop
   simp only [List.append_assoc] at S11 ⊢
   exact S11
  ·have hi2 : i = 2 := by omega
   subst hi2
   simp
   refine h w7 v7 ?_
   have e2 : l ++ (ur s).flatMap kz ++ [fb] ++ ((([s.jn, s.name] : List ByteArray).take 2).flatMap wg) = l ++ ol s := by
    rw [hfb]
    unfold ol
    simp
   rw [e2] at S7
   exact S7.swap.drop
 cases hf : s.tc with
 | true =>
  rw [hf] at d7
  simp [d7]
  exact rest 1 _ (by rw [hf]; rfl) rfl
 | false =>
  rw [hf] at d7
  simp [d7]
  exact rest 0 _ (by rw [hf]; rfl) rfl
end
set_option maxRecDepth 100000
open Go.Eng Go.Proofs.YtfnhoaemapheoaaGreat.Sint
theorem bby (l : List UInt8) (a : ByteArray) : ((l.map fun b => (b.toNat : Int)).foldl (fun r n => r.push (UInt8.ofNat n.toNat)) a).data.toList = a.data.toList ++ l := by
 induction l generalizing a with
 | nil => simp
 | cons x t ih =>
  rw [List.map_cons, List.foldl_cons, ih]
  simp [ByteArray.push]
theorem azo (s : ByteArray) : aje (yd s) = s := by
 have h := bby s.data.toList ByteArray.empty
 have h2 : (aje (yd s)).data.toList = s.data.toList := by
  unfold aje yd
  rw [h]
  rfl
 cases s with
 | mk d =>
  have h3 : (aje (yd ⟨d⟩)).data = d := Array.toList_inj.1 h2
  generalize aje (yd ⟨d⟩) = z at *
  cases z with
  | mk e => simp only at h3; rw [h3]
section
variable {w0 w : World} {R X : List Asn}
def Rdv (w0 : World) (R : List Asn) (v : Value) (l : List Int) : Prop := ∀ w' L, St w0 w' (L ++ R) → SlB w' v l
theorem aht {v : Value} {l : List Int} {L0 : List Asn} (S : St w0 w (L0 ++ R)) (hs : Rdv w0 R v l) {lo hi : Option Value} {i j : Nat} (hlo : lo = none ∧ i = 0 ∨ ∃ k, lo = some (.int k (i : Int))) (hhi : hi = none ∧ j = l.length ∨ ∃ k, hi = some (.int k (j : Int))) (h0 : i ≤ j) (h1 : j ≤ l.length) :
  ∃ v', (∀ w1 K, slT P T.f v lo hi none w1 K = K v' w1) ∧ Rdv w0 R v' ((l.drop i).take (j - i)) := by
 obtain ⟨v', _, _, e1⟩ := (hs w L0 S).sub (P := P) (t := T.f) (by kernel_rfl) (by kernel_rfl) hlo hhi h0 h1
 refine ⟨v', e1, fun w' L S' => ?_⟩
 obtain ⟨v2, s2, _, e2⟩ := (hs w' L S').sub (P := P) (t := T.f) (by kernel_rfl) (by kernel_rfl) hlo hhi h0 h1
 have h3 := e1 w' fun v _ => v = v2
 rw [e2 w'] at h3
 have h4 : v' = v2 := by
  have : (v2 = v2) = (v' = v2) := h3
  rw [← this]
 rw [h4]
 exact s2
abbrev rdr (b : Nat) (v : Value) : Asn := gp b #[v, .int .i64 0] T.ag
theorem akz {b n : Nat} {v : Value} {l : List Int} (S : St w0 w (rdr b v :: (X ++ R))) (hs : Rdv w0 R v l) (hn : n ≤ l.length) {K : KV}
  (h : ∀ w' v1 v2, Rdv w0 R v1 (l.take n) → Rdv w0 R v2 (l.drop n) → St w0 w' (rdr b v2 :: (X ++ R)) → K v1 w') : gb P F.bw [.pointer (some ⟨b, 0, none⟩), .int .i64 (n : Nat)] w K := by
 rw [M.az.fcall]
 apply M.az.calls
 unfold M.az
 have c0 : gi w b 0 = some v := by rw [S.cell]; rfl
 have c1 : gi w b 1 = some (.int .i64 0) := by rw [S.cell]; rfl
 have hlen : ∀ w' K, biT P .len #[T.f] T.b [false] [v] w' K = K (.int .i64 l.length) w' := fun w' K => (hs w (_ :: X) S).im (by kernel_rfl) [false]
 have hlt : ¬ (l.length : Int) < (n : Int) := by omega
 simp [c0, c1, hlen, hlt]
 unfold M.az.j0
 simp [c1]
 unfold M.az.j1
 obtain ⟨v1, e1, r1⟩ := aht (L0 := rdr b v :: X) S hs (lo := none) (hi := some (.int .i64 (n : Nat))) (i := 0) (j := n) (.inl ⟨rfl, rfl⟩) (.inr ⟨_, rfl⟩) (Nat.zero_le _) hn
 obtain ⟨v2, e2, r2⟩ := aht (L0 := rdr b v :: X) S hs (lo := some (.int .i64 (n : Nat))) (hi := none) (i := n) (j := l.length) (.inr ⟨_, rfl⟩) (.inl ⟨rfl, rfl⟩) hn (Nat.le_refl _)
 rw [List.drop_zero, Nat.sub_zero] at r1
 rw [List.take_of_length_le (by simp)] at r2
 have hv2 : jz v2 = true := by
  obtain ⟨_, _, e, _⟩ := r2 w (_ :: X) S
  rw [e]; rfl
 have hst : ∀ w' K, stT P T.f (.pointer (some ⟨b, 0, none⟩)) v2 w' K = st1 P b 0 v2 w' K := fun w' K => by
  obtain ⟨a, c, e, _⟩ := r2 w (_ :: X) S
  rw [e]
  simp
 simp [c0, e1, e2, hst]
 exact St.ui S hv2 (by simp) fun w3 S3 => h w3 v1 v2 r1 r2 S3
theorem zx {b : Nat} {v : Value} {x : Int} {r : List Int} (S : St w0 w (rdr b v :: (X ++ R))) (hx : sy x) (hs : Rdv w0 R v (kz x ++ r)) {K : KV}
  (h : ∀ w' v2, Rdv w0 R v2 r → St w0 w' (rdr b v2 :: (X ++ R)) → K (.int .u64 x) w') : gb P F.ay [.pointer (some ⟨b, 0, none⟩)] w K := by
 rw [M.ci.fcall]
 apply M.ci.calls
 unfold M.ci
 refine akz (n := 8) S hs (by rw [List.length_append, la]; omega) fun w1 v1 v2 r1 r2 S1 => ?_
 rw [List.take_left' (la x)] at r1
 rw [List.drop_left' (la x)] at r2
 refine akk (r1 w1 (_ :: X) S1) (by rw [la]; omega) ?_
 have := aiq hx []
 rw [List.append_nil] at this
 rw [this]
 exact h w1 v2 r2 S1
theorem aqa {b : Nat} {v : Value} {x lo hi : Int} {r : List Int} (S : St w0 w (rdr b v :: (X ++ R))) (h0 : lo ≤ x) (h1 : x ≤ hi) (hs : Rdv w0 R v (x :: r)) {K : KV}
  (h : ∀ w' v2, Rdv w0 R v2 r → St w0 w' (rdr b v2 :: (X ++ R)) → K (.int .u8 x) w') : gb P F.cc [.pointer (some ⟨b, 0, none⟩), .int .u8 lo, .int .u8 hi] w K := by
 rw [M.cn.fcall]
 apply M.cn.calls
 unfold M.cn
 refine akz (n := 1) S hs (by simp) fun w1 v1 v2 r1 r2 S1 => ?_
 have c1 : gi w1 b 1 = some (.int .i64 0) := by rw [S1.cell]; rfl
 obtain ⟨ab, ao, ac, e1, _, _, hc⟩ := (r1 w1 (_ :: X) S1).at (i := 0) (by simp)
 have hcell : gi w1 ab ao = some (.int .u8 x) := by simpa using hc 0 _ rfl
 have hia : ∀ w' K, iaT P T.f v1 (.int .i64 0) w' K = K (.pointer (some ⟨ab, ao, none⟩)) w' := fun w' K => by rw [e1]; simp
 have n0 : ¬ x < lo := by omega
 have n1 : ¬ hi < x := by omega
 simp [hia, hcell, c1, n0, n1]
 exact h w1 v2 (by simpa using r2) S1
theorem avm {b : Nat} {v : Value} {s : ByteArray} {r : List Int} (S : St w0 w (rdr b v :: (X ++ R))) (h0 : 1 ≤ s.size) (h1 : s.size ≤ 32) (hs : Rdv w0 R v (wg s ++ r)) {K : KV}
  (h : ∀ w' v2, Rdv w0 R v2 r → St w0 w' (rdr b v2 :: (X ++ R)) → K (.string s) w') : gb P F.cm [.pointer (some ⟨b, 0, none⟩)] w K := by
 rw [M.ct.fcall]
 apply M.ct.calls
 unfold M.ct
 refine aqa (lo := 1) (hi := 32) (x := (s.size : Int)) (r := yd s ++ r) S (by omega) (by omega) hs fun w1 v1 r1 S1 => ?_
 have c1 : gi w1 b 1 = some (.int .i64 0) := by rw [S1.cell]; rfl
 simp [c1]
 have hcv : ∀ w' K', cvT P T.ak T.b (.int .u8 (s.size : Int)) w' K' = K' (.int .i64 (s.size : Int)) w' := fun w' K' => by
  rw [nl (ks := .u8) (kd := .i64) (by kernel_rfl) (by kernel_rfl), gm (by omega) (by omega)]
 simp [hcv]
 refine akz (n := s.size) S1 r1 (by rw [List.length_append, xz]; omega) fun w2 v2 v3 r2 r3 S2 => ?_
 rw [List.take_left' (xz s)] at r2
 rw [List.drop_left' (xz s)] at r3
 rw [bls (by kernel_rfl) (by kernel_rfl) (r2 w2 (_ :: X) S2), azo]
 exact h w2 v3 r3 S2
end
set_option maxRecDepth 100000
open Go.Eng Go.Proofs.YtfnhoaemapheoaaGreat.Sint
theorem azu {s : Spn} (h : ku s = 0) : 1 ≤ s.jn.size ∧ 1 ≤ s.name.size := by
 unfold ku at h
 split at h
 ·cases h
 ·unfold orK at h
  have hn : ∀ b : ByteArray, ou b = 0 → 1 ≤ b.size := fun b hb => by
   unfold ou at hb
   split at hb
   ·cases hb
   ·rename_i hh
    have := not_or.1 hh
    omega
  by_cases ha : ou s.jn = 0
  ·by_cases hb : ou s.name = 0
   ·exact ⟨hn _ ha, hn _ hb⟩
   ·simp [ha, hb] at h
  ·simp [ha] at h
section
variable {w0 w : World} {R : List Asn}
abbrev spB (b : Nat) (s : Spn) : Asn := gp b (gy s).toArray T.e
theorem awe {v : Value} {s : Spn} {r : List Int} (S : St w0 w R) (hs : Rdv w0 R v (ol s ++ r)) (hr : ku s = 0) (hR : vk s) (hl : r.length ≤ 10000000) {K : KV}
  (h : ∀ w' v', St w0 w' (jq v' r :: R) → K (.tuple #[jx s, v', .int .i64 0]) w') : gb P F.fc [v] w K := by
 obtain ⟨n1, n2⟩ := age hr
 obtain ⟨m1, m2⟩ := azu hr
 obtain ⟨s0, s1, s2, s3, s4, sv, nm, fl⟩ := s
 simp only at n1 n2 m1 m2
 rw [M.dg.fcall]
 apply M.dg.calls
 unfold M.dg
 have hb : ∀ w' K, jp P T.ag #[(0, v)] w' K = K (.agg #[v, .int .i64 0]) w' := fun w' K => by
  obtain ⟨_, _, e, _⟩ := hs w [] S
  rw [e]
  simp
 simp [hb]
 have S1 : St w0 (w.alloc (.cells #[.int .u64 0, .int .u64 0, .int .u64 0, .int .u64 0, .int .u64 0, .string ⟨#[]⟩, .string ⟨#[]⟩, .bool false] T.e)) (spB w.heap.size ⟨0, 0, 0, 0, 0, ⟨#[]⟩, ⟨#[]⟩, false⟩ :: R) := S.mkB (gy ⟨0, 0, 0, 0, 0, ⟨#[]⟩, ⟨#[]⟩, false⟩).toArray T.e
 have S2 := S1.mkB #[v, .int .i64 0] T.ag
 rw [jl] at S2
 generalize w.heap.size = tb at *
 generalize hrb : tb + 1 = rb at *
 generalize (World.alloc _ (.cells #[v, .int .i64 0] T.ag)) = w2 at *
 have hs0 : Rdv w0 R v (kz s0 ++ (kz s1 ++ (kz s2 ++ (kz s3 ++ (kz s4 ++ (acl fl :: (wg sv ++ (wg nm ++ r)))))))) := by
  have e : ol ⟨s0, s1, s2, s3, s4, sv, nm, fl⟩ ++ r = kz s0 ++ (kz s1 ++ (kz s2 ++ (kz s3 ++ (kz s4 ++ (acl fl :: (wg sv ++ (wg nm ++ r))))))) := by
   simp [ol, ur]
  rw [← e]
  exact hs
 refine zx (X := [_]) S2 hR.tr hs0 fun w3 v3 r3 S3 => ?_
 refine zx (X := [_]) S3 hR.id r3 fun w4 v4 r4 S4 => ?_
 refine zx (X := [_]) S4 hR.par r4 fun w5 v5 r5 S5 => ?_
 refine zx (X := [_]) S5 hR.st r5 fun w6 v6 r6 S6 => ?_
 refine zx (X := [_]) S6 hR.ln r6 fun w7 v7 r7 S7 => ?_
 simp
 have S7' : St w0 w7 (spB tb ⟨0, 0, 0, 0, 0, ⟨#[]⟩, ⟨#[]⟩, false⟩ :: rdr rb v7 :: R) := S7.swap
 refine St.put (vs := gy ⟨s0, s1, s2, s3, s4, ⟨#[]⟩, ⟨#[]⟩, false⟩) (cs' := (gy ⟨s0, s1, s2, s3, s4, ⟨#[]⟩, ⟨#[]⟩, false⟩).toArray) S7' (nq _) (by simp [gy]) rfl fun w8 S8 => ?_
 refine aqa (X := [_]) S8.swap (x := acl fl) (by unfold acl; split <;> omega) (by unfold acl; split <;> omega) r7 fun w9 v9 r9 S9 => ?_
 have hfl : decide (acl fl = 1) = fl := by cases fl <;> rfl
 simp [hfl]
 refine St.ui S9.swap rfl (by simp [gy]) fun w10 S10 => ?_
 have S10' : St w0 w10 (spB tb ⟨s0, s1, s2, s3, s4, ⟨#[]⟩, ⟨#[]⟩, fl⟩ :: rdr rb v9 :: R) := S10
 refine avm (X := [_]) S10'.swap m1 n1 r9 fun w11 v11 r11 S11 => ?_
 simp
 refine St.ui S11.swap rfl (by simp [gy]) fun w12 S12 => ?_
 have S12' : St w0 w12 (spB tb ⟨s0, s1, s2, s3, s4, sv, ⟨#[]⟩, fl⟩ :: rdr rb v11 :: R) := S12
 refine avm (X := [_]) S12'.swap m2 n2 r11 fun w13 v13 r13 S13 => ?_
 simp
 refine St.ui S13.swap rfl (by simp [gy]) fun w14 S14 => ?_
 have S14' : St w0 w14 (spB tb ⟨s0, s1, s2, s3, s4, sv, nm, fl⟩ :: rdr rb v13 :: R) := S14
 have c1 : gi w14 rb 1 = some (.int .i64 0) := by rw [S14'.swap.cell]; rfl
 have sl : ∀ {w' : World} {L : List Asn}, St w0 w' (spB tb ⟨s0, s1, s2, s3, s4, sv, nm, fl⟩ :: L) → ∀ K, ldN P 8 tb 0 w' K = K (jx ⟨s0, s1, s2, s3, s4, sv, nm, fl⟩) w' := fun S' K => S'.ldA (n := 8) (i := 0) (gy ⟨s0, s1, s2, s3, s4, sv, nm, fl⟩) rfl rfl K
 simp [c1, sl S14']
 rw [M.co.fcall]
 refine aiw _ fun w15 f15 => ?_
 rw [hr]
 have S15 := S14'.jg f15
 simp
 refine St.ui S15.swap rfl (by simp) fun w16 S16 => ?_
 have S16' : St w0 w16 (rdr rb v13 :: spB tb ⟨s0, s1, s2, s3, s4, sv, nm, fl⟩ :: R) := S16
 have d1 : gi w16 rb 1 = some (.int .i64 0) := by rw [S16'.cell]; rfl
 unfold M.dg.j0
 simp [d1]
 unfold M.dg.j1
 have S17 := S16'.jg ((Fr.refl _ w16).dr 1)
 have d0 : gi (dr w16 1) rb 0 = some v13 := by rw [S17.cell]; rfl
 simp [sl S17.swap, d0]
 refine wj S17 (r13 _ [_, _] S17) (by omega) fun w18 v18 S18 => ?_
 simp [sl S18.up2]
 have hst : ∀ w' K, stT P T.e (.pointer (some ⟨tb, 0, none⟩)) (jx ⟨s0, s1, s2, s3, s4, sv, nm, fl⟩) w' K = stN P tb 0 (gy ⟨s0, s1, s2, s3, s4, sv, nm, fl⟩) w' K := fun w' K => by
  unfold jx
  simp [gy]
 rw [hst]
 refine St.put (vs := gy ⟨s0, s1, s2, s3, s4, sv, nm, fl⟩) (cs' := (gy ⟨s0, s1, s2, s3, s4, sv, nm, fl⟩).toArray) S18.up2 (nq _) (by simp [gy]) rfl fun w19 S19 => ?_
 have hres : ∀ w' K, qg P T.e (.pointer (some ⟨tb, 0, none⟩)) w' K = ldN P 8 tb 0 w' K := fun w' K => Eq.trans (by kernel_rfl) rfl
 simp [hres, sl S19]
 exact h w19 v18 (S19.drop.swap.drop)
end
end Go.Proofs.YtfnhoaemapheoaaGreat
set_option maxRecDepth 100000
namespace Go.Proofs.YtfnhoaemapheoaaGreat.KeyR
open Go.Eng Go.Sort Go.Proofs.YtfnhoaemapheoaaGreat.Suint64
end Go.Proofs.YtfnhoaemapheoaaGreat.KeyR
set_option maxRecDepth 100000
namespace Go.Proofs.YtfnhoaemapheoaaGreat
open Go.Eng Go.Proofs.YtfnhoaemapheoaaGreat.Sint
def aik (hb p r : Nat) (iu : Bool) : Array Value := #[.pointer (some ⟨hb, 0, none⟩), .pointer (some ⟨p, 0, none⟩), .map (some r), .bool iu]
section
variable {w0 w : World} {R : List Asn} {q hb p r : Nat} {m : acd} {L : Lg} {iu : Bool} {mm : MP}
end
set_option maxRecDepth 100000
open Go.Eng Go.Proofs.YtfnhoaemapheoaaGreat.Sint
def wrF (L : Lg) (D : Dk) (ii : List (List Int)) : (Lg × Dk) × Int :=
 if (rq L D ii).2 = 0 then (((rq L D ii).1.1, ((rq L D ii).1.1.my (rq L D ii).1.2).1), ((rq L D ii).1.1.my (rq L D ii).1.2).2) else rq L D ii
theorem aps {L : Lg} {D : Dk} {b : List Int} {r : List (List Int)} (h : (L.append D b).2 = 0) : wrF L D (b :: r) = wrF (L.append D b).1.1 (L.append D b).1.2 r := by
 have e : rq L D (b :: r) = rq (L.append D b).1.1 (L.append D b).1.2 r := by rw [rq, if_pos h]
 unfold wrF; rw [e]
theorem bdh {L : Lg} {D : Dk} {b : List Int} {r : List (List Int)} (h : (L.append D b).2 ≠ 0) : wrF L D (b :: r) = L.append D b := by
 have e : rq L D (b :: r) = L.append D b := by rw [rq, if_neg h]
 unfold wrF; rw [e, if_neg h]
section
variable {w0 w : World} {R : List Asn} {q hb p r : Nat} {m : acd} {L : Lg} {dn : Bool} {mm : MP} {D : Dk} {G : Nat} {s f : Int} {lv : Value} {vs : List SV} {ii : List (List Int)}
end
set_option maxRecDepth 100000
open Go.Eng Go.Proofs.YtfnhoaemapheoaaGreat.Sint
section
variable {w0 w : World} {R : List Asn} {q hb p r : Nat} {m : acd} {L : Lg} {dn : Bool} {mm : MP} {D D' : Dk} {G : Nat} {s f : Int} {ib : Int} {Q' : List Prt}
theorem auo (S : St w0 w R) : St w0 (w.alloc (.map #[] 0)) (ji w.heap.size .u64 [] :: R) := S.add (a := ji w.heap.size .u64 []) ((Fr.refl _ w).alloc _) (B := fun x => x = w.heap.size) ⟨⟨agb w .u64, List.nodup_nil⟩, rfl⟩ fun b hb => by subst hb; rw [jl]; omega
end
set_option maxRecDepth 100000
open Go.Eng Go.Proofs.YtfnhoaemapheoaaGreat.Sint
section
variable {w0 w : World} {R : List Asn} {q hb : Nat} {m : acd} {L : Lg} {dn : Bool} {D : Dk} {G : Nat} {s f : Int} {p : Pk} {ls : List Spn} {lm : List Mem} {lu : List Int}
end
set_option maxRecDepth 100000
open Go.Eng Go.Proofs.YtfnhoaemapheoaaGreat.Sint
inductive WrR (s f : Int) (L : Lg) (G : Nat) (D : Dk) (ii : List (List Int)) : (Lg × Dk) × Int → Prop
 | ok (L' : Lg) (D' : Dk) : qq s f L' (jf L'.gk).length D' → jf L'.gk = jf L.gk ++ ii → L'.ib = L.ib → D'.ip = D.ip → (D.jk = false → D'.jk = false) → WrR s f L G D ii ((L', D'), 0)
 | ul (i : Nat) (L' : Lg) (D' : Dk) : i < ii.length → qq s f L' G D' → jf L'.gk = jf L.gk ++ ii.take i → L'.ib = L.ib → D'.ip = D.ip → (D.jk = false → D'.jk = false) → WrR s f L G D ii ((L', D'), 9)
 | iu (i : Nat) (L' : Lg) (D' : Dk) (Q : List Prt) : D.jk = true → L'.ib = L.ib → L'.gk.length ≤ 63 → D'.iu = true → Vir s f Q G D' False → jf Q = jf L.gk ++ ii.take i → D'.ip = D.ip → f + (jf L'.gk).length ≤ f + (jf L.gk).length + ii.length → WrR s f L G D ii ((L', D'), 10)
theorem bhp {s f : Int} {L : Lg} {G : Nat} {D : Dk} {ii : List (List Int)} (g : qq s f L G D) (hl : ∀ b ∈ ii, b.length ≤ 8192) (hn : f + (jf L.gk).length + ii.length ≤ 1000000000000) : WrR s f L G D ii (wrF L D ii) := by
 have ha := bjc ii g hl hn
 unfold wrF
 generalize rq L D ii = z at *
 cases ha with
 | ok L' D' g' e1 e2 e3 e4 =>
  obtain ⟨y1, y2, y3, y4, _, y6, _⟩ := aol g'.vir g'.up
  rw [if_pos rfl, y1]
  exact .ok L' _ ⟨y2, g'.size, y3⟩ e1 e2 (by rw [y6, e3]) fun h => by rw [y4]; exact e4 h
 | ul i L' D' hi g' e1 e2 e3 e4 =>
  rw [if_neg (by simp)]
  exact .ul i L' D' hi g' e1 e2 e3 e4
 | iu i j L' D0 D' Q b1 b2 b3 b4 b5 b6 b7 b8 =>
  rw [if_neg (by simp)]
  refine .iu i L' D' Q b1 b4 b2.vir.len b5 b6 b7 b8 ?_
  rw [b3, List.length_append, List.length_take]
  omega
section
variable {w0 w : World} {R : List Asn} {q hb : Nat} {m : acd} {L : Lg} {dn : Bool} {D : Dk} {s f : Int}
end
set_option maxRecDepth 100000
open Go.Eng Go.Proofs.YtfnhoaemapheoaaGreat.Sint
section
variable {w0 w : World} {R : List Asn} {v : Value} {m : acd} {p : Pk} {ls : List Spn} {lm : List Mem} {lu : List Int}
end
set_option maxRecDepth 100000
open Go.Eng Go.Proofs.YtfnhoaemapheoaaGreat.Sint
section
variable {w0 w : World} {R : List Asn} {q hb : Nat} {m : acd} {L : Lg} {dn : Bool}
end
set_option maxRecDepth 100000
open Go.Eng Go.Proofs.YtfnhoaemapheoaaGreat.Sint
section
variable {w0 w : World} {R : List Asn} {p hb : Nat} {v : Value} {L : Lg} {D : Dk} {s f : Int} {G : Nat} {l : List PB} {ls : List (List Int)} {vs : List SV}
end
set_option maxRecDepth 100000
open Go.Eng Go.Proofs.YtfnhoaemapheoaaGreat.Sint
theorem ash (ip ib : Int) : qq 0 0 ⟨ib, []⟩ 0 ⟨ip, 0, false, false, []⟩ :=
 ⟨⟨trivial, by omega, by omega, by simp, by simp [jf], .inl ⟨rfl, rfl, rfl⟩, fun _ => ⟨rfl, rfl⟩, fun q h => by simp at h⟩, fun q h => by simp at h, rfl⟩
section
variable {w0 w : World} {R : List Asn} {q hb : Nat} {m m1 m2 : acd} {L : Lg} {D : Dk} {G : Nat} {s f : Int} {Q : List Prt} {x : Prop} {ib : Int}
variable {p : Pk} {ls : List Spn} {lm : List Mem} {lu : List Int} {F0 : Nat}
end
set_option maxRecDepth 100000
open Go.Eng Go.Proofs.YtfnhoaemapheoaaGreat.Sint
theorem akj {s f : Int} {L : Lg} {G : Nat} {D : Dk} (g : qq s f L G D) (h : L.gk = []) : D.ij = 0 := by
 rcases g.vir.dsc with ⟨_, hf, _⟩ | ⟨Q0, q, _, _, _, hq, _⟩
 ·unfold Dk.ij; rw [hf]; rfl
 ·rw [h] at hq; simp at hq
section
variable {w0 w : World} {R : List Asn} {q hb : Nat} {m : acd} {L : Lg} {D : Dk} {s f : Int} {p : Pk} {ls : List Spn} {lm : List Mem} {lu : List Int} {F0 : Nat}
end
set_option maxRecDepth 100000
open Go.Eng Go.Proofs.YtfnhoaemapheoaaGreat.Sint
structure bmm where
 gr : Int
 n : Int
 p : Pk
 ls : List Spn
 lm : List Mem
 lu : List Int
 kv : Value
 jy : List Int
section
variable {w0 w w' : World} {R : List Asn} {v : Value} {l : List bmm}
end
set_option maxRecDepth 100000
open Go.Eng Go.Proofs.YtfnhoaemapheoaaGreat.Sint
theorem bab {w : World} {n : Nat} {c : Array Value} (h : TV P w n T.a c.toList) : ∃ p ls lm lu, Value.agg c = pkA p ∧ zo w p ls lm lu ∧ xn p ∧ LsR ls lm lu := by
 obtain ⟨p, ls, lm, lu, e, h1, h2, h3⟩ := blb h
 refine ⟨p, ls, lm, lu, ?_, h1, h2, h3⟩
 unfold pkA
 congr 1
 exact Array.toList_inj.1 (by rw [e])
section
variable {w0 w w' : World} {L X R : List Asn} {v v' : Value} {m m' : acd}
theorem azl : ∀ {X : List Asn}, St w0 w (L ++ X) → St w0 w L
 | [], S => by simpa using S
 | a :: X, S => azl (S.perm List.perm_middle).drop
end
set_option maxRecDepth 100000
open Go.Eng Go.Proofs.YtfnhoaemapheoaaGreat.Sint
def lz (b : Bal) (l : List Spn) : List Int := kz b.n ++ (kz b.iy ++ l.flatMap ol)
theorem apn (s : ByteArray) : (wg s).length = s.size + 1 := by unfold wg; rw [List.length_cons, xz]
theorem afx {s : Spn} (h : ku s = 0) : 43 ≤ (ol s).length ∧ (ol s).length ≤ 107 := by
 obtain ⟨n1, n2⟩ := age h
 have : ((ur s).flatMap kz).length = 40 := by rw [ael]; rfl
 unfold ol
 rw [List.length_append, List.length_append, List.length_append, apn, apn, this]
 simp
 omega
theorem aac : ∀ {l : List Spn}, (∀ s ∈ l, ku s = 0) → (l.flatMap ol).length ≤ l.length * 107
 | [], _ => by simp
 | s :: t, h => by
  have h1 := (afx (h s (by simp))).2
  have h2 := aac (l := t) fun x hx => h x (by simp [hx])
  rw [List.flatMap_cons, List.length_append, List.length_cons]
  omega
section
variable {w0 w : World} {R X Y : List Asn}
theorem Rdv.mono {v : Value} {l : List Int} (h : Rdv w0 R v l) (X : List Asn) : Rdv w0 (X ++ R) v l := fun w' L S => h w' (L ++ X) (by rw [List.append_assoc]; exact S)
theorem bgx {v : Value} {l : List Int} : Rdv w0 (jq v l :: R) v l := fun w' L S => (S.perm List.perm_middle).row jj
theorem bbt {L : List Asn} (S : St w0 w (L ++ (Y ++ R))) : St w0 w (L ++ R) := by
 refine azl (X := Y) (S.perm ?_)
 rw [List.append_assoc]
 exact List.Perm.append_left _ List.perm_append_comm
def bnd (w0 : World) (b : Bal) (l : List Spn) (R : List Asn) : KL := fun x w1 => ∃ (v : Value) (i : Nat), x = [v, .int .i64 (i : Nat)] ∧ i ≤ l.length ∧ St w0 w1 (jq v (lz b (l.take i)) :: R)
theorem bew (S : St w0 w R) (b : Bal) {lv : Value} {l : List Spn} (hs : ∀ w' L, St w0 w' (L ++ R) → SlS w' lv l) (hr : ∀ s ∈ l, ku s = 0) (hl : l.length ≤ 1000) {K : KV}
  (h : ∀ w' v', St w0 w' (jq v' (lz b l) :: R) → K v' w') : gb P F.es [kj b, lv] w K := by
 rw [M.dh.fcall]
 apply M.dh.calls
 unfold M.dh
 refine St.sx S fun bb w1 S1 => ?_
 have S1' : St w0 w1 (gp bb #[.int .u64 b.n, .int .u64 b.iy] T.d :: R) := S1
 obtain ⟨c0, c1, _⟩ := qn S1'
 simp [c0]
 refine aem (l := []) (qz S1') (by simp) _ fun w2 v2 S2 => ?_
 obtain ⟨_, d1, _⟩ := qn S2.swap
 simp [d1]
 refine aem S2 (by simp [la]) _ fun w3 v3 S3 => ?_
 have hlen : ∀ w' K, biT P .len #[T.c] T.b [false] [lv] w' K = K (.int .i64 l.length) w' := fun w' K => (hs w3 [_, _] S3).im (by kernel_rfl) [false]
 simp [hlen]
 refine ⟨bnd w0 b l R, fun x _ => l.length - ms x 1, ⟨_, 0, rfl, Nat.zero_le _, by simpa [lz] using S3.swap.drop⟩, ?_⟩
 rintro x w4 ⟨v, i, rfl, hi, S4⟩
 by_cases hil : i < l.length
 ·have hwi : IntKind.i64.wrap ((i : Int) + 1) = ((i + 1 : Nat) : Int) := by rw [gm (by omega) (by omega)]; rfl
  simp [hil]
  unfold M.dh.j2
  obtain ⟨ab, ao, cap, hv, _, _, hc⟩ := (hs w4 [_] S4).at hil
  have hia : ∀ w' K, iaT P T.c lv (.int .i64 (i : Nat)) w' K = K (.pointer (some ⟨ab, ao + i * 8, none⟩)) w' := fun w' K => by rw [hv]; simp [hil]
  have hld : ∀ K, ldN P 8 ab (ao + i * 8) w4 K = K (jx l[i]) w4 := fun K => rh (gy l[i]) 8 rfl hc K
  simp [hia, hld]
  have S5 : St w0 (w4.alloc (.cells #[.int .u64 0, .int .u64 0, .int .u64 0, .int .u64 0, .int .u64 0, .string ⟨#[]⟩, .string ⟨#[]⟩, .bool false] T.e)) (spB w4.heap.size ⟨0, 0, 0, 0, 0, ⟨#[]⟩, ⟨#[]⟩, false⟩ :: _) := S4.mkB (gy ⟨0, 0, 0, 0, 0, ⟨#[]⟩, ⟨#[]⟩, false⟩).toArray T.e
  generalize w4.heap.size = tb at *
  generalize w4.alloc _ = w5 at *
  have hst : ∀ w' K, stT P T.e (.pointer (some ⟨tb, 0, none⟩)) (jx l[i]) w' K = stN P tb 0 (gy l[i]) w' K := fun w' K => by
   unfold jx
   simp [gy]
  rw [hst]
  refine St.put (vs := gy l[i]) (cs' := (gy l[i]).toArray) S5 (nq _) (by simp [gy]) rfl fun w6 S6 => ?_
  have sl : ∀ K, ldN P 8 tb 0 w6 K = K (jx l[i]) w6 := fun K => S6.ldA (n := 8) (i := 0) (gy l[i]) rfl rfl K
  simp [sl]
  have hri := hr _ (List.getElem_mem hil)
  have hle : (lz b (l.take i)).length ≤ 10000000 := by
   have := aac (l := l.take i) fun s hs => hr s (List.mem_of_mem_take hs)
   have h2 : (l.take i).length ≤ 1000 := by rw [List.length_take]; omega
   unfold lz
   rw [List.length_append, List.length_append, la, la]
   have : (l.take i).length * 107 ≤ 1000 * 107 := Nat.mul_le_mul_right _ h2
   omega
  refine axt S6.drop (v := v) (l := lz b (l.take i)) (fun w' L S' => (S'.perm List.perm_middle).row jj) hle hri fun w7 v7 S7 => ?_
  simp [hwi]
  refine ⟨⟨v7, i + 1, rfl, by omega, ?_⟩, by simp [ms, gv]; omega⟩
  have e : lz b (l.take (i + 1)) = lz b (l.take i) ++ ol l[i] := by
   rw [List.take_add_one, List.getElem?_eq_getElem hil]
   unfold lz
   simp only [Option.toList, List.flatMap_append, List.flatMap_cons, List.flatMap_nil, List.append_nil, List.append_assoc]
  rw [e]
  exact S7.swap.drop
 ·have hie : i = l.length := by omega
  subst hie
  rw [List.take_length] at S4
  simp
  exact h w4 v S4
abbrev kg (v : Value) (l : List Spn) : Asn := ni T.e 8 gy v l
def bjt (w0 : World) (b : Bal) (l : List Spn) (tb : Nat) (R : List Asn) : KL := fun x w1 => ∃ (i : Nat) (Y : List Asn), i ≤ l.length ∧ Rdv w0 (Y ++ R) (gv x 5) ((l.drop i).flatMap ol) ∧ St w0 w1 (kg (gv x 3) (l.take i) :: gp tb #[.int .u64 b.n, .int .u64 b.iy] T.d :: (Y ++ R))
def slN (v : Value) : Nat := match v with
 | .slice _ n _ => n
 | _ => 0
theorem bcl (S : St w0 w R) {v : Value} {b : Bal} {l : List Spn} (hv : Rdv w0 R v (lz b l)) (hb : b.rng) (hne : l ≠ []) (hr : ∀ s ∈ l, ku s = 0 ∧ vk s) (htr : ∀ s ∈ l, ∀ s' ∈ l, s.il = s'.il) (hl : l.length ≤ 1000) {K : KV}
  (h : ∀ w' v', St w0 w' (kg v' l :: R) → K (.tuple #[kj b, v', .bool true]) w') : gb P F.ep [v] w K := by
 rw [M.bu.fcall]
 apply M.bu.calls
 unfold M.bu
 have hlen : ∀ w' K, biT P .len #[T.f] T.b [false] [v] w' K = K (.int .i64 (lz b l).length) w' := fun w' K => (hv w [] S).im (by kernel_rfl) [false]
 have h16 : ¬ ((lz b l).length : Int) ≤ 16 := by
  unfold lz
  rw [List.length_append, List.length_append, la, la]
  cases l with
  | nil => exact absurd rfl hne
  | cons s t =>
   have := (afx (hr s (by simp)).1).1
   rw [List.flatMap_cons, List.length_append]
   omega
 simp [hlen, h16]
 have S1 : St w0 (w.alloc (.cells #[.int .u64 0, .int .u64 0] T.d)) (gp w.heap.size #[.int .u64 0, .int .u64 0] T.d :: R) := S.mkB _ _
 generalize w.heap.size = tb at *
 generalize w.alloc _ = w1 at *
 unfold M.bu.j0
 have S2 := S1.jg ((Fr.refl _ w1).dr 1)
 have hlb : 16 ≤ (lz b l).length := by omega
 obtain ⟨v8, e8, r8⟩ := aht (L0 := [_]) S2 hv (lo := some (.int .i64 (8 : Nat))) (hi := none) (i := 8) (j := (lz b l).length) (.inr ⟨_, rfl⟩) (.inl ⟨rfl, rfl⟩) (by omega) (Nat.le_refl _)
 obtain ⟨v16, e16, r16⟩ := aht (L0 := [_]) S2 hv (lo := some (.int .i64 (16 : Nat))) (hi := none) (i := 16) (j := (lz b l).length) (.inr ⟨_, rfl⟩) (.inl ⟨rfl, rfl⟩) (by omega) (Nat.le_refl _)
 rw [List.take_of_length_le (by simp)] at r8 r16
 have d8 : (lz b l).drop 8 = kz b.iy ++ l.flatMap ol := by unfold lz; exact List.drop_left' (la _)
 have d16 : (lz b l).drop 16 = l.flatMap ol := by
  have : (lz b l).drop 16 = ((lz b l).drop 8).drop 8 := by rw [List.drop_drop]
  rw [this, d8]
  exact List.drop_left' (la _)
 rw [d8] at r8
 rw [d16] at r16
 have e8' : ∀ w1 K, slT P T.f v (some (.int .i64 8)) none none w1 K = K v8 w1 := e8
 have e16' : ∀ w1 K, slT P T.f v (some (.int .i64 16)) none none w1 K = K v16 w1 := e16
 simp [e8']
 refine akk (hv _ [_] S2) (by omega) ?_
 refine akk (r8 _ [_] S2) (by rw [List.length_append, la]; omega) ?_
 have u1 : aip (lz b l) = b.n := by unfold lz; exact aiq hb.1 _
 have u2 : aip (kz b.iy ++ l.flatMap ol) = b.iy := aiq hb.2 _
 rw [u1, u2]
 simp
 refine St.put (vs := [.int .u64 b.n, .int .u64 b.iy]) (cs' := #[.int .u64 b.n, .int .u64 b.iy]) S2 (by simp [jz]) (by simp) rfl fun w3 S3 => ?_
 simp [e16']
 refine ⟨bjt w0 b l tb R, fun x _ => l.length - slN (gv x 3), ⟨0, [], Nat.zero_le _, by simpa using r16, by simpa using Go.Eng.qz S3⟩, ?_⟩
 rintro x w4 ⟨i, Y, hi, hrv, S4⟩
 have hsn : slN (gv x 3) = i := by
  obtain ⟨_, _, e, _⟩ := S4.row lk
  rw [e]
  show (l.take i).length = i
  rw [List.length_take]
  omega
 unfold M.bu.j2
 have hrv4 := hrv w4 [_, _] S4
 have blen : ∀ w' K, biT P .len #[T.f] T.b [false] [gv x 5] w' K = K (.int .i64 ((l.drop i).flatMap ol).length) w' := fun w' K => hrv4.im (by kernel_rfl) [false]
 by_cases hil : i < l.length
 case neg =>
  have hie : i = l.length := by omega
  subst hie
  rw [List.take_length] at S4
  obtain ⟨_, _, bl⟩ := qn S4.swap
  have e0 : ((l.drop l.length).flatMap ol).length = 0 := by simp
  have hst : ∀ w' K, stT P T.d (.pointer (some ⟨tb, 0, none⟩)) (kj b) w' K = stN P tb 0 [.int .u64 b.n, .int .u64 b.iy] w' K := fun w' K => by
   unfold kj
   simp
  rw [e0] at blen
  simp [blen, bl, hst]
  refine St.put (vs := [.int .u64 b.n, .int .u64 b.iy]) (cs' := #[.int .u64 b.n, .int .u64 b.iy]) S4.swap (by simp [jz]) (by simp) rfl fun w5 S5 => ?_
  obtain ⟨_, _, bl5⟩ := qn S5
  have hres : ∀ w' K, qg P T.d (.pointer (some ⟨tb, 0, none⟩)) w' K = ldN P 2 tb 0 w' K := fun w' K => Eq.trans (by kernel_rfl) rfl
  simp [hres, bl5]
  exact h w5 _ (bbt (L := [_]) (Y := Y) S5.drop)
 have hcons : l.drop i = l[i] :: l.drop (i + 1) := List.drop_eq_getElem_cons hil
 obtain ⟨hri, hRi⟩ := hr _ (List.getElem_mem hil)
 rw [hcons, List.flatMap_cons] at hrv blen
 have hpos : (0 : Int) < ((ol l[i] ++ (l.drop (i + 1)).flatMap ol).length : Int) := by
  have := (afx hri).1
  rw [List.length_append]
  omega
 generalize (ol l[i] ++ (l.drop (i + 1)).flatMap ol).length = N at hpos blen
 have hpn : 0 < N := by omega
 simp [blen, hpn]
 unfold M.bu.j3
 have hrl : ((l.drop (i + 1)).flatMap ol).length ≤ 10000000 := by
  have h1 := aac (l := l.drop (i + 1)) fun s hs => (hr s (List.mem_of_mem_drop hs)).1
  have h2 : (l.drop (i + 1)).length ≤ 1000 := by rw [List.length_drop]; omega
  have : (l.drop (i + 1)).length * 107 ≤ 1000 * 107 := Nat.mul_le_mul_right _ h2
  omega
 refine awe S4 (hrv.mono [_, _]) hri hRi hrl fun w5 v5 S5 => ?_
 simp
 have S6 : St w0 (w5.alloc (.cells #[.int .u64 0, .int .u64 0, .int .u64 0, .int .u64 0, .int .u64 0, .string ⟨#[]⟩, .string ⟨#[]⟩, .bool false] T.e)) (spB w5.heap.size ⟨0, 0, 0, 0, 0, ⟨#[]⟩, ⟨#[]⟩, false⟩ :: _) := S5.mkB (gy ⟨0, 0, 0, 0, 0, ⟨#[]⟩, ⟨#[]⟩, false⟩).toArray T.e
 generalize w5.heap.size = sb at *
 generalize w5.alloc _ = w6 at *
 have hst : ∀ w' K, stT P T.e (.pointer (some ⟨sb, 0, none⟩)) (jx l[i]) w' K = stN P sb 0 (gy l[i]) w' K := fun w' K => by
  unfold jx
  simp [gy]
 rw [hst]
 refine St.put (vs := gy l[i]) (cs' := (gy l[i]).toArray) S6 (nq _) (by simp [gy]) rfl fun w7 S7 => ?_
 have S8 := S7.jg ((Fr.refl _ w7).dr 1)
 have sl : ∀ {w' : World} {L : List Asn}, St w0 w' (spB sb l[i] :: L) → ∀ K, ldN P 8 sb 0 w' K = K (jx l[i]) w' := fun S' K => S'.ldA (n := 8) (i := 0) (gy l[i]) rfl rfl K
 have ct : gi (dr w7 1) sb 0 = some (.int .u64 l[i].il) := by rw [S8.cell]; rfl
 have lvlen : ∀ w' K, biT P .len #[T.c] T.b [false] [gv x 3] w' K = K (.int .i64 (l.take i).length) w' := fun w' K => (S8.up2.row lk).im (by kernel_rfl) [false]
 rw [List.length_take, Nat.min_eq_left hi] at lvlen
 have qx : ∀ (x4 : List Value) w', gv x4 0 = gv x 3 → St w0 w' (spB sb l[i] :: jq v5 ((l.drop (i + 1)).flatMap ol) :: kg (gv x 3) (l.take i) :: gp tb #[.int .u64 b.n, .int .u64 b.iy] T.d :: (Y ++ R)) → biT P .append #[T.c, T.c] T.c [false, false] [gv x4 0, .slice (some ⟨w'.heap.size, 0, none⟩) 1 1] (w'.alloc (.cells (gy l[i]).toArray T.e)) fun t49 w => (fun x' w' => bjt w0 b l tb R x' w' ∧ l.length - slN (gv x' 3) < l.length - slN (gv x 3)) [.pointer (some ⟨sb, 0, none⟩), v5, .int .i64 0, t49, gv x4 1, v5] w := fun x4 w' x40 S' => by
  have S9 : St w0 (w'.alloc (.cells (gy l[i]).toArray T.e)) (kg (.slice (some ⟨w'.heap.size, 0, none⟩) 1 1) [l[i]] :: _) := St.uy (l := [l[i]]) S' lk (by simp) (by simp [maxLen])
  rw [x40]
  refine Go.Eng.ud et.c lk nq S9.up3 (l2 := [l[i]]) (S9.row lk) (by simp; omega) (by decide) fun w10 v10 S10 => ?_
  have e : l.take (i + 1) = l.take i ++ [l[i]] := by rw [List.take_add_one, List.getElem?_eq_getElem hil]; rfl
  rw [← e] at S10
  have S11 : St w0 w10 (kg v10 (l.take (i + 1)) :: jq v5 ((l.drop (i + 1)).flatMap ol) :: gp tb #[.int .u64 b.n, .int .u64 b.iy] T.d :: (Y ++ R)) := S10.swap.drop.swap.drop
  have S12 : St w0 w10 ([kg v10 (l.take (i + 1)), gp tb #[.int .u64 b.n, .int .u64 b.iy] T.d, jq v5 ((l.drop (i + 1)).flatMap ol)] ++ (Y ++ R)) := S11.tail (.swap _ _ _)
  refine ⟨⟨i + 1, [jq v5 ((l.drop (i + 1)).flatMap ol)], by omega, bgx, bbt S12⟩, ?_⟩
  have h10 : slN v10 = i + 1 := by
   obtain ⟨_, _, e2, _⟩ := S11.row lk
   rw [e2]
   show (l.take (i + 1)).length = i + 1
   rw [List.length_take]
   omega
  show l.length - slN v10 < _
  rw [h10, hsn]
  omega
 have hbs : ∀ w' K, bsT P T.c 1 #[(0, jx l[i])] w' K = K (.slice (some ⟨w'.heap.size, 0, none⟩) 1 1) (w'.alloc (.cells (gy l[i]).toArray T.e)) := fun w' K => by
  unfold jx
  simp [gy]
 by_cases hi0 : i = 0
 ·simp [lvlen, hi0]
  simp only [sl S8]
  rw [hbs]
  exact qx [gv x 3, gv x 4] (dr w7 1) rfl S8
 ·have hip : 0 < i := by omega
  have hl0 : 0 < (l.take i).length := by rw [List.length_take]; omega
  obtain ⟨ab, ao, cap, hv0, _, _, hc⟩ := (S8.up2.row lk).at (i := 0) hl0
  have hle : (l.take i).length = i := by rw [List.length_take]; omega
  have hia0 : ∀ w' K, iaT P T.c (gv x 3) (.int .i64 0) w' K = K (.pointer (some ⟨ab, ao, none⟩)) w' := fun w' K => by
   rw [hv0, aet (by simp) (by omega) (by omega)]
   simp
  have htt : (l.take i)[0].il = l[i].il := by
   rw [List.getElem_take]
   exact htr _ (List.getElem_mem _) _ (List.getElem_mem _)
  have c0 : gi (dr w7 1) ab ao = some (.int .u64 l[i].il) := by
   have := hc 0 (.int .u64 (l.take i)[0].il) rfl
   rw [htt] at this
   simpa using this
  simp [lvlen, hip, hia0, c0, ct]
  simp only [sl S8]
  rw [hbs]
  exact qx [gv x 3, gv x 4] (dr w7 1) rfl S8
end
set_option maxRecDepth 100000
open Go.Eng Go.Proofs.YtfnhoaemapheoaaGreat.Sint
def ajf (b : Bal) : List Value := [.int .u64 b.n, .int .u64 b.iy]
theorem amy (b : Bal) : (ajf b).length = 2 := rfl
def ta (a : Bal) (l : List Bal) : Bal := l.foldl (fun a x => if a.yr x = true then x else a) a
section
variable {w0 w : World} {R : List Asn}
abbrev baB (b : Nat) (x : Bal) : Asn := gp b #[.int .u64 x.n, .int .u64 x.iy] T.d
theorem akw {b : Nat} {x y : Bal} (S : St w0 w (baB b x :: R)) {K : KV} (h : ∀ w', St w0 w' (baB b y :: R) → K undef w') : stT P T.d (.pointer (some ⟨b, 0, none⟩)) (kj y) w K := by
 unfold kj
 simp
 exact St.put (vs := [.int .u64 y.n, .int .u64 y.iy]) (cs' := #[.int .u64 y.n, .int .u64 y.iy]) S (by simp [jz]) (by simp) rfl h
theorem aot (S : St w0 w R) : St w0 (w.alloc (.cells #[.int .u64 0, .int .u64 0] T.d)) (baB w.heap.size ic :: R) := S.mkB #[.int .u64 0, .int .u64 0] T.d
def GrI (w0 : World) (a : Bal) (l : List Bal) (tb : Nat) (R : List Asn) : KL := fun x w1 => ∃ (i : Nat), x = [.int .i64 (i : Nat)] ∧ i ≤ l.length ∧ St w0 w1 (baB tb (ta a (l.take i)) :: R)
theorem auc (S : St w0 w R) {v : Value} {l : List Bal} (hs : ∀ w' L, St w0 w' (L ++ R) → Sl w' 2 ajf v l) (hl : l.length ≤ 1000000) (a : Bal) {K : KV} (h : ∀ w', St w0 w' R → K (kj (ta a l)) w') : gb P F.dy [kj a, v] w K := by
 rw [M.bz.fcall]
 apply M.bz.calls
 unfold M.bz
 refine St.sx S fun tb w1 S1 => ?_
 have S1' : St w0 w1 (baB tb a :: R) := S1
 simp
 have S2 := aot S1'
 generalize w1.heap.size = rb at *
 generalize w1.alloc _ = w2 at *
 have hlen : ∀ w' K, biT P .len #[T.ax] T.b [false] [v] w' K = K (.int .i64 l.length) w' := fun w' K => (hs w2 [_, _] S2).im (by kernel_rfl) [false]
 simp [hlen]
 refine ⟨GrI w0 a l tb (baB rb ic :: R), fun x _ => l.length - ms x 0, ⟨0, rfl, Nat.zero_le _, S2.swap⟩, ?_⟩
 rintro x w3 ⟨i, rfl, hi, S3⟩
 by_cases hil : i < l.length
 ·have hwi : IntKind.i64.wrap ((i : Int) + 1) = ((i + 1 : Nat) : Int) := by rw [gm (by omega) (by omega)]; rfl
  simp [hil]
  unfold M.bz.j2
  obtain ⟨ab, ao, cap, hv, _, _, hc⟩ := (hs w3 [_, _] S3).at hil
  have hia : ∀ w' K, iaT P T.ax v (.int .i64 (i : Nat)) w' K = K (.pointer (some ⟨ab, ao + i * 2, none⟩)) w' := fun w' K => by
   rw [hv, aet (by kernel_rfl) (by omega) (by omega), show szE P T.ax = 2 from by kernel_rfl]
   simp
  have hld : ∀ K, ldN P 2 ab (ao + i * 2) w3 K = K (kj l[i]) w3 := fun K => rh (ajf l[i]) 2 rfl hc K
  have e : ta a (l.take (i + 1)) = if (ta a (l.take i)).yr l[i] = true then l[i] else ta a (l.take i) := by
   rw [List.take_add_one, List.getElem?_eq_getElem hil]
   unfold ta
   rw [List.foldl_append]
   rfl
  simp [hia, hld]
  have S4 := aot S3
  generalize w3.heap.size = qb at *
  generalize w3.alloc _ = w4 at *
  refine akw (y := l[i]) S4 fun w5 S5 => ?_
  obtain ⟨_, _, b1⟩ := qn S5
  obtain ⟨_, _, b2⟩ := qn S5.swap
  simp [b1, b2]
  refine bbg _ _ fun w6 f6 => ?_
  have S6 := S5.jg f6
  obtain ⟨_, _, d1⟩ := qn S6
  simp
  rw [ber]
  have fin : ∀ w', St w0 w' (baB tb (ta a (l.take (i + 1))) :: baB rb ic :: R) → GrI w0 a l tb (baB rb ic :: R) [.int .i64 ((i + 1 : Nat) : Int)] w' ∧ l.length - ms [.int .i64 ((i + 1 : Nat) : Int)] 0 < l.length - ms [.int .i64 (i : Nat)] 0 := fun w' S' => ⟨⟨i + 1, rfl, by omega, S'⟩, by simp [ms, gv]; omega⟩
  cases hb : (ta a (l.take i)).yr l[i] with
  | true =>
   rw [hb] at e
   simp only [if_true] at e
   simp [d1]
   refine akw (y := l[i]) S6.swap fun w7 S7 => ?_
   rw [hwi]
   refine fin w7 ?_
   rw [e]
   exact S7.swap.drop
  | false =>
   rw [hb] at e
   simp only [Bool.false_eq_true, if_false] at e
   simp
   rw [hwi]
   refine fin w6 ?_
   rw [e]
   exact S6.drop
 ·have hie : i = l.length := by omega
  subst hie
  rw [List.take_length] at S3
  obtain ⟨_, _, b1⟩ := qn S3
  simp [b1]
  refine akw (y := ta a l) S3.swap fun w5 S5 => ?_
  obtain ⟨_, _, b2⟩ := qn S5
  have hres : ∀ w' K, qg P T.d (.pointer (some ⟨rb, 0, none⟩)) w' K = ldN P 2 rb 0 w' K := fun w' K => Eq.trans (by kernel_rfl) rfl
  simp [hres, b2]
  exact h w5 S5.drop.drop
theorem bks (S : St w0 w R) {v : Value} {l : List Bal} (hs : ∀ w' L, St w0 w' (L ++ R) → Sl w' 2 ajf v l) (hl : l.length ≤ 1000000) {K : KV} (h : ∀ w', St w0 w' R → K (kj (ta ic l)) w') : gb P F.er [v] w K := by
 rw [M.eg.fcall]
 apply M.eg.calls
 unfold M.eg
 simp
 have S2 := aot S
 generalize w.heap.size = rb at *
 generalize w.alloc _ = w2 at *
 refine auc (a := ic) S2 (fun w' L S' => hs w' (L ++ [_]) (by simpa using S')) hl fun w3 S3 => ?_
 refine akw (y := ta ic l) S3 fun w5 S5 => ?_
 obtain ⟨_, _, b2⟩ := qn S5
 have hres : ∀ w' K, qg P T.d (.pointer (some ⟨rb, 0, none⟩)) w' K = ldN P 2 rb 0 w' K := fun w' K => Eq.trans (by kernel_rfl) rfl
 simp [hres, b2]
 exact h w5 S5.drop
end
set_option maxRecDepth 100000
open Go.Eng Go.Proofs.YtfnhoaemapheoaaGreat.Sint
def oe (tr : Int) (v : Value) : Pk := ⟨10, tr, ic, ic, 0, false, ia, ia, v⟩
theorem bfh {tr : Int} {v : Value} (h : sy tr) : xn (oe tr v) := ⟨h, ⟨by show (0 : Int) ≤ 0 ∧ (0 : Int) < _; omega, by show (0 : Int) ≤ 0 ∧ (0 : Int) < _; omega⟩, ⟨by show (0 : Int) ≤ 0 ∧ (0 : Int) < _; omega, by show (0 : Int) ≤ 0 ∧ (0 : Int) < _; omega⟩⟩
theorem ye {w : World} {tr : Int} {v : Value} {l : List Int} (h : SlU w v l) : ∀ u ∈ pkC (oe tr v), jz u = true := by
 obtain ⟨_, _, e, _⟩ := h
 unfold oe pkC
 rw [e]
 exact sr (b := ic) (s := ic)
theorem akc {w : World} {tr : Int} {v : Value} {l : List Int} (hs : SlU w v l) (hlen : l.length ≤ 1000000) {K : KV} (h : ∀ w' v', SlU w' v' l → (∀ b, v'.ownBlock = some b → w.heap.size ≤ b) → Fr (fun _ => False) w w' → K (pkA ⟨10, tr, ic, ic, 0, false, ia, ia, v'⟩) w') : gb P F.au [.iface T.m (.agg #[.int .u64 tr, v])] w K := by
 rw [M.l.fcall]
 apply M.l.calls
 unfold M.l
 obtain ⟨a, c, hv, _⟩ := id hs
 rw [hv]
 simp [zj, yc, ace, zi, aas, vr]
 have S0 := adn w
 have z0 : (w.alloc (.cells #[.int .i64 0, .int .u64 0, .int .u64 0, .int .u64 0, .int .u64 0, .int .u64 0, .int .i64 0, .bool false, .slice none 0 0, .slice none 0 0, .slice none 0 0] T.a)).heap.size = w.heap.size + 1 := jl _ _
 generalize w.alloc (.cells #[.int .i64 0, .int .u64 0, .int .u64 0, .int .u64 0, .int .u64 0, .int .u64 0, .int .i64 0, .bool false, .slice none 0 0, .slice none 0 0, .slice none 0 0] T.a) = w1 at *
 have S1 := abl S0 #[.int .u64 0, .slice none 0 0] T.m
 rw [z0] at S1
 generalize w.heap.size = pb at *
 generalize pb + 1 = ob at *
 refine jm (vs := [Value.int .u64 tr, .slice a l.length c]) S1.blk rfl (by simp [jz]) fun w2 b2 f2 => ?_
 have S2 := S1.ly f2 b2
 have thC : ∀ {W : World} {R : List Asn}, St w W (gp ob [Value.int .u64 tr, .slice a l.length c].toArray T.m :: R) → gi W ob 0 = some (.int .u64 tr) ∧ gi W ob 1 = some (.slice a l.length c) := fun {W R} S' => by
  have hh := S'.blk
  exact ⟨by rw [gj hh]; rfl, by rw [gj hh]; rfl⟩
 have hpl : pb < w2.heap.size := (Array.getElem?_eq_some_iff.1 S2.swap.blk).1
 have fd : Fr (fun _ => False) w2 (dr w2 1) := (Fr.refl _ w2).dr 1
 have Sd := S2.jg fd
 obtain ⟨c0, c1⟩ := thC S2
 obtain ⟨e0, e1⟩ := thC Sd
 simp [c0, c1, e0, e1]
 rw [← hv]
 refine agu ((hs.fr Sd.fr fun _ _ _ h => h)) hlen fun w3 v3 s3 n3 f3 => ?_
 obtain ⟨a3, c3, hv3, _⟩ := id s3
 have S3 := Sd.jg f3
 obtain ⟨g0, g1⟩ := thC S3
 have hnn : ∀ b, v3.ownBlock = some b → b ≠ pb := fun b hb => by
  have := n3 b hb
  have := fd.size
  omega
 have hge : ∀ b, v3.ownBlock = some b → pb ≤ b := fun b hb => by
  have := n3 b hb
  have := fd.size
  omega
 rw [hv3] at s3 hnn hge ⊢
 simp [g0, g1]
 refine jm (vs := pkC ⟨10, tr, ic, ic, 0, false, ia, ia, .slice a3 l.length c3⟩) S3.swap.blk rfl sr fun w4 b4 f4 => ?_
 have S4 := S3.swap.ly f4 b4
 have s4 : SlU w4 (.slice a3 l.length c3) l := s3.fr f4 fun b hb _ => hnn b hb
 rw [wu S4]
 have e : pkA ⟨10, tr, ic, ic, 0, false, ia, ia, .slice a3 l.length c3⟩ = .agg #[.int .i64 10, .int .u64 tr, .int .u64 0, .int .u64 0, .int .u64 0, .int .u64 0, .int .i64 0, .bool false, .slice none 0 0, .slice none 0 0, .slice a3 l.length c3] := rfl
 rw [e]
 simp
 refine jm (vs := pkC ⟨10, tr, ic, ic, 0, false, ia, ia, .slice a3 l.length c3⟩) S4.blk rfl sr fun w5 b5 f5 => ?_
 have S5 := S4.ly f5 b5
 rw [zg S5]
 exact ⟨rfl, h w5 _ (s4.fr f5 fun b hb _ => hnn b hb) hge S5.fr⟩
theorem att {w : World} {tr : Int} {v : Value} {l : List Int} (hs : SlU w v l) (hl : l.length ≤ 1000000) (ht : sy tr) (hr : ∀ v', rl (oe tr v') [] [] l = true) {K : KV}
  (h : ∀ w' v', SlU w' v' l → (∀ b, v'.ownBlock = some b → w.heap.size ≤ b) → Fr (fun _ => False) w w' → K (.tuple #[pkA (oe tr v'), .int .i64 0]) w') : gb P F.ed [.iface T.m (.agg #[.int .u64 tr, v])] w K := by
 rw [M.dm.fcall]
 apply M.dm.calls
 unfold M.dm
 simp
 have S1 := zv (St.jh w)
 generalize w.heap.size = tb at *
 generalize w.alloc _ = w1 at *
 have htb : tb < w1.heap.size := (Array.getElem?_eq_some_iff.1 S1.blk).1
 refine akc (hs.fr S1.fr fun _ _ _ h => h) hl fun w2 v2 s2 o2 f2 => ?_
 have S2 := S1.jg f2
 have S3 := zv (St.jh w2)
 generalize w2.heap.size = rb at *
 generalize w2.alloc _ = w3 at *
 have hst : ∀ b w' K, stT P T.a (.pointer (some ⟨b, 0, none⟩)) (pkA (oe tr v2)) w' K = stN P b 0 (pkC (oe tr v2)) w' K := fun b w' K => aah _ _ _ _
 show stT P T.a (.pointer (some ⟨rb, 0, none⟩)) (pkA (oe tr v2)) w3 _
 rw [hst]
 refine acj (q := oe tr v2) S3 rfl (ye s2) fun w4 S4 => ?_
 have s4 := s2.fr S4.fr fun _ _ _ h => h
 have pl := fun K => qc S4 K
 simp [pl]
 refine afq ⟨Sl.nil, Sl.nil, s4, by simp, by simp, hl⟩ (bfh ht) fun w5 f5 => ?_
 have er : aaj (oe tr v2) [] [] l = 0 := by unfold aaj; rw [hr]; rfl
 rw [er]
 have S5 := S4.jg f5
 have s5 := s4.fr f5 fun _ _ _ h => h
 have pl5 := fun K => qc S5 K
 simp [pl5]
 rw [hst]
 have S6 : St w w5 (gp tb (pkC pkZ).toArray T.a :: []) := S2.jg S5.fr
 refine jm (vs := pkC (oe tr v2)) S6.blk rfl (ye s5) fun w6 b6 f6 => ?_
 have S7 := S6.ly f6 b6
 have s6 : SlU w6 v2 l := s5.fr f6 fun b hb _ => by
  have := o2 b hb
  omega
 rw [zg S7]
 exact ⟨rfl, h w6 v2 s6 (fun b hb => Nat.le_trans (Nat.le_of_lt htb) (o2 b hb)) S7.fr⟩
section
variable {w0 w : World} {R : List Asn} {q hb p r : Nat} {L : Lg} {dn : Bool} {D : Dk} {G : Nat} {s f : Int} {lv : Value} {l : List Spn} {b : Bal}
abbrev jw (q hb p r : Nat) (dn : Bool) : Asn := gp q (aik hb p r dn) T.aj
theorem uo (S : St w0 w (jw q hb p r dn :: R)) : gi w q 0 = some (.pointer (some ⟨hb, 0, none⟩)) ∧ gi w q 1 = some (jv p) ∧ gi w q 2 = some (.map (some r)) ∧ gi w q 3 = some (.bool dn) :=
 ⟨by rw [S.cell]; rfl, by rw [S.cell]; rfl, by rw [S.cell]; rfl, by rw [S.cell]; rfl⟩
theorem aut {k : Int} {x1 : List Value} (S : St w0 w (jw q hb p r dn :: R)) (hx : gv x1 0 = .int .i64 k) {K : KV} (h : ∀ w', St w0 w' (jw q hb p r (dn || decide (k = 10)) :: R) → K (.int .i64 k) w') : M.aa.j1 (jv q) x1 w K := by
 obtain ⟨_, _, _, c3⟩ := uo S
 unfold M.aa.j1 jv
 rw [hx]
 cases dn with
 | true =>
  simp [c3]
  exact S.ui rfl (by simp [aik]) fun w' S' => h w' S'
 | false =>
  by_cases hk : k = 10
  ·subst hk
   simp [c3]
   exact S.ui rfl (by simp [aik]) fun w' S' => h w' S'
  ·simp [c3, hk]
   refine S.ui rfl (by simp [aik]) fun w' S' => h w' ?_
   simp only [hk, decide_false, Bool.false_or]
   exact S'
theorem ayi (S : St w0 w R) (hs : SlS w lv []) {a0 : Value} {K : KV} (h : ∀ w', St w0 w' R → K (.int .i64 0) w') : gb P F.bo [a0, kj b, lv] w K := by
 rw [M.aa.fcall]
 apply M.aa.calls
 unfold M.aa
 refine St.sx S fun bb w1 S1 => ?_
 have hlen : ∀ w' K, biT P .len #[T.c] T.b [false] [lv] w' K = K (.int .i64 0) w' := fun w' K => hs.im (by kernel_rfl) [false]
 simp [hlen]
 exact h w1 S1.drop
theorem bcb (S : St w0 w (jw q hb p r dn :: lj p hb L :: ig hb D :: R)) (hs : ∀ w' L', St w0 w' (L' ++ R) → SlS w' lv l) (hne : l ≠ []) (hr : ∀ s ∈ l, ku s = 0) (hl : l.length ≤ 60) (hg : qq s f L G D) (hn : f + (jf L.gk).length + 1 ≤ 1000000000000) {K : KV}
  (h : ∀ w', St w0 w' (jw q hb p r (dn || decide ((wrF L D [lz b l]).2 = 10)) :: lj p hb (wrF L D [lz b l]).1.1 :: ig hb (wrF L D [lz b l]).1.2 :: R) → K (.int .i64 (wrF L D [lz b l]).2) w') : gb P F.bo [jv q, kj b, lv] w K := by
 rw [M.aa.fcall]
 apply M.aa.calls
 unfold M.aa
 refine St.sx S fun bb w1 S1 => ?_
 have S1' : St w0 w1 (gp bb #[.int .u64 b.n, .int .u64 b.iy] T.d :: jw q hb p r dn :: lj p hb L :: ig hb D :: R) := S1
 have hlen : ∀ w' K, biT P .len #[T.c] T.b [false] [lv] w' K = K (.int .i64 l.length) w' := fun w' K => (hs w1 [_, _, _, _] S1').im (by kernel_rfl) [false]
 have hz : ¬ (l.length : Int) = 0 := fun hz => hne (List.eq_nil_of_length_eq_zero (by omega))
 simp [hlen, hne]
 unfold M.aa.j0 jv
 have S2 := S1'.jg ((Fr.refl _ w1).dr 1)
 obtain ⟨_, c1, _, _⟩ := uo S2.swap
 obtain ⟨_, _, bl⟩ := qn S2
 simp [c1, bl]
 refine bew S2 b (fun w' L' S' => hs w' (L' ++ [_, _, _, _]) (by simpa using S')) hr (by omega) fun w3 v3 S3 => ?_
 obtain ⟨_, d1, _, _⟩ := uo S3.up2
 simp [d1]
 have hrec : (lz b l).length ≤ 8192 := by
  have := aac hr
  unfold lz
  rw [List.length_append, List.length_append, la, la]
  omega
 have S4 : St w0 w3 (lj p hb L :: ig hb D :: jw q hb p r dn :: jq v3 (lz b l) :: gp bb #[.int .u64 b.n, .int .u64 b.iy] T.d :: R) := (S3.up4.up4).tail (.cons _ (List.perm_middle (l₁ := [_, _])))
 refine axh (av := v3) (rec := lz b l) S4 (bke S4.swap hg) (by omega) (fun w' L' S' => ?_) fun w5 S5 => ?_
 ·have S6 : St w0 w' ((L' ++ [jw q hb p r dn]) ++ (jq v3 (lz b l) :: gp bb #[.int .u64 b.n, .int .u64 b.iy] T.d :: R)) := by simpa using S'
  exact (S6.perm List.perm_middle).row jj
 have ha := bdz (b := lz b l) hg hn
 by_cases h0 : (L.append D (lz b l)).2 = 0
 ·rw [aps h0] at h
  have e0 : ∀ Li Di, wrF Li Di [] = ((Li, (Li.my Di).1), (Li.my Di).2) := fun Li Di => by unfold wrF rq; simp
  rw [e0] at h
  generalize L.append D (lz b l) = z at *
  cases ha with
  | aki => simp at h0
  | ul => simp at h0
  | iu => simp at h0
  | ok L' D' g' e1 =>
   obtain ⟨_, f1, _, _⟩ := uo S5.up2
   simp [f1]
   refine aou S5 (by have := g'.vir.len; show L'.gk.length ≤ 1000000; omega) fun w6 S6 => ?_
   exact aut S6.up2 rfl fun w7 S7 => h w7 (S7.up3.drop.up3.drop)
 ·rw [bdh h0] at h
  simp [h0]
  exact aut S5.up2 rfl fun w7 S7 => h w7 (S7.up3.drop.up3.drop)
end
set_option maxRecDepth 100000
open Go.Eng Go.Proofs.YtfnhoaemapheoaaGreat.Sint
def aam (x y : Spn) : Int := orK [ru x.jh y.jh, ru x.id y.id]
theorem bax {w : World} (x y : Spn) {K : KV} (h : ∀ w', Fr (fun _ => False) w w' → K (.int .i64 (aam x y)) w') : gb P F.dp [jx x, jx y] w K := by
 rw [M.eh.fcall]
 apply M.eh.calls
 unfold M.eh
 refine St.sx (St.jh w) fun b1 w1 S1 => ?_
 refine St.sx S1 fun b2 w2 S2 => ?_
 have S3 : St w (dr w2 1) (spB b2 y :: spB b1 x :: []) := S2.jg ((Fr.refl _ w2).dr 1)
 have x3 : gi (dr w2 1) b1 3 = some (.int .u64 x.jh) := by rw [S3.swap.cell]; rfl
 have x1 : gi (dr w2 1) b1 1 = some (.int .u64 x.id) := by rw [S3.swap.cell]; rfl
 have y3 : gi (dr w2 1) b2 3 = some (.int .u64 y.jh) := by rw [S3.cell]; rfl
 have y1 : gi (dr w2 1) b2 1 = some (.int .u64 y.id) := by rw [S3.cell]; rfl
 simp [x3, x1, y3, y1]
 refine zq _ _ ?_
 simp [x3, x1, y3, y1]
 refine zq _ _ ?_
 simp
 have S4 := S3.mkB #[.int .i64 (ru x.jh y.jh), .int .i64 (ru x.id y.id)] T.b
 rw [show (dr w2 1).heap.size = w2.heap.size from rfl] at S4
 have hsl : Sl ((dr w2 1).alloc (.cells #[.int .i64 (ru x.jh y.jh), .int .i64 (ru x.id y.id)] T.b)) 1 xw (.slice (some ⟨w2.heap.size, 0, none⟩) 2 2) [ru x.jh y.jh, ru x.id y.id] := by
  have hh := S4.blk
  refine ⟨some ⟨w2.heap.size, 0, none⟩, 2, rfl, by simp, by simp [maxLen], fun i z hz => ⟨w2.heap.size, 0, rfl, oh hh, fun j u hj => ?_⟩⟩
  rw [gj hh]
  match i, j with
  | 0, 0 => simp [xw] at hz hj ⊢; rw [hz]; exact hj
  | 1, 0 => simp [xw] at hz hj ⊢; rw [hz]; exact hj
  | i + 2, _ => simp at hz
  | _, j + 1 => simp [xw] at hj
 rw [M.cz.fcall]
 exact bbu hsl (by simp) (h _ S4.fr)
def amb (w0 : World) (R : List Asn) (fv : Value) (pf : Spn → Bool) : Prop := ∀ w' L x (K : KV), St w0 w' (L ++ R) → (∀ w'', Fr (fun _ => False) w' w'' → K (.bool (pf x)) w'') → mh P fv [jx x] w' K
section
variable {w0 w : World} {R : List Asn} {v fv : Value} {l : List Spn} {pf : Spn → Bool}
def bmq (w0 : World) (l : List Spn) (pf : Spn → Bool) (R : List Asn) : KL := fun x w1 => ∃ (i : Nat), gv x 2 = .int .i64 (i : Nat) ∧ i ≤ l.length ∧ (∀ j (h : j < l.length), j < i → pf l[j] = false) ∧ St w0 w1 R
theorem azx (S : St w0 w R) (hs : ∀ w' L, St w0 w' (L ++ R) → SlS w' v l) (hf : amb w0 R fv pf) (hl : l.length ≤ 1000000) {K : KV}
  (hno : (∀ x ∈ l, pf x = false) → ∀ w', St w0 w' R → K (.int .i64 (-1)) w')
  (hyes : ∀ i (hi : i < l.length), pf l[i] = true → (∀ j (h : j < l.length), j < i → pf l[j] = false) → ∀ w', St w0 w' R → K (.int .i64 (i : Nat)) w') : gb P F.az [v, fv] w K := by
 rw [M.r.fcall]
 apply M.r.calls
 unfold M.r
 have hlen : ∀ w' K, biT P .len #[T.c] T.b [false] [v] w' K = K (.int .i64 l.length) w' := fun w' K => (hs w [] S).im (by kernel_rfl) [false]
 simp [hlen]
 refine ⟨bmq w0 l pf R, fun x _ => l.length - ms x 2, ⟨0, rfl, Nat.zero_le _, fun j _ h => by omega, S⟩, ?_⟩
 rintro x w1 ⟨i, e2, hi, hpre, S1⟩
 rw [e2]
 by_cases hil : i < l.length
 ·have hwi : IntKind.i64.wrap ((i : Int) + 1) = ((i + 1 : Nat) : Int) := by rw [gm (by omega) (by omega)]; rfl
  simp [hil]
  unfold M.r.j2
  rw [e2]
  obtain ⟨ab, ao, cap, hv, _, _, hc⟩ := (hs w1 [] S1).at hil
  have hia : ∀ w' K, iaT P T.c v (.int .i64 (i : Nat)) w' K = K (.pointer (some ⟨ab, ao + i * 8, none⟩)) w' := fun w' K => by rw [hv]; simp [hil]
  have hld : ∀ K, ldN P 8 ab (ao + i * 8) w1 K = K (jx l[i]) w1 := fun K => rh (gy l[i]) 8 rfl hc K
  simp [hia, hld]
  refine hf w1 [] l[i] _ S1 fun w2 f2 => ?_
  have S2 := S1.jg f2
  cases hp : pf l[i] with
  | true =>
   simp
   exact hyes i hil hp hpre w2 S2
  | false =>
   simp
   rw [hwi]
   refine ⟨⟨i + 1, rfl, by omega, fun j h hj => ?_, S2⟩, ?_⟩
   ·by_cases hji : j = i
    ·subst hji; exact hp
    ·exact hpre j h (by omega)
   ·have : ms x 2 = i := by unfold ms; rw [e2]; simp
    rw [this]
    simp [ms, gv]; omega
 ·have hie : i = l.length := by omega
  subst hie
  simp
  refine hno (fun y hy => ?_) w1 S1
  obtain ⟨j, hj, rfl⟩ := List.getElem_of_mem hy
  exact hpre j hj hj
end
set_option maxRecDepth 100000
open Go.Eng
def leS (x y : Spn) : Prop := x.jh < y.jh ∨ (x.jh = y.jh ∧ x.id ≤ y.id)
theorem yj {x y : Spn} : aam x y < 0 ↔ ¬ leS y x := by
 unfold aam orK ru leS
 by_cases h1 : x.jh < y.jh
 ·have h2 : ¬ y.jh < x.jh := by omega
  simp [h1, h2]
  omega
 ·by_cases h2 : y.jh < x.jh
  ·simp [h1, h2]
  ·have h3 : y.jh = x.jh := by omega
   by_cases h4 : x.id < y.id
   ·simp [h3, h4]
   ·by_cases h5 : y.id < x.id
    ·simp [h3, h4, h5] <;> omega
    ·simp [h3, h4, h5] <;> omega
theorem leS.refl (x : Spn) : leS x x := .inr ⟨rfl, Int.le_refl _⟩
theorem leS.trans {x y z : Spn} (h : leS x y) (h' : leS y z) : leS x z := by unfold leS at *; omega
theorem leS.of {x y : Spn} (h : ¬ leS y x) : leS x y := by unfold leS at *; omega
abbrev nw (l : List Spn) : Prop := l.Pairwise leS
theorem nw.le {l : List Spn} (h : nw l) {i j : Nat} (hij : i ≤ j) (hj : j < l.length) : leS (l[i]'(by omega)) l[j] := by
 by_cases he : i = j
 ·subst he; exact leS.refl _
 ·exact List.pairwise_iff_getElem.1 h i j (by omega) hj (by omega)
theorem ann {l l' : List Spn} (hp : l.Perm l') (h1 : nw l) (h2 : nw l') (hn : ∀ x ∈ l, ∀ y ∈ l, x.id = y.id → x = y) : l = l' :=
 List.Perm.eq_of_pairwise (fun a b ha hb h1 h2 => hn a ha b (hp.mem_iff.2 hb) (by unfold leS at h1 h2; omega)) h1 h2 hp
theorem akq {A B : List Spn} (hA : nw A) (hB : nw B) {s t : Nat} (hs : s ≤ A.length) (h : s = 0 ∨ t = B.length ∨ ∃ (h1 : s - 1 < A.length) (h2 : t < B.length), leS A[s - 1] B[t]) : ∀ x ∈ A.take s, ∀ y ∈ B.drop t, leS x y := by
 intro x hx y hy
 obtain ⟨i, hi, rfl⟩ := List.mem_iff_getElem.1 hx
 obtain ⟨j, hj, rfl⟩ := List.mem_iff_getElem.1 hy
 simp only [List.length_take, List.length_drop] at hi hj
 rw [List.getElem_take, List.getElem_drop]
 rcases h with h | h | ⟨h1, h2, h3⟩
 ·omega
 ·omega
 ·exact ((hA.le (i := i) (j := s - 1) (by omega) h1).trans h3).trans (hB.le (i := t) (j := t + j) (by omega) (by omega))
theorem aid {A B C1 C2 : List Spn} (hA : nw A) (hB : nw B) {s t : Nat} (hs : s ≤ A.length) (ht : t ≤ B.length)
  (h1 : s = 0 ∨ t = B.length ∨ ∃ (h1 : s - 1 < A.length) (h2 : t < B.length), leS A[s - 1] B[t])
  (h2 : t = 0 ∨ s = A.length ∨ ∃ (h1 : t - 1 < B.length) (h2 : s < A.length), leS B[t - 1] A[s])
  (c1 : nw C1) (p1 : C1.Perm (A.take s ++ B.take t)) (c2 : nw C2) (p2 : C2.Perm (A.drop s ++ B.drop t)) : nw (C1 ++ C2) ∧ (C1 ++ C2).Perm (A ++ B) := by
 have k1 := akq hA hB hs h1
 have k2 := akq hB hA ht h2
 refine ⟨List.pairwise_append.2 ⟨c1, c2, fun x hx y hy => ?_⟩, ?_⟩
 ·have hx' := List.mem_append.1 (p1.mem_iff.1 hx)
  have hy' := List.mem_append.1 (p2.mem_iff.1 hy)
  have dA : A = A.take s ++ A.drop s := (List.take_append_drop s A).symm
  have dB : B = B.take t ++ B.drop t := (List.take_append_drop t B).symm
  rw [dA] at hA
  rw [dB] at hB
  rcases hx' with hx' | hx' <;> rcases hy' with hy' | hy'
  ·exact (List.pairwise_append.1 hA).2.2 x hx' y hy'
  ·exact k1 x hx' y hy'
  ·exact k2 x hx' y hy'
  ·exact (List.pairwise_append.1 hB).2.2 x hx' y hy'
 ·refine (p1.append p2).trans ?_
  have e : (A.take s ++ B.take t ++ (A.drop s ++ B.drop t)).Perm (A.take s ++ A.drop s ++ (B.take t ++ B.drop t)) := by
   simp only [List.append_assoc]
   refine List.Perm.append_left _ ?_
   rw [← List.append_assoc, ← List.append_assoc]
   exact List.Perm.append_right _ List.perm_append_comm
  rwa [List.take_append_drop, List.take_append_drop] at e
theorem aso {B : List Spn} {x : Spn} {i : Nat} (hB : nw B) (hi : i ≤ B.length) (h1 : i = 0 ∨ ∃ h : i - 1 < B.length, leS B[i - 1] x) (h2 : i = B.length ∨ ∃ h : i < B.length, leS x B[i]) : nw (B.take i ++ x :: B.drop i) := by
 have h := aid (A := B) (B := [x]) (C1 := B.take i) (C2 := x :: B.drop i) (s := i) (t := 0) hB (by simp) hi (by simp) (by
  rcases h1 with h | ⟨h, hl⟩
  ·exact .inl h
  ·exact .inr (.inr ⟨h, by simp, by simpa using hl⟩)) (.inl rfl) (hB.sublist (List.take_sublist _ _)) (by simp) ?_ (by simpa using (List.perm_append_comm (l₁ := [x]) (l₂ := B.drop i)))
 ·exact h.1
 ·refine List.pairwise_cons.2 ⟨fun y hy => ?_, hB.sublist (List.drop_sublist _ _)⟩
  obtain ⟨j, hj, rfl⟩ := List.mem_iff_getElem.1 hy
  simp only [List.length_drop] at hj
  rw [List.getElem_drop]
  rcases h2 with h | ⟨h, hl⟩
  ·omega
  ·exact hl.trans (hB.le (i := i) (j := i + j) (by omega) (by omega))
theorem asi (B : List Spn) (x : Spn) (i : Nat) : (B.take i ++ x :: B.drop i).Perm (x :: B) := by
 have := List.perm_middle (l₁ := B.take i) (a := x) (l₂ := B.drop i)
 rwa [List.take_append_drop] at this
def awr (l : List Spn) (i j : Nat) (hi : i < l.length) (hj : j < l.length) : List Spn := (l.set i l[j]).set j l[i]
theorem auw (P Q R : List Spn) (x y : Spn) {l : List Spn} {i j : Nat} (hl : l = P ++ x :: (Q ++ y :: R)) (hi : i = P.length) (hj : j = P.length + 1 + Q.length) (h1 : i < l.length) (h2 : j < l.length) : awr l i j h1 h2 = P ++ y :: (Q ++ x :: R) := by
 subst hl hi hj
 have e1 : (P ++ x :: (Q ++ y :: R))[P.length]'h1 = x := by simp
 have e2 : (P ++ x :: (Q ++ y :: R))[P.length + 1 + Q.length]'h2 = y := by
  rw [List.getElem_append_right (by omega)]
  have : P.length + 1 + Q.length - P.length = Q.length + 1 := by omega
  simp [this]
 unfold awr
 rw [e1, e2]
 have : (P ++ x :: (Q ++ y :: R)).set P.length y = P ++ y :: (Q ++ y :: R) := by simp
 rw [this]
 rw [List.set_append_right _ _ (by omega)]
 have : P.length + 1 + Q.length - P.length = Q.length + 1 := by omega
 rw [this]
 simp
abbrev EnS := Bal × Spn
def isE (t : Int) (e : EnS) : Bool := decide (e.2.il = t)
def wq (es : List EnS) (x : Spn) : Bool := es.any fun e => decide (e.2.il = x.il) && decide (e.2.id = x.id)
def ll (b : Bal) (es : List EnS) (x : Spn) : List EnS := if wq es x = true then es else es ++ [(b, x)]
def mo (es : List EnS) (t : Int) : List Spn := (es.filter (isE t)).map (·.2)
def afv (es : List EnS) (t : Int) : List Bal := (es.filter (isE t)).map (·.1)
def bOf (es : List EnS) (t : Int) : Bal := ta ic (afv es t)
def acu (l : List Int) (t : Int) : List Int := if t ∈ l then l else l ++ [t]
def qf (es : List EnS) : List Int := es.foldl (fun l e => acu l e.2.il) []
theorem asw (es : List EnS) (e : EnS) : qf (es ++ [e]) = acu (qf es) e.2.il := by unfold qf; rw [List.foldl_append]; rfl
theorem bep {l : List Int} {t x : Int} : x ∈ acu l t ↔ x ∈ l ∨ x = t := by
 unfold acu
 split
 ·exact ⟨.inl, fun h => h.elim id fun h => by rw [h]; assumption⟩
 ·simp
theorem awk {l : List Int} (h : l.Nodup) (t : Int) : (acu l t).Nodup := by
 unfold acu
 split
 ·exact h
 ·rename_i hn
  rw [List.nodup_append]
  exact ⟨h, by simp, fun a ha b hb => by simp at hb; subst hb; exact fun e => hn (e ▸ ha)⟩
theorem alo {es : List EnS} {t : Int} : t ∈ qf es ↔ ∃ e ∈ es, e.2.il = t := by
 have h : ∀ (es : List EnS) (l : List Int), t ∈ es.foldl (fun l e => acu l e.2.il) l ↔ t ∈ l ∨ ∃ e ∈ es, e.2.il = t := by
  intro es
  induction es with
  | nil => simp
  | cons a r ih =>
   intro l
   rw [List.foldl_cons, ih, bep]
   simp only [List.mem_cons, exists_eq_or_imp, or_assoc]
   rw [show (t = a.2.il) = (a.2.il = t) from propext ⟨Eq.symm, Eq.symm⟩]
 have := h es []
 simpa [qf] using this
theorem afr (es : List EnS) : (qf es).Nodup := by
 have h : ∀ (es : List EnS) (l : List Int), l.Nodup → (es.foldl (fun l e => acu l e.2.il) l).Nodup := by
  intro es
  induction es with
  | nil => exact fun l h => h
  | cons a r ih => exact fun l h => ih _ (awk h _)
 exact h es [] (by simp)
theorem aii (es : List EnS) (b : Bal) (x : Spn) (t : Int) : mo (es ++ [(b, x)]) t = if x.il = t then mo es t ++ [x] else mo es t := by
 unfold mo
 rw [List.filter_append, List.map_append]
 split <;> rename_i h <;> simp [isE, h]
theorem arf (es : List EnS) (b : Bal) (x : Spn) (t : Int) : afv (es ++ [(b, x)]) t = if x.il = t then afv es t ++ [b] else afv es t := by
 unfold afv
 rw [List.filter_append, List.map_append]
 split <;> rename_i h <;> simp [isE, h]
theorem bba (a : Bal) (l : List Bal) (b : Bal) : ta a (l ++ [b]) = if (ta a l).yr b = true then b else ta a l := by unfold ta; rw [List.foldl_append]; rfl
theorem bhv {l : List Bal} (h : ∀ b ∈ l, b.rng) : ∀ {a : Bal}, a.rng → (ta a l).rng := by
 induction l with
 | nil => exact fun h => h
 | cons x r ih =>
  intro a ha
  show (ta (if a.yr x = true then x else a) r).rng
  refine ih (fun b hb => h b (List.mem_cons_of_mem _ hb)) ?_
  split
  ·exact h x (by simp)
  ·exact ha
theorem bna : ic.rng := by unfold Bal.rng ic sy; simp
theorem bhx {a b : Bal} (ha : a.rng) : ta ic [a, b] = if a.yr b = true then b else a := by
 have h : (if ic.yr a = true then a else ic) = a := by
  by_cases hl : ic.yr a = true
  ·rw [if_pos hl]
  ·rw [if_neg hl]
   have h1 := ha
   obtain ⟨n, d⟩ := a
   unfold Bal.rng sy at h1
   unfold Bal.yr ic at hl
   simp at hl h1
   unfold ic
   congr 1 <;> omega
 show (if (if ic.yr a = true then a else ic).yr b = true then b else (if ic.yr a = true then a else ic)) = _
 rw [h]
theorem aph {es : List EnS} (hr : ∀ e ∈ es, e.1.rng) (b : Bal) (x : Spn) : bOf (es ++ [(b, x)]) x.il = ta ic [bOf es x.il, b] := by
 have h1 : (bOf es x.il).rng := bhv (fun y hy => by
  unfold afv at hy
  obtain ⟨e, he, rfl⟩ := List.mem_map.1 hy
  exact hr e (List.mem_filter.1 he).1) bna
 rw [bhx h1]
 unfold bOf
 rw [arf, if_pos rfl, bba]
theorem azt {es : List EnS} (b : Bal) (x : Spn) {t : Int} (h : x.il ≠ t) : bOf (es ++ [(b, x)]) t = bOf es t := by
 unfold bOf
 rw [arf, if_neg h]
theorem avw {es : List EnS} {t : Int} {x : Spn} : x ∈ mo es t ↔ ∃ b, (b, x) ∈ es ∧ x.il = t := by
 unfold mo
 constructor
 ·intro h
  obtain ⟨e, he, rfl⟩ := List.mem_map.1 h
  have := List.mem_filter.1 he
  exact ⟨e.1, this.1, by simpa [isE] using this.2⟩
 ·rintro ⟨b, h, ht⟩
  exact List.mem_map.2 ⟨(b, x), List.mem_filter.2 ⟨h, by simpa [isE] using ht⟩, rfl⟩
theorem aer {es : List EnS} {t : Int} (h : t ∉ qf es) : mo es t = [] := by
 rw [List.eq_nil_iff_forall_not_mem]
 intro x hx
 obtain ⟨b, hb, ht⟩ := avw.1 hx
 exact h (alo.2 ⟨_, hb, ht⟩)
theorem bfd {es : List EnS} {t : Int} (h : t ∉ qf es) : afv es t = [] := by
 unfold afv
 rw [List.map_eq_nil_iff, List.filter_eq_nil_iff]
 intro e he hi
 exact h (alo.2 ⟨e, he, by simpa [isE] using hi⟩)
def oo (l : List Spn) : MP := l.map fun s => (s.id, jx s)
theorem aru {α : Type} (f : α → Int) (g : α → Value) (l : List α) (k : Int) : lb (l.map fun s => (f s, g s)) k = (l.find? fun s => decide (f s = k)).map g := by
 induction l with
 | nil => rfl
 | cons a r ih =>
  show (if f a = k then some (g a) else lb (r.map fun s => (f s, g s)) k) = _
  rw [List.find?_cons]
  by_cases h : f a = k
  ·simp [h]
  ·rw [if_neg h, ih]; simp [h]
theorem aqe {m : MP} {k : Int} {v : Value} (h : lb m k = none) : sd m k v = m ++ [(k, v)] := by
 induction m with
 | nil => rfl
 | cons a r ih =>
  obtain ⟨y, u⟩ := a
  have h' : (if y = k then some u else lb r k) = none := h
  by_cases hy : y = k
  ·rw [if_pos hy] at h'; cases h'
  ·rw [if_neg hy] at h'
   show (if y = k then (k, v) :: r else (y, u) :: sd r k v) = _
   rw [if_neg hy, ih h']
   rfl
theorem aml {es : List EnS} {x : Spn} : wq es x = (mo es x.il).any fun s => decide (s.id = x.id) := by
 unfold wq mo
 rw [List.any_map, List.any_filter]
 rfl
theorem arz (es : List EnS) (x : Spn) : (lb (oo (mo es x.il)) x.id).isSome = wq es x := by
 unfold oo
 rw [aru (fun s : Spn => s.id) jx, aml, Option.isSome_map, Bool.eq_iff_iff, List.find?_isSome, List.any_eq_true]
open Go.Eng Go.Proofs.YtfnhoaemapheoaaGreat.Sint
abbrev WrM := Bal × List Spn
structure okM (m : WrM) : Prop where
 b : m.1.rng
 ne : m.2 ≠ []
 ok : ∀ s ∈ m.2, ku s = 0 ∧ vk s
 tr : ∀ s ∈ m.2, ∀ s' ∈ m.2, s.il = s'.il
 len : m.2.length ≤ 16
def pr (m : WrM) : List Int := lz m.1 m.2
def aom (es : List EnS) (m : WrM) : List EnS := m.2.foldl (ll m.1) es
def jt (ms : List WrM) : List EnS := ms.foldl aom []
theorem amn (ms : List WrM) (m : WrM) : jt (ms ++ [m]) = aom (jt ms) m := by unfold jt; rw [List.foldl_append]; rfl
theorem arb {m : WrM} (h : okM m) : (pr m).length ≤ 1728 := by
 have h1 := aac fun s hs => (h.ok s hs).1
 have h2 := h.len
 unfold pr lz
 rw [List.length_append, List.length_append, la, la]
 omega
structure SI (s f : Int) (L : Lg) (D : Dk) (ms : List WrM) : Prop where
 aaq : qq s f L ms.length D
 ii : jf L.gk = ms.map pr
 ok : ∀ m ∈ ms, okM m
theorem SI.len {s f : Int} {L : Lg} {D : Dk} {ms : List WrM} (h : SI s f L D ms) : (jf L.gk).length = ms.length := by rw [h.ii, List.length_map]
inductive aoq (s f ib B : Int) (arm : Bool) (ip : Int) (ms : List WrM) (m : WrM) : Int → List WrM → Bool → Lg → Dk → Prop
 | ok (L : Lg) (D : Dk) : SI s f L D (ms ++ [m]) → L.ib = ib → f + (jf L.gk).length ≤ B → (arm = false → D.jk = false) → D.ip = ip → aoq s f ib B arm ip ms m 0 (ms ++ [m]) false L D
 | ul (L : Lg) (D : Dk) : SI s f L D ms → L.ib = ib → f + (jf L.gk).length ≤ B → (arm = false → D.jk = false) → D.ip = ip → aoq s f ib B arm ip ms m 9 ms false L D
 | iu (L : Lg) (D : Dk) (Q : List Prt) (X : List WrM) : arm = true → D.iu = true → Vir s f Q ms.length D False → jf Q = X.map pr → (X = ms ∨ X = ms ++ [m]) → f + (jf Q).length ≤ B → D.ip = ip → L.ib = ib → f + (jf L.gk).length ≤ B → aoq s f ib B arm ip ms m 10 ms true L D
theorem aug {s f B : Int} {L : Lg} {D : Dk} {ms : List WrM} {m : WrM} (I : SI s f L D ms) (hm : okM m) (hB : f + (jf L.gk).length + 1 ≤ B) (hB2 : B ≤ 1000000000000) :
  aoq s f L.ib B D.jk D.ip ms m (wrF L D [pr m]).2 (if (wrF L D [pr m]).2 = 0 then ms ++ [m] else ms) (decide ((wrF L D [pr m]).2 = 10)) (wrF L D [pr m]).1.1 (wrF L D [pr m]).1.2 := by
 have hl := arb hm
 have hw := bhp (ii := [pr m]) I.aaq (fun b hb => by rw [List.mem_singleton.1 hb]; omega) (by simp; omega)
 have hok : ∀ x ∈ ms ++ [m], okM x := fun x hx => by
  rcases List.mem_append.1 hx with hx | hx
  ·exact I.ok x hx
  ·rw [List.mem_singleton.1 hx]; exact hm
 generalize wrF L D [pr m] = z at *
 cases hw with
 | ok L' D' g e1 e2 e3 e4 =>
  have e5 : jf L'.gk = (ms ++ [m]).map pr := by rw [e1, I.ii]; simp
  refine .ok L' D' ⟨?_, e5, hok⟩ e2 (by rw [e1, List.length_append, List.length_singleton]; omega) e4 e3
  have : (ms ++ [m]).length = (jf L'.gk).length := by rw [e5, List.length_map]
  rw [this]; exact g
 | ul i L' D' hi g e1 e2 e3 e4 =>
  have hi0 : i = 0 := by simpa using hi
  rw [hi0, List.take_zero, List.append_nil] at e1
  exact .ul L' D' ⟨g, by rw [e1]; exact I.ii, I.ok⟩ e2 (by rw [e1]; omega) e4 e3
 | iu i L' D' Q b1 b2 b3 b4 b5 b6 b7 b8 =>
  have hb : f + (jf Q).length ≤ B := by rw [b6, List.length_append, List.length_take, List.length_singleton]; omega
  have hb8 : f + (jf L'.gk).length ≤ B := by simp at b8; omega
  cases i with
  | zero => exact .iu L' D' Q ms b1 b4 b5 (by rw [b6, I.ii]; simp) (.inl rfl) hb b7 b2 hb8
  | succ i => exact .iu L' D' Q (ms ++ [m]) b1 b4 b5 (by rw [b6, I.ii, List.take_of_length_le (by simp)]; simp) (.inr rfl) hb b7 b2 hb8
theorem akl {tr : Int} : ∀ {l : List Spn} {met : List Int}, rn tr met l = true → (∀ s ∈ l, ku s = 0 ∧ s.il = tr ∧ s.id ∉ met) ∧ (l.map Spn.id).Nodup
 | [], _, _ => ⟨fun s hs => by simp at hs, by simp⟩
 | s :: r, met, h => by
  rw [rn] at h
  simp only [Bool.and_eq_true, decide_eq_true_eq, Bool.not_eq_true', decide_eq_false_iff_not] at h
  obtain ⟨⟨h1, h2, h3⟩, h4⟩ := h
  obtain ⟨k1, k2⟩ := akl h4
  refine ⟨fun x hx => ?_, ?_⟩
  ·rcases List.mem_cons.1 hx with rfl | hx
   ·exact ⟨h1, h2, h3⟩
   ·have := k1 x hx
    exact ⟨this.1, this.2.1, fun hm => this.2.2 (List.mem_append_left _ hm)⟩
  ·rw [List.map_cons, List.nodup_cons]
   refine ⟨fun hm => ?_, k2⟩
   obtain ⟨x, hx, he⟩ := List.mem_map.1 hm
   exact (k1 x hx).2.2 (List.mem_append_right _ (by rw [he]; simp))
structure WrP (p : Pk) (ls : List Spn) : Prop where
 tr : 0 < p.tr
 bn : 0 < p.b.n
 ok : ∀ s ∈ ls, ku s = 0 ∧ s.il = p.tr
 ids : (ls.map Spn.id).Nodup
 ne : ls ≠ []
 len : ls.length ≤ 16
def wrE (p : Pk) (ls : List Spn) (lm : List Mem) (lu : List Int) : Bool := decide (p.gr = 9) && rl p ls lm lu
theorem ahy {p : Pk} {ls : List Spn} {lm : List Mem} {lu : List Int} (h : wrE p ls lm lu = true) : p.gr = 9 ∧ WrP p ls := by
 unfold wrE at h
 simp only [Bool.and_eq_true, decide_eq_true_eq] at h
 obtain ⟨hk, h⟩ := h
 unfold rl lr qk at h
 simp [hk] at h
 obtain ⟨⟨_, htr⟩, hb, hs, h1, h2⟩ := h
 obtain ⟨k1, k2⟩ := akl hs
 exact ⟨hk, htr, hb, fun s hs => ⟨(k1 s hs).1, (k1 s hs).2.1⟩, k2, fun e => by rw [e] at h1; simp at h1, h2⟩
def ko (es : List EnS) (l : List Spn) : List Spn := l.filter fun x => !wq es x
theorem bfu (es : List EnS) (b : Bal) (y x : Spn) : wq (es ++ [(b, y)]) x = (wq es x || (decide (y.il = x.il) && decide (y.id = x.id))) := by
 unfold wq; rw [List.any_append]; simp
theorem aez (b : Bal) : ∀ {l : List Spn} {es : List EnS}, (l.map Spn.id).Nodup → (∀ x ∈ l, wq es x = false) → l.foldl (ll b) es = es ++ l.map fun x => (b, x)
 | [], es, _, _ => by simp
 | x :: r, es, hn, hx => by
  rw [List.map_cons, List.nodup_cons] at hn
  have h0 := hx x (by simp)
  rw [List.foldl_cons]
  have e1 : ll b es x = es ++ [(b, x)] := by unfold ll; rw [h0]; simp
  rw [e1, aez b hn.2 fun y hy => ?_]
  ·simp
  ·rw [bfu, hx y (List.mem_cons_of_mem _ hy)]
   have : x.id ≠ y.id := fun e => hn.1 (List.mem_map.2 ⟨y, hy, e.symm⟩)
   simp [this]
theorem ayu {b : Bal} {l : List Spn} {es : List EnS} (hn : (l.map Spn.id).Nodup) : (ko es l).foldl (ll b) es = es ++ (ko es l).map fun x => (b, x) :=
 aez b (((List.filter_sublist).map _).nodup hn) fun x hx => by simpa using (List.mem_filter.1 hx).2
def vp (es : List EnS) : Prop := es.Pairwise fun a b => ¬ (a.2.il = b.2.il ∧ a.2.id = b.2.id)
theorem bfs {es : List EnS} (h : vp es) (b : Bal) (x : Spn) : vp (ll b es x) := by
 unfold ll
 split
 ·exact h
 ·rename_i hn
  unfold vp
  rw [List.pairwise_append]
  refine ⟨h, by simp, fun a ha c hc => ?_⟩
  rw [List.mem_singleton.1 hc]
  rintro ⟨h1, h2⟩
  refine hn ?_
  unfold wq
  rw [List.any_eq_true]
  exact ⟨a, ha, by simp [h1, h2]⟩
theorem ant (b : Bal) : ∀ {l : List Spn} {es : List EnS}, vp es → vp (l.foldl (ll b) es)
 | [], _, h => h
 | x :: r, _, h => ant b (l := r) (bfs h b x)
theorem afo : ∀ (ms : List WrM), vp (jt ms) := by
 have h : ∀ (ms : List WrM) (es : List EnS), vp es → vp (ms.foldl aom es) := by
  intro ms
  induction ms with
  | nil => exact fun _ h => h
  | cons m r ih => exact fun es h => ih _ (ant m.1 h)
 exact fun ms => h ms [] List.Pairwise.nil
theorem bfz {es : List EnS} (h : vp es) (t : Int) : ∀ x ∈ mo es t, ∀ y ∈ mo es t, x.id = y.id → x = y := by
 have hp : (mo es t).Pairwise fun x y => x.id ≠ y.id := by
  unfold mo
  rw [List.pairwise_map]
  refine (List.Pairwise.filter _ h).imp_of_mem fun {a b} ha hb hab he => hab ⟨?_, he⟩
  have h1 := (List.mem_filter.1 ha).2
  have h2 := (List.mem_filter.1 hb).2
  simp only [isE, decide_eq_true_eq] at h1 h2
  rw [h1, h2]
 intro x hx y hy he
 have hnd : ((mo es t).map Spn.id).Nodup := by
  rw [List.nodup_iff_pairwise_ne, List.pairwise_map]
  exact hp
 exact xm hnd hx hy he
structure xk (es : List EnS) : Prop where
 rng : ∀ e ∈ es, e.1.rng ∧ ku e.2 = 0 ∧ vk e.2
theorem aej {b : Bal} (hb : b.rng) : ∀ {l : List Spn} {es : List EnS}, (∀ s ∈ l, ku s = 0 ∧ vk s) → xk es → xk (l.foldl (ll b) es)
 | [], _, _, h => h
 | x :: r, es, hl, h => aej hb (l := r) (fun s hs => hl s (List.mem_cons_of_mem _ hs)) (by
   unfold ll
   split
   ·exact h
   ·refine ⟨fun e he => ?_⟩
    rcases List.mem_append.1 he with he | he
    ·exact h.rng e he
    ·rw [List.mem_singleton.1 he]
     exact ⟨hb, hl x (by simp)⟩)
theorem auv {ms : List WrM} (h : ∀ m ∈ ms, okM m) : xk (jt ms) := by
 have g : ∀ (ms : List WrM) (es : List EnS), (∀ m ∈ ms, okM m) → xk es → xk (ms.foldl aom es) := by
  intro ms
  induction ms with
  | nil => exact fun _ _ h => h
  | cons m r ih => exact fun es hm h => ih _ (fun x hx => hm x (List.mem_cons_of_mem _ hx)) (aej (hm m (by simp)).b (hm m (by simp)).ok h)
 exact g ms [] h ⟨fun e he => by simp at he⟩
end Go.Proofs.YtfnhoaemapheoaaGreat
