/-
  The document's rune and the model's. No condition.
-/
import Derived.Test.YtfnhoaemapheoaaGreatZMs2
import Derived.Test.YtfnhoaemapheoaaGreatZEngSl
import Derived.Test.YtfnhoaemapheoaaGreatZSgD
set_option maxRecDepth 100000
namespace Go.Proofs.YtfnhoaemapheoaaGreat
open Go.Eng
theorem amb {t : ByteArray} (h0 : 0 < t.size) (h1 : ¬ byt t 0 < 128) {n least r : Nat} (hc : nn (byt t 0) = (n, least, r)) :
  rr t = if n = 0 ∨ t.size < n then (0, 0) else if tu t (n - 1) = false then (0, 0) else if kq t r (n - 1) < least ∨ 1114111 < kq t r (n - 1) ∨ (55296 ≤ kq t r (n - 1) ∧ kq t r (n - 1) ≤ 57343) then (0, 0) else (kq t r (n - 1), n) := by
 unfold rr
 rw [if_neg (by omega), if_neg h1, hc]
theorem bhs (v : Nat) : Utf8.valid (v : Int) = decide (¬ (1114111 < v ∨ (55296 ≤ v ∧ v ≤ 57343))) := by
 unfold Utf8.valid
 rw [Bool.eq_iff_iff]
 simp only [Bool.or_eq_true, Bool.and_eq_true, decide_eq_true_eq]
 omega
def oo (t : ByteArray) (k : Nat) : Bool := decide (k < t.size) && ui t k
def ajz (least n v : Nat) : Nat × Nat := if least ≤ v ∧ ¬ (1114111 < v ∨ (55296 ≤ v ∧ v ≤ 57343)) then (v, n) else (65533, 1)
theorem aaw (t : ByteArray) : Utf8.decode t 0 = if byt t 0 < 128 then (byt t 0, 1) else if byt t 0 / 32 = 6 ∧ oo t 1 = true then (if 128 ≤ byt t 0 % 32 * 64 + byt t 1 % 64 then (byt t 0 % 32 * 64 + byt t 1 % 64, 2) else (65533, 1))
  else if byt t 0 / 16 = 14 ∧ oo t 1 = true ∧ oo t 2 = true then ajz 2048 3 (byt t 0 % 16 * 4096 + byt t 1 % 64 * 64 + byt t 2 % 64)
  else if byt t 0 / 8 = 30 ∧ oo t 1 = true ∧ oo t 2 = true ∧ oo t 3 = true then ajz 65536 4 (byt t 0 % 8 * 262144 + byt t 1 % 64 * 4096 + byt t 2 % 64 * 64 + byt t 3 % 64) else (65533, 1) := by
 have e : ∀ k, (t.get! (0 + k)).toNat = byt t k := fun k => by rw [Nat.zero_add]; rfl
 have c0 : ∀ k, (decide (0 + k < t.size) && byt t k / 64 == 2) = oo t k := fun k => by
  have := aho t k
  have : (byt t k / 64 == 2) = ui t k := by
   unfold ui
   by_cases h : 128 ≤ byt t k <;> by_cases h' : byt t k ≤ 191
   ·have : byt t k / 64 = 2 := by omega
    simp [h, h', this]
   ·have : ¬ byt t k / 64 = 2 := by omega
    simp [h, h', this]
   ·have : ¬ byt t k / 64 = 2 := by omega
    simp [h, h', this]
   ·omega
  rw [this, Nat.zero_add]; rfl
 unfold Utf8.decode ajz
 simp only [e, c0, bhs, Bool.and_eq_true, beq_iff_eq, and_assoc, decide_eq_true_eq, ge_iff_le, Utf8.runeError]
theorem yg {t : ByteArray} {k : Nat} (h : oo t k = true) : k < t.size ∧ ui t k = true ∧ 128 ≤ byt t k ∧ byt t k ≤ 191 := by
 unfold oo ui at h
 simp only [Bool.and_eq_true, decide_eq_true_eq] at h
 exact ⟨h.1, by unfold ui; simp [h.2], h.2.1, h.2.2⟩
def adt (c : Nat × Nat) : Nat × Nat := if c.2 = 0 then (65533, 1) else c
theorem amz {least n v : Nat} (hn : n ≠ 0) : ajz least n v = adt (if v < least ∨ 1114111 < v ∨ (55296 ≤ v ∧ v ≤ 57343) then (0, 0) else (v, n)) := by
 unfold ajz adt
 by_cases g : v < least ∨ 1114111 < v ∨ (55296 ≤ v ∧ v ≤ 57343)
 ·rw [if_pos g, if_neg (by omega)]; rfl
 ·rw [if_neg g, if_pos (by omega)]; simp [hn]
theorem agt {t : ByteArray} : ∀ {n : Nat}, tu t n = true ↔ ∀ k, 1 ≤ k → k ≤ n → ui t k = true
 | 0 => ⟨fun _ k h1 h2 => by omega, fun _ => rfl⟩
 | n + 1 => by
  simp only [tu, Bool.and_eq_true, agt (n := n)]
  constructor
  ·rintro ⟨h1, h2⟩ k hk1 hk2
   by_cases hk : k = n + 1
   ·subst hk; exact h2
   ·exact h1 k hk1 (by omega)
  ·intro h
   exact ⟨fun k h1 h2 => h k h1 (by omega), h (n + 1) (by omega) (by omega)⟩
theorem aee {t : ByteArray} (h0 : 0 < t.size) (h1 : ¬ byt t 0 < 128) {n least r : Nat} (hc : nn (byt t 0) = (n, least, r)) (hn : 2 ≤ n) (h : ∀ k, 1 ≤ k → k ≤ n - 1 → oo t k = true) :
  rr t = if kq t r (n - 1) < least ∨ 1114111 < kq t r (n - 1) ∨ (55296 ≤ kq t r (n - 1) ∧ kq t r (n - 1) ≤ 57343) then (0, 0) else (kq t r (n - 1), n) := by
 rw [amb h0 h1 hc]
 have := (yg (h (n - 1) (by omega) (by omega))).1
 rw [if_neg (by omega), if_neg]
 rw [agt.2 fun k h1 h2 => (yg (h k h1 h2)).2.1]; simp
theorem aiq {t : ByteArray} (h0 : 0 < t.size) (h1 : ¬ byt t 0 < 128) {n least r : Nat} (hc : nn (byt t 0) = (n, least, r)) (hn : 2 ≤ n) (h : ¬ ∀ k, 1 ≤ k → k ≤ n - 1 → oo t k = true) : rr t = (0, 0) := by
 rw [amb h0 h1 hc]
 by_cases hs : t.size < n
 ·rw [if_pos (.inr hs)]
 ·rw [if_neg (by omega), if_pos]
  cases hcs : tu t (n - 1) with
  | false => rfl
  | true =>
   refine absurd (fun k h1 h2 => ?_) h
   unfold oo
   rw [agt.1 hcs k h1 h2]
   simp; omega
theorem bac {p : Nat → Prop} : (∀ k, 1 ≤ k → k ≤ 2 - 1 → p k) ↔ p 1 := ⟨fun h => h 1 (by omega) (by omega), fun h k h1 h2 => by
 obtain rfl : k = 1 := by omega
 exact h⟩
theorem bam {p : Nat → Prop} : (∀ k, 1 ≤ k → k ≤ 3 - 1 → p k) ↔ p 1 ∧ p 2 := ⟨fun h => ⟨h 1 (by omega) (by omega), h 2 (by omega) (by omega)⟩, fun h k h1 h2 => by
 have : k = 1 ∨ k = 2 := by omega
 rcases this with rfl | rfl
 ·exact h.1
 ·exact h.2⟩
theorem bah {p : Nat → Prop} : (∀ k, 1 ≤ k → k ≤ 4 - 1 → p k) ↔ p 1 ∧ p 2 ∧ p 3 := ⟨fun h => ⟨h 1 (by omega) (by omega), h 2 (by omega) (by omega), h 3 (by omega) (by omega)⟩, fun h k h1 h2 => by
 have : k = 1 ∨ k = 2 ∨ k = 3 := by omega
 rcases this with rfl | rfl | rfl
 ·exact h.1
 ·exact h.2.1
 ·exact h.2.2⟩
theorem aiw {x : Nat} (h1 : 128 ≤ x) (h2 : x ≤ 191) : x % 64 = x - 128 := by omega
theorem rf1 (t : ByteArray) (r : Nat) : kq t r 1 = r * 64 + byt t 1 - 128 := rfl
theorem rf2 (t : ByteArray) (r : Nat) : kq t r 2 = (r * 64 + byt t 1 - 128) * 64 + byt t 2 - 128 := rfl
theorem rf3 (t : ByteArray) (r : Nat) : kq t r 3 = ((r * 64 + byt t 1 - 128) * 64 + byt t 2 - 128) * 64 + byt t 3 - 128 := rfl
theorem bpg {t : ByteArray} (h0 : 0 < t.size) (c1 : 194 ≤ byt t 0 ∧ byt t 0 ≤ 223) : Utf8.decode t 0 = adt (rr t) := by
 have h1 : ¬ byt t 0 < 128 := by omega
 have hc : nn (byt t 0) = (2, 128, byt t 0 - 192) := by unfold nn; rw [if_pos c1]
 rw [aaw, if_neg h1]
 by_cases hd : oo t 1 = true
 ·rw [aee h0 h1 hc (by decide) (bac.2 hd), if_pos ⟨by omega, hd⟩, ← amz (by decide)]
  obtain ⟨_, _, g1, g2⟩ := yg hd
  have hv : kq t (byt t 0 - 192) (2 - 1) = byt t 0 % 32 * 64 + byt t 1 % 64 := by
   show kq t (byt t 0 - 192) 1 = _
   rw [rf1, aiw g1 g2]; omega
  rw [hv]
  have hle : byt t 0 % 32 * 64 + byt t 1 % 64 < 55296 := by omega
  unfold ajz
  by_cases hg : 128 ≤ byt t 0 % 32 * 64 + byt t 1 % 64
  ·rw [if_pos hg, if_pos ⟨hg, by omega⟩]
  ·rw [if_neg hg, if_neg fun h => hg h.1]
 ·rw [if_neg fun h => hd h.2, if_neg (by omega), if_neg (by omega), aiq h0 h1 hc (by decide) fun h => hd (bac.1 h)]; rfl
theorem bpd {t : ByteArray} (h0 : 0 < t.size) (c1 : 224 ≤ byt t 0 ∧ byt t 0 ≤ 239) : Utf8.decode t 0 = adt (rr t) := by
 have h1 : ¬ byt t 0 < 128 := by omega
 have hc : nn (byt t 0) = (3, 2048, byt t 0 - 224) := by unfold nn; rw [if_neg (by omega), if_pos c1]
 rw [aaw, if_neg h1, if_neg (by omega)]
 by_cases hd : oo t 1 = true ∧ oo t 2 = true
 ·rw [aee h0 h1 hc (by decide) (bam.2 hd), if_pos ⟨by omega, hd⟩, ← amz (by decide)]
  obtain ⟨_, _, g1, g2⟩ := yg hd.1
  obtain ⟨_, _, g3, g4⟩ := yg hd.2
  have hv : kq t (byt t 0 - 224) (3 - 1) = byt t 0 % 16 * 4096 + byt t 1 % 64 * 64 + byt t 2 % 64 := by
   show kq t (byt t 0 - 224) 2 = _
   rw [rf2, aiw g1 g2, aiw g3 g4]; omega
  rw [hv]
 ·rw [if_neg fun h => hd h.2, if_neg (by omega), aiq h0 h1 hc (by decide) fun h => hd (bam.1 h)]; rfl
theorem bog {t : ByteArray} (h0 : 0 < t.size) (c1 : 240 ≤ byt t 0 ∧ byt t 0 ≤ 244) : Utf8.decode t 0 = adt (rr t) := by
 have h1 : ¬ byt t 0 < 128 := by omega
 have hc : nn (byt t 0) = (4, 65536, byt t 0 - 240) := by unfold nn; rw [if_neg (by omega), if_neg (by omega), if_pos c1]
 rw [aaw, if_neg h1, if_neg (by omega), if_neg (by omega)]
 by_cases hd : oo t 1 = true ∧ oo t 2 = true ∧ oo t 3 = true
 ·rw [aee h0 h1 hc (by decide) (bah.2 hd), if_pos ⟨by omega, hd⟩, ← amz (by decide)]
  obtain ⟨_, _, g1, g2⟩ := yg hd.1
  obtain ⟨_, _, g3, g4⟩ := yg hd.2.1
  obtain ⟨_, _, g5, g6⟩ := yg hd.2.2
  have hv : kq t (byt t 0 - 240) (4 - 1) = byt t 0 % 8 * 262144 + byt t 1 % 64 * 4096 + byt t 2 % 64 * 64 + byt t 3 % 64 := by
   show kq t (byt t 0 - 240) 3 = _
   rw [rf3, aiw g1 g2, aiw g3 g4, aiw g5 g6]; omega
  rw [hv]
 ·rw [if_neg fun h => hd h.2, aiq h0 h1 hc (by decide) fun h => hd (bah.1 h)]; rfl
theorem bco (t : ByteArray) (h0 : 0 < t.size) : Utf8.decode t 0 = adt (rr t) := by
 by_cases h1 : byt t 0 < 128
 ·have hr : rr t = (byt t 0, 1) := by unfold rr; rw [if_neg (by omega), if_pos h1]
  rw [aaw, if_pos h1, hr]; rfl
 by_cases c1 : 194 ≤ byt t 0 ∧ byt t 0 ≤ 223
 ·exact bpg h0 c1
 by_cases c2 : 224 ≤ byt t 0 ∧ byt t 0 ≤ 239
 ·exact bpd h0 c2
 by_cases c3 : 240 ≤ byt t 0 ∧ byt t 0 ≤ 244
 ·exact bog h0 c3
 have hc : nn (byt t 0) = (0, 0, 0) := by unfold nn; rw [if_neg c1, if_neg c2, if_neg c3]
 have hr : rr t = (0, 0) := by rw [amb h0 h1 hc]; simp
 have hb := aho t 0
 rw [hr, aaw, if_neg h1]
 show _ = (65533, 1)
 by_cases d1 : byt t 0 / 32 = 6 ∧ oo t 1 = true
 ·obtain ⟨_, _, g1, g2⟩ := yg d1.2
  rw [if_pos d1, if_neg (by omega)]
 ·rw [if_neg d1, if_neg (by omega)]
  by_cases d3 : byt t 0 / 8 = 30 ∧ oo t 1 = true ∧ oo t 2 = true ∧ oo t 3 = true
  ·rw [if_pos d3]
   unfold ajz
   rw [if_neg (by omega)]
  ·rw [if_neg d3]
set_option maxRecDepth 100000
def kw (s : ByteArray) (i : Nat) : ByteArray := s.extract i s.size
theorem ahq (s : ByteArray) (i : Nat) : (kw s i).size = s.size - i := by simp [kw]
theorem aup (s : ByteArray) (k : Nat) : s.get! k = s.data[k]! := by cases s; rfl
theorem bgn (s : ByteArray) (i k : Nat) : byt (kw s i) k = byt s (i + k) := by
 unfold byt
 rw [aup, aup]
 have h : (kw s i).data = s.data.extract i s.size := by simp [kw]
 rw [h, getElem!_def, getElem!_def, Array.getElem?_extract]
 have hs : s.size = s.data.size := rfl
 by_cases hk : k < min s.size s.data.size - i
 ·rw [if_pos (by omega)]
 ·rw [if_neg (by omega), Array.getElem?_eq_none (by omega)]
theorem bcj (s : ByteArray) (i n : Nat) : kw (kw s i) n = kw s (i + n) := by
 unfold kw
 rw [ByteArray.extract_extract]
 congr 1
 simp; omega
theorem awf (s : ByteArray) (i : Nat) : Utf8.decode s i = Utf8.decode (kw s i) 0 := by
 have e : ∀ k, (s.get! (i + k)).toNat = byt (kw s i) k := fun k => by rw [bgn]; rfl
 have e' : ∀ k, ((kw s i).get! (0 + k)).toNat = byt (kw s i) k := fun k => by rw [Nat.zero_add]; rfl
 have c : ∀ k, decide (i + k < s.size) = decide (0 + k < (kw s i).size) := fun k => by
  rw [ahq, decide_eq_decide]; omega
 unfold Utf8.decode
 simp only [e, e', c]
theorem bjm (t : ByteArray) : wv t xm = true ↔ 3 ≤ t.size ∧ byt t 0 = 239 ∧ byt t 1 = 191 ∧ byt t 2 = 189 := by
 have hs : t.size = t.data.toList.length := Array.length_toList.symm
 have hr : xm.toList = [239, 191, 189] := by decide +kernel
 have hz : xm.size = 3 := rfl
 unfold wv
 rw [hr, hz, Bool.and_eq_true, decide_eq_true_eq, beq_iff_eq]
 have he : (t.extract 0 3).toList = t.data.toList.take 3 := by
  rw [ByteArray.toList_eq]
  simp
 rw [he]
 have b : ∀ k, byt t k = (t.data.toList[k]?.getD default).toNat := fun k => by
  unfold byt
  rw [aup, getElem!_def]
  simp only [Array.getElem?_toList]
  cases t.data[k]? <;> rfl
 rw [b, b, b, hs]
 have u : ∀ (x : UInt8) (n : Nat) (h : n < 256), x.toNat = n ↔ x = UInt8.ofNat n := fun x n h => by
  constructor
  ·intro hx; rw [← hx]; simp
  ·rintro rfl; simp; omega
 match t.data.toList with
 | [] => simp
 | [x] => simp
 | [x, y] => simp
 | x :: y :: z :: r =>
  simp [u x 239 (by decide), u y 191 (by decide), u z 189 (by decide)]
theorem bls (t : ByteArray) (h0 : 0 < t.size) : ((rr t).2 ≠ 0 ∧ (rr t).1 = 65533) ↔ (3 ≤ t.size ∧ byt t 0 = 239 ∧ byt t 1 = 191 ∧ byt t 2 = 189) := by
 have hb := aho t 0
 by_cases h1 : byt t 0 < 128
 ·have hr : rr t = (byt t 0, 1) := by unfold rr; rw [if_neg (by omega), if_pos h1]
  rw [hr]; simp; omega
 by_cases c1 : 194 ≤ byt t 0 ∧ byt t 0 ≤ 223
 ·have hc : nn (byt t 0) = (2, 128, byt t 0 - 192) := by unfold nn; rw [if_pos c1]
  by_cases hd : oo t 1 = true
  ·rw [aee h0 h1 hc (by decide) (bac.2 hd)]
   obtain ⟨_, _, g1, g2⟩ := yg hd
   have hv : kq t (byt t 0 - 192) (2 - 1) = (byt t 0 - 192) * 64 + byt t 1 - 128 := rfl
   rw [hv]
   split <;> simp <;> omega
  ·rw [aiq h0 h1 hc (by decide) fun h => hd (bac.1 h)]; simp; omega
 by_cases c2 : 224 ≤ byt t 0 ∧ byt t 0 ≤ 239
 ·have hc : nn (byt t 0) = (3, 2048, byt t 0 - 224) := by unfold nn; rw [if_neg (by omega), if_pos c2]
  by_cases hd : oo t 1 = true ∧ oo t 2 = true
  ·rw [aee h0 h1 hc (by decide) (bam.2 hd)]
   obtain ⟨_, _, g1, g2⟩ := yg hd.1
   obtain ⟨g5, _, g3, g4⟩ := yg hd.2
   have hv : kq t (byt t 0 - 224) (3 - 1) = ((byt t 0 - 224) * 64 + byt t 1 - 128) * 64 + byt t 2 - 128 := rfl
   rw [hv]
   split <;> simp <;> omega
  ·rw [aiq h0 h1 hc (by decide) fun h => hd (bam.1 h)]
   simp only [ne_eq, not_true_eq_false, false_and, false_iff]
   rintro ⟨k0, k1, k2, k3⟩
   apply hd
   unfold oo ui
   simp [k2, k3]; omega
 by_cases c3 : 240 ≤ byt t 0 ∧ byt t 0 ≤ 244
 ·have hc : nn (byt t 0) = (4, 65536, byt t 0 - 240) := by unfold nn; rw [if_neg (by omega), if_neg (by omega), if_pos c3]
  by_cases hd : oo t 1 = true ∧ oo t 2 = true ∧ oo t 3 = true
  ·rw [aee h0 h1 hc (by decide) (bah.2 hd)]
   generalize kq t (byt t 0 - 240) (4 - 1) = v
   split <;> simp <;> omega
  ·rw [aiq h0 h1 hc (by decide) fun h => hd (bah.1 h)]; simp; omega
 have hc : nn (byt t 0) = (0, 0, 0) := by unfold nn; rw [if_neg c1, if_neg c2, if_neg c3]
 have hr : rr t = (0, 0) := by rw [amb h0 h1 hc]; simp
 rw [hr]; simp; omega
theorem bhd (t : ByteArray) : (rr t).2 ≤ t.size := by
 unfold rr
 by_cases h0 : t.size = 0
 ·rw [if_pos h0]; omega
 rw [if_neg h0]
 split
 ·simp; omega
 split
 ·simp
 split
 ·simp
 split
 ·simp
 ·simp; omega
def rrs (s : ByteArray) (i : Nat) : Option (List Nat) :=
 if h : i < s.size then (if h2 : (rr (kw s i)).2 = 0 then none else (rrs s (i + (rr (kw s i)).2)).map ((rr (kw s i)).1 :: ·)) else some []
termination_by s.size - i
decreasing_by omega
def ctl (c : Nat) : Bool := decide (c < 32) || (decide (127 ≤ c) && decide (c ≤ 159))
theorem bge (s : ByteArray) : ∀ (m i : Nat), s.size - i ≤ m → ue s i = match rrs s i with
  | none => false
  | some l => l.all fun c => !ctl c := by
 intro m
 induction m with
 | zero =>
  intro i hm
  unfold ue rrs
  rw [dif_neg (by omega), dif_neg (by omega)]; rfl
 | succ m ih =>
  intro i hm
  unfold ue rrs
  by_cases hi : i < s.size
  ·rw [dif_pos hi, dif_pos hi]
   have ht : 0 < (kw s i).size := by rw [ahq]; omega
   have hd : Utf8.decode s i = adt (rr (kw s i)) := by rw [awf, bco _ ht]
   have he := bls (kw s i) ht
   rw [← bjm] at he
   unfold aca
   have hrest : s.extract i s.size = kw s i := rfl
   rw [hrest, hd]
   by_cases h2 : (rr (kw s i)).2 = 0
   ·rw [dif_pos h2]
    have hp : wv (kw s i) xm = false := by
     cases hq : wv (kw s i) xm with
     | false => rfl
     | true => exact absurd h2 (he.2 hq).1
    simp [adt, h2, hp]
   ·rw [dif_neg h2]
    have hf : adt (rr (kw s i)) = rr (kw s i) := by simp [adt, h2]
    rw [hf, ih (i + (rr (kw s i)).2) (by omega)]
    have hb : (decide ((rr (kw s i)).1 < 32) || (decide (127 ≤ (rr (kw s i)).1) && decide ((rr (kw s i)).1 ≤ 159) || decide ((rr (kw s i)).1 = 65533) && !wv (kw s i) xm)) = ctl (rr (kw s i)).1 := by
     unfold ctl
     by_cases hc : (rr (kw s i)).1 = 65533
     ·rw [he.1 ⟨h2, hc⟩, hc]; decide
     ·simp [hc]
    rw [hb]
    cases rrs s (i + (rr (kw s i)).2) with
    | none => simp
    | some l => simp
  ·rw [dif_neg hi, dif_neg hi]; rfl
def bgy (c : Nat) : List Value := [.int .i32 (c : Nat)]
abbrev OwR (w : World) (base : Nat) (v : Value) (l : List Nat) : Prop := Ow w base T.au 1 bgy v l
def alp (v : Value) : Nat := match v with
 | .string s => s.size
 | _ => 0
def boy (w : World) (s : ByteArray) : KL := fun x w1 => ∃ (i : Nat) (l : List Nat), x.length = 6 ∧ gv x 5 = .string (kw s i) ∧ OwR w1 w.heap.size (gv x 4) l ∧ Fz w w1 ∧ i ≤ s.size ∧ l.length ≤ i ∧ rrs s 0 = (rrs s i).map (l ++ ·)
theorem bft {w : World} {s : ByteArray} (hs : s.size < 100000) {K : KV} (h0 : rrs s 0 = none → ∀ w', Fz w w' → K (.tuple #[.slice none 0 0, .bool false]) w')
  (h1 : ∀ l, rrs s 0 = some l → l.length ≤ s.size → ∀ w' v, OwR w' w.heap.size v l → Fz w w' → K (.tuple #[v, .bool true]) w') : kg P F.dr [.string s] w K := by
 apply M.an.calls
 unfold M.an
 rw [gp]
 refine ⟨boy w s, fun x _ => alp (gv x 5), ⟨0, [], rfl, ?_, Ow.none, Fr.refl _ _, Nat.zero_le _, Nat.le_refl _, by simp⟩, ?_⟩
 ·show Value.string s = _
  unfold kw; simp
 rintro x w1 ⟨i, l, hx, e5, o1, f1, hi, hl, hR⟩
 unfold M.an.j1
 simp only [gp, e5, bmn]
 have hsz := ahq s i
 by_cases hlt : i < s.size
 ·have hlt' : (0 : Int) < ((kw s i).size : Int) := by omega
  simp only [rk, hlt', decide_true, Eng.cond_true]
  unfold M.an.j2
  rw [e5, M.g.fcall]
  refine bks _ ?_
  simp only [aex, afa, gp, ud]
  rw [show rrs s i = _ from rrs.eq_1 s i, dif_pos hlt] at hR
  by_cases h2 : (rr (kw s i)).2 = 0
  ·have h2' : (((rr (kw s i)).2 : Nat) : Int) = 0 := by omega
   simp only [h2', decide_true, Eng.cond_true]
   rw [dif_pos h2] at hR
   exact h0 hR w1 f1
  ·have h2' : ¬ (((rr (kw s i)).2 : Nat) : Int) = 0 := by omega
   simp only [h2', decide_false, Eng.cond_false]
   rw [dif_neg h2] at hR
   have hwd := bhd (kw s i)
   unfold M.an.j3
   simp [e5]
   have fa : Fz w1 (w1.alloc (.cells #[.int .i32 ((rr (kw s i)).1 : Nat)] T.au)) := (Fr.refl _ w1).alloc _
   have hge := f1.size
   refine ww et.ax (fun _ => rfl) (fun x u hu => by simp [bgy] at hu; subst hu; rfl) (o1.fr fa fun _ _ h => h) (Sl.one (x := (rr (kw s i)).1) rfl rfl) (by simp; omega) (by decide) (by simp; omega) _ fun v' w2 o2 f2 g2 => ?_
   rw [aux (i := (rr (kw s i)).2) amw (.inr ⟨_, rfl⟩) (.inl ⟨rfl, rfl⟩) hwd (Nat.le_refl _)]
   refine ⟨⟨i + (rr (kw s i)).2, l ++ [(rr (kw s i)).1], rfl, ?_, o2, ?_, by omega, by simp; omega, ?_⟩, ?_⟩
   ·show Value.string _ = _
    rw [← bcj]; rfl
   ·refine f1.mu ((fa.mono fun _ _ h => h.elim).trans f2) fun b hb he => ?_
    have := (o1.lt he).1; omega
   ·rw [hR]
    cases rrs s (i + (rr (kw s i)).2) <;> simp
   ·show alp (.string ((kw s i).extract (rr (kw s i)).2 (kw s i).size)) < alp (.string (kw s i))
    simp only [alp, ByteArray.size_extract]
    omega
 ·have hlt' : ¬ (0 : Int) < ((kw s i).size : Int) := by omega
  simp only [rk, hlt', decide_false, Eng.cond_false]
  rw [show rrs s i = _ from rrs.eq_1 s i, dif_neg hlt] at hR
  exact h1 l (by simpa using hR) (by omega) w1 _ o1 f1
def NmI (w : World) (l : List Nat) : KL := fun x w1 => ∃ (u : Value) (i : Nat), x = [u, .int .i64 (i : Nat)] ∧ w1 = w ∧ i ≤ l.length ∧ ∀ j c, l[j]? = some c → j < i → ctl c = false
theorem aln {w : World} (s : ByteArray) {K : KV} (h : ∀ w', Fz w w' → K (.int .i64 (pr s)) w') : kg P F.cw [.string s] w K := by
 apply M.az.calls
 unfold M.az
 unfold pr at h
 simp only [gp, bmn, lh]
 by_cases h0 : s.size = 0
 ·have : (s.size : Int) < 1 := by omega
  simp [h0] at h ⊢
  exact h w (Fr.refl _ _)
 have h0' : ¬ (s.size : Int) < 1 := by omega
 by_cases h1 : 32 < s.size
 ·have h1' : (32 : Int) < s.size := by omega
  simp [h0, h0', h1, h1'] at h ⊢
  exact h w (Fr.refl _ _)
 have h1' : ¬ (32 : Int) < s.size := by omega
 simp [h0, h0', h1, h1'] at h ⊢
 unfold M.az.j0
 rw [M.an.fcall]
 rw [bge s _ 0 (Nat.le_refl _)] at h
 refine bft (by omega) (fun hr w1 f1 => ?_) fun l hr hll w1 v o1 f1 => ?_
 ·rw [hr] at h
  simp only [aex, afa, gp]
  refine ⟨fun x w2 => gv x 1 = .int .i64 0 ∧ w2 = w1, fun _ _ => 0, ⟨rfl, rfl⟩, ?_⟩
  rintro x w2 ⟨e1, rfl⟩
  simp [e1]
  have := h w2 f1
  simpa using this
 ·rw [hr] at h
  simp only [aex, afa, gp]
  have hsl : Sl w1 1 bgy v l := o1.sl fun _ => rfl
  refine ⟨NmI w1 l, fun x _ => l.length - ms x 1, ⟨_, 0, rfl, rfl, Nat.zero_le _, fun j c _ h => by omega⟩, ?_⟩
  rintro x w2 ⟨u, i, rfl, rfl, hi, hall⟩
  have q0 : ∀ a b : Value, gv [a, b] 0 = a := fun _ _ => rfl
  have q1 : ∀ a b : Value, gv [a, b] 1 = b := fun _ _ => rfl
  simp only [q0, q1]
  rw [hsl.iy (by simp)]
  by_cases hil : i < l.length
  ·have hil' : (i : Int) < l.length := by omega
   simp only [lh, hil', decide_true, Eng.cond_true]
   unfold M.az.j3
   obtain ⟨b, o, cap, rfl, hb, _, hc⟩ := hsl.at hil
   have c0 := hc 0 _ rfl
   simp only [Nat.mul_one, Nat.add_zero] at c0
   generalize hli : l[i] = c at *
   have hgi : l[i]? = some c := by rw [List.getElem?_eq_getElem hil, hli]
   have hw : IntKind.i64.wrap ((i : Int) + 1) = ((i + 1 : Nat) : Int) := by rw [ia]; rfl
   have bad : ctl c = true → K (.int .i64 5) w2 := fun hct => by
    have : (l.all fun c => !ctl c) = false := by
     rw [List.all_eq_false]
     exact ⟨c, List.mem_of_getElem? hgi, by simp [hct]⟩
    have hh := h w2 f1
    simpa [this] using hh
   have abj : ctl c = false → ∀ u, NmI w2 l [u, .int .i64 ((i : Int) + 1)] w2 ∧ l.length - ms [u, .int .i64 ((i : Int) + 1)] 1 < l.length - ms [u, .int .i64 (i : Int)] 1 := fun hct u => by
    refine ⟨⟨u, i + 1, rfl, rfl, by omega, fun j c' hj hlt => ?_⟩, by simp [ms, gv]; omega⟩
    by_cases hji : j = i
    ·subst hji; rw [hgi] at hj; cases hj; exact hct
    ·exact hall j c' hj (by omega)
   by_cases d1 : c < 32
   ·have d1' : (c : Int) < 32 := by omega
    simp [q0, q1, hil, c0, d1']
    exact bad (by simp [ctl, d1])
   have d1' : ¬ (c : Int) < 32 := by omega
   by_cases d2 : 127 ≤ c
   ·have d2' : (127 : Int) ≤ c := by omega
    by_cases d3 : c ≤ 159
    ·have d3' : (c : Int) ≤ 159 := by omega
     simp [q0, q1, hil, c0, d1', d2', d3']
     exact bad (by simp [ctl, d2, d3])
    ·have d3' : ¬ (c : Int) ≤ 159 := by omega
     simp [q0, q1, hil, c0, d1', d2', d3', hw]
     exact abj (by simp [ctl, d1, d3]) _
   ·have d2' : ¬ (127 : Int) ≤ c := by omega
    simp [q0, q1, hil, c0, d1', d2', hw]
    exact abj (by simp [ctl, d1, d2]) _
  ·have hil' : ¬ (i : Int) < l.length := by omega
   simp only [lh, hil', decide_false, Eng.cond_false]
   have : (l.all fun c => !ctl c) = true := by
    rw [List.all_eq_true]
    intro c hc
    obtain ⟨j, hj, rfl⟩ := List.mem_iff_getElem.1 hc
    rw [hall j _ (List.getElem?_eq_getElem hj) (by omega)]; rfl
   simp
   have hh := h w2 f1
   simpa [this] using hh
theorem bos (a b : Int) : orK [a, b] = if a = 0 then b else a := by
 unfold orK
 by_cases ha : a = 0 <;> by_cases hb : b = 0 <;> simp [List.find?, ha, hb]
theorem aqr (s : ByteArray) : pr s = 0 ∨ pr s = 5 := by
 unfold pr
 split
 ·exact .inr rfl
 split
 ·exact .inl rfl
 ·exact .inr rfl
theorem awe {w : World} (s : Spn) {K : KV} (h : ∀ w', Fz w w' → K (.int .i64 (ll s)) w') : kg P F.dq [km s] w K := by
 apply M.bt.calls
 unfold M.bt
 rw [bko]
 have hb := bfg w s
 have hf : Fz w (w.alloc (.cells #[.int .u64 s.iw, .int .u64 s.id, .int .u64 s.px, .int .u64 s.jp, .int .u64 s.len, .string s.kc, .string s.name, .bool s.tw] T.e)) := (Fr.refl _ w).alloc _
 generalize w.alloc (.cells #[.int .u64 s.iw, .int .u64 s.id, .int .u64 s.px, .int .u64 s.jp, .int .u64 s.len, .string s.kc, .string s.name, .bool s.tw] T.e) = wa at *
 have c0 := xn hb 0 _ rfl
 have c1 := xn hb 1 _ rfl
 have c3 := xn hb 3 _ rfl
 have c4 := xn hb 4 _ rfl
 have c5 := xn hb 5 _ rfl
 unfold ll at h
 simp only [gp]
 by_cases h0 : s.iw = 0
 ·simp [c0, h0] at h ⊢
  exact h wa hf
 by_cases h1 : s.id = 0
 ·simp [c0, c1, h0, h1] at h ⊢
  exact h wa hf
 by_cases h2 : 1099511627776 < s.jp
 ·have h3 : 1099511627776 < max s.jp s.len := by omega
  simp [c0, c1, c3, h0, h1, h2, h3] at h ⊢
  exact h wa hf
 by_cases h2' : 1099511627776 < s.len
 ·have h3 : 1099511627776 < max s.jp s.len := by omega
  simp [c0, c1, c3, c4, h0, h1, h2, h2', h3] at h ⊢
  exact h wa hf
 have h3 : ¬ 1099511627776 < max s.jp s.len := by omega
 rw [if_neg (by simp [h0, h1, h3]), bos] at h
 simp [c0, c1, c3, c4, h0, h1, h2, h2']
 unfold M.bt.j0
 simp [c5]
 rw [M.az.fcall]
 refine aln _ fun w2 f2 => ?_
 have hb2 : asx w2 w.heap.size s := f2.heap hb fun h => h
 have d6 := xn hb2 6 _ rfl
 by_cases n1 : pr s.kc = 0
 ·simp [n1, d6] at h ⊢
  rw [M.az.fcall]
  refine aln _ fun w3 f3 => ?_
  have hh := h w3 ((hf.trans f2).trans f3)
  rcases aqr s.name with n2 | n2
  ·simp [n2] at hh ⊢; exact hh
  ·simp [n2] at hh ⊢; exact hh
 ·have n5 : pr s.kc = 5 := (aqr _).resolve_left n1
  have hh := h w2 (hf.trans f2)
  simp [n5] at hh ⊢
  exact hh
def SoI (W : World) (tr : Int) (l : List Spn) : KL := fun x w1 => ∃ (u0 u1 : Value) (i : Nat), x = [u0, u1, .int .i64 (i : Nat)] ∧ i ≤ l.length ∧ sm tr [] l = sm tr ((l.take i).map Spn.id) (l.drop i) ∧ Fz W w1
def SiI (W : World) (l : List Spn) (i : Nat) (hi : i < l.length) : KL := fun x w1 => ∃ (u : Value) (j : Nat), x = [u, .int .i64 (j : Nat)] ∧ j ≤ i ∧ (∀ k (hk : k < l.length), k < j → l[k].id ≠ l[i].id) ∧ Fz W w1
theorem agq {w : World} {v : Value} {l : List Spn} {tr : Int} (hs : SlS w v l) (hlen : l.length ≤ 1000000) {K : KV} (h : ∀ w', Fz w w' → K (.bool (qz tr l)) w') : gi P F.cq [.int .u64 tr, v] w K := by
 rw [M.z.fcall]
 apply M.z.calls
 unfold M.z
 simp only [gp]
 have hln : ∀ w' K, biT P .len #[T.d] T.b [false] [v] w' K = K (.int .i64 l.length) w' := fun w' K => hs.iy (by kernel_rfl) [false]
 refine ⟨SoI w tr l, fun x _ => l.length - ms x 2, ⟨_, _, 0, rfl, Nat.zero_le _, by simp, Fr.refl _ _⟩, ?_⟩
 rintro x w1 ⟨u0, u1, i, rfl, hi, hr, f1⟩
 unfold M.z.j1
 by_cases hil : i < l.length
 ·have hili : (i : Int) < (l.length : Int) := by omega
  have hwi : IntKind.i64.wrap ((i : Int) + 1) = ((i + 1 : Nat) : Int) := by rw [ia]; rfl
  simp [hln, hil]
  unfold M.z.j2
  obtain ⟨b, o, cap, hv, hb, _, hc⟩ := (hs.fr f1 fun _ _ _ h => h : SlS w1 v l).at hil
  have hia : ∀ w' K, iaT P T.d v (.int .i64 (i : Nat)) w' K = K (.pointer (some ⟨b, o + i * 8, none⟩)) w' := fun w' K => by rw [hv]; simp [hil]
  have hld : ∀ K, ldN P 8 b (o + i * 8) w1 K = K (km l[i]) w1 := fun K => ldS hc K
  have hdrop : l.drop i = l[i] :: l.drop (i + 1) := List.drop_eq_getElem_cons hil
  rw [hdrop] at hr
  simp [hia, hld]
  rw [M.bt.fcall]
  refine awe l[i] fun w2 f2 => ?_
  have no : ∀ w', Fz w w' → ¬ (ll l[i] = 0 ∧ l[i].iw = tr ∧ l[i].id ∉ (l.take i).map Spn.id) → K (.bool false) w' := fun w' f hn => by
   have := h w' f
   unfold qz at this
   rw [hr, aid hn] at this
   simpa using this
  have c0 : gr w2 b (o + i * 8) = some (.int .u64 l[i].iw) := by
   have := hc 0 _ rfl
   rw [Nat.add_zero] at this
   rw [wd (f2.jy b hb fun h => h)]; exact this
  by_cases h1 : ll l[i] = 0
  case neg =>
   simp [h1]
   exact no w2 (f1.trans f2) fun hh => h1 hh.1
  by_cases h2 : l[i].iw = tr
  case neg =>
   simp [h1, hia, c0, h2]
   exact no w2 (f1.trans f2) fun hh => h2 hh.2.1
  simp [h1, hia, c0, h2]
  refine ⟨SiI w l i hil, fun x _ => i - ms x 1, ⟨_, 0, rfl, Nat.zero_le _, fun k _ hk => by omega, f1.trans f2⟩, ?_⟩
  rintro x w3 ⟨u, j, rfl, hj, hpre, f3⟩
  have hs3 : SlS w3 v l := hs.fr f3 fun _ _ _ h => h
  by_cases hji : j < i
  ·have hjl : j < l.length := by omega
   have hjii : (j : Int) < (i : Int) := by omega
   have hwj : IntKind.i64.wrap ((j : Int) + 1) = ((j + 1 : Nat) : Int) := by rw [ia]; rfl
   obtain ⟨b1, o1, c1, e1, _, _, k1⟩ := hs3.at hil
   obtain ⟨b2, o2, c2, e2, _, _, k2⟩ := hs3.at hjl
   have i1 : ∀ w' K, iaT P T.d v (.int .i64 (i : Nat)) w' K = K (.pointer (some ⟨b1, o1 + i * 8, none⟩)) w' := fun w' K => by rw [e1]; simp [hil]
   have i2 : ∀ w' K, iaT P T.d v (.int .i64 (j : Nat)) w' K = K (.pointer (some ⟨b2, o2 + j * 8, none⟩)) w' := fun w' K => by rw [e2]; simp [hjl]
   have q1 := k1 1 _ rfl
   have q2 := k2 1 _ rfl
   simp [hjii]
   unfold M.z.j6
   by_cases he : l[j].id = l[i].id
   ·simp [i1, i2, q1, q2, he]
    refine no _ (f3.dr 1) fun hh => hh.2.2 ?_
    rw [List.mem_map]
    exact ⟨l[j], List.mem_take_iff_getElem.2 ⟨j, by omega, rfl⟩, he⟩
   ·simp [i1, i2, q1, q2, he, hwj]
    refine ⟨⟨_, j + 1, rfl, by omega, fun k hk hkj => ?_, f3.dr 1⟩, by simp [ms, gv]; omega⟩
    by_cases hkj2 : k = j
    ·subst hkj2; exact he
    ·exact hpre k hk (by omega)
  ·have hjii : ¬ (j : Int) < (i : Int) := by omega
   simp [hjii, hwi]
   refine ⟨⟨_, _, i + 1, rfl, by omega, ?_, f3⟩, by simp [ms, gv]; omega⟩
   have hni : l[i].id ∉ (l.take i).map Spn.id := fun hm => by
    obtain ⟨s, hs', hse⟩ := List.mem_map.1 hm
    obtain ⟨k, hk, rfl⟩ := List.mem_take_iff_getElem.1 hs'
    exact hpre k (by omega) (by omega) hse
   rw [hr, aao h1 h2 hni, List.take_add_one, List.map_append, List.getElem?_eq_getElem hil]
   rfl
 ·have hili : ¬ (i : Int) < (l.length : Int) := by omega
  have hr1 : sm tr [] l = true := by rw [hr, List.drop_of_length_le (by omega)]; rfl
  simp [hln, hil]
  unfold M.z.j0
  have fin := h w1 f1
  unfold qz at fin
  rw [hr1] at fin
  by_cases h0 : 0 < l.length
  ·have h0' : (1 : Int) ≤ l.length := by omega
   by_cases h16 : l.length ≤ 16
   ·have h16' : (l.length : Int) ≤ 16 := by omega
    simp [hln, h0', h16']
    simpa [h0, h16] using fin
   ·have h16' : ¬ (l.length : Int) ≤ 16 := by omega
    simp [hln, h0', h16']
    simpa [h0, h16] using fin
  ·have h0' : ¬ (1 : Int) ≤ l.length := by omega
   simp [hln, h0']
   simpa [h0] using fin
def ala (l : List Int) (i : Nat) : Int := match i with
 | 0 => 0
 | i + 1 => l.getD i 0
def RrI (W : World) (l : List Int) : KL := fun x w1 => ∃ (u : Value) (i : Nat), x = [u, .int .i64 (i : Nat)] ∧ i ≤ l.length ∧ ro 0 l = ro (ala l i) (l.drop i) ∧ Fz W w1
theorem azx {w : World} {v : Value} {l : List Int} (hs : SlU w v l) (hlen : l.length ≤ 1000000) (hid : ∀ m ∈ l, 0 ≤ m) {K : KV} (h : ∀ w', Fz w w' → K (.bool (ro 0 l && (decide (0 < l.length) && decide (l.length ≤ 16)))) w') : gi P F.dx [v] w K := by
 rw [M.bh.fcall]
 apply M.bh.calls
 unfold M.bh
 simp only [gp]
 have hln : ∀ w' K, biT P .len #[T.i] T.b [false] [v] w' K = K (.int .i64 l.length) w' := fun w' K => hs.iy (by kernel_rfl) [false]
 refine ⟨RrI w l, fun x _ => l.length - ms x 1, ⟨_, 0, rfl, Nat.zero_le _, rfl, Fr.refl _ _⟩, ?_⟩
 rintro x w1 ⟨u, i, rfl, hi, hr, f1⟩
 by_cases hil : i < l.length
 ·have hili : (i : Int) < (l.length : Int) := by omega
  have hwi : IntKind.i64.wrap ((i : Int) + 1) = ((i + 1 : Nat) : Int) := by rw [ia]; rfl
  simp [hln, hil]
  unfold M.bh.j2
  have hs1 : SlU w1 v l := hs.fr f1 fun _ _ _ h => h
  obtain ⟨b, o, cap, hv, hb, hc⟩ := aev hs1 hil
  have hia : ∀ w' K, iaT P T.i v (.int .i64 (i : Nat)) w' K = K (.pointer (some ⟨b, o + i, none⟩)) w' := fun w' K => by rw [hv]; simp [hil]
  have hdrop : l.drop i = l[i] :: l.drop (i + 1) := List.drop_eq_getElem_cons hil
  rw [hdrop, ro] at hr
  have hm0 := hid _ (List.getElem_mem hil)
  have no : ¬ ala l i < l[i] → K (.bool false) (dr w1 1) := fun hn => by
   have := h _ (f1.dr 1)
   rw [hr, decide_eq_false hn] at this
   simpa using this
  have yes : ala l i < l[i] → RrI w l [u, .int .i64 (IntKind.i64.wrap ((i : Int) + 1))] (dr w1 1) ∧ l.length - ms [u, .int .i64 (IntKind.i64.wrap ((i : Int) + 1))] 1 < l.length - ms [u, .int .i64 (i : Nat)] 1 := fun hy => by
   rw [hwi]
   refine ⟨⟨_, i + 1, rfl, by omega, ?_, f1.dr 1⟩, by simp [ms, gv]; omega⟩
   rw [hr, decide_eq_true hy, Bool.true_and]
   show _ = ro (l.getD i 0) _
   rw [List.getD_eq_getElem?_getD, List.getElem?_eq_getElem hil]
   rfl
  by_cases hz : l[i] = 0
  ·simp [hia, hc, hz]
   refine no ?_
   rw [hz]
   cases i with
   | zero => simp [ala]
   | succ j =>
    show ¬ l.getD j 0 < 0
    rw [List.getD_eq_getElem?_getD, List.getElem?_eq_getElem (by omega)]
    have := hid _ (List.getElem_mem (show j < l.length by omega))
    simp; exact this
  cases i with
  | zero =>
   have yy := yes (by show 0 < _; omega)
   have hia' : ∀ w' K, iaT P T.i v (.int .i64 0) w' K = K (.pointer (some ⟨b, o + 0, none⟩)) w' := fun w' K => hia w' K
   have hc0 : gr w1 b o = some (.int .u64 l[0]) := hc
   simp [hia', hc0, hz]
   simpa using yy
  | succ j =>
   have hjl : j < l.length := by omega
   obtain ⟨b2, o2, cap2, hv2, hb2, hc2⟩ := aev hs1 hjl
   have hia2 : ∀ w' K, iaT P T.i v (.int .i64 (j : Nat)) w' K = K (.pointer (some ⟨b2, o2 + j, none⟩)) w' := fun w' K => by rw [hv2]; simp [hjl]
   have hwj : IntKind.i64.wrap (((j + 1 : Nat) : Int) - 1) = (j : Int) := by rw [ia]; omega
   have hwj' : IntKind.i64.wrap (j : Int) = (j : Int) := by rw [ia]
   have hpos : (0 : Int) < (j : Int) + 1 := by omega
   have hpos' : (0 : Int) < ((j + 1 : Nat) : Int) := by omega
   have hla : ala l (j + 1) = l[j] := by
    show l.getD j 0 = _
    rw [List.getD_eq_getElem?_getD, List.getElem?_eq_getElem hjl]; rfl
   have hia' : ∀ w' K, iaT P T.i v (.int .i64 ((j : Int) + 1)) w' K = K (.pointer (some ⟨b, o + (j + 1), none⟩)) w' := fun w' K => hia w' K
   by_cases hge : l[j + 1] ≤ l[j]
   ·simp [hia', hc, hz, hpos, hwj', hia2, hc2, hge]
    exact no (by rw [hla]; omega)
   ·have yy := yes (by rw [hla]; omega)
    simp [hia', hc, hz, hpos, hwj', hia2, hc2, hge]
    simpa using yy
 ·have hili : ¬ (i : Int) < (l.length : Int) := by omega
  have hr1 : ro 0 l = true := by rw [hr, List.drop_of_length_le (by omega)]; rfl
  simp [hln, hil]
  unfold M.bh.j0
  have fin := h w1 f1
  rw [hr1] at fin
  by_cases h0 : 0 < l.length
  ·have h0' : (1 : Int) ≤ l.length := by omega
   by_cases h16 : l.length ≤ 16
   ·have h16' : (l.length : Int) ≤ 16 := by omega
    simp [hln, h0', h16']
    simpa [h0, h16] using fin
   ·have h16' : ¬ (l.length : Int) ≤ 16 := by omega
    simp [hln, h0', h16']
    simpa [h0, h16] using fin
  ·have h0' : ¬ (1 : Int) ≤ l.length := by omega
   simp [hln, h0']
   simpa [h0] using fin
def alq (ok : Bool) (jk : Bal) (v : Int) : Bool := (decide (v = 0) || (qv v && !(decide (jk = ip)))) && (if ok = true then !(decide (v = 0)) || decide (jk = ip) else decide (v = 0) && !(decide (jk = ip)))
def mo (p : Pk) (ls : List Spn) (lm : List Mem) (lu : List Int) : Bool :=
 if p.ie = 1 ∨ p.ie = 2 then qz p.tr ls else if p.ie = 3 then zg lm else if p.ie = 4 then decide (0 < p.b.n) else if p.ie = 5 then decide (0 < p.b.n) && alq p.ok p.jk p.v else if p.ie = 6 then decide (0 < p.b.n) && qv p.v else if p.ie = 7 then decide (0 < p.b.n) && (p.ok == decide (p.jk = ip)) else if p.ie = 8 then qv p.v else if p.ie = 9 then decide (0 < p.b.n) && qz p.tr ls else if p.ie = 10 then ro 0 lu && (decide (0 < lu.length) && decide (lu.length ≤ 16)) else false
def adp (p : Pk) (ls : List Spn) (lm : List Mem) (lu : List Int) : Bool := rm p (lg p) ls (pm p ls) lm (pk p lm) lu (pj p lu)
def sn (p : Pk) (ls : List Spn) (lm : List Mem) (lu : List Int) : Bool := (adp p ls lm lu && (decide (p.ie = 3) || decide (0 < p.tr))) && mo p ls lm lu
def aap (p : Pk) (ls : List Spn) (lm : List Mem) (lu : List Int) : Int := if sn p ls lm lu = true then 0 else 6
def qw (p : Pk) : Pk := if p.ie = 4 ∨ p.ie = 6 then ⟨if p.v = 0 then 4 else 6, p.tr, p.b, ip, p.v, false, ij, ij, ij⟩ else if p.ie = 5 ∨ p.ie = 7 then ⟨p.ie, p.tr, p.b, p.jk, p.v, p.ok, ij, ij, ij⟩ else lg p
theorem bho {p : Pk} {ls : List Spn} {lm : List Mem} {lu : List Int} (hr : vu p) (hk : 1 ≤ p.ie ∧ p.ie ≤ 10) : (th p ls lm lu && rm p (qw p) ls (pm p ls) lm (pk p lm) lu (pj p lu)) = sn p ls lm lu := by
 have h1 := hr.tr.1
 have h2 := hr.b.1.1
 have core : (th p ls lm lu && me p (qw p)) = ((me p (lg p) && (decide (p.ie = 3) || decide (0 < p.tr))) && mo p ls lm lu) := by
  obtain ⟨k, tr, b, jk, v, ok, sv, mv, iv⟩ := p
  simp only at hk h1 h2
  have hcase : k = 1 ∨ k = 2 ∨ k = 3 ∨ k = 4 ∨ k = 5 ∨ k = 6 ∨ k = 7 ∨ k = 8 ∨ k = 9 ∨ k = 10 := by omega
  rcases hcase with rfl | rfl | rfl | rfl | rfl | rfl | rfl | rfl | rfl | rfl
  ·simp [th, mo, qw, lg, me, ahy]
   cases qz tr ls <;> by_cases ht : 0 < tr <;> by_cases hb : b = ip <;> by_cases hs : jk = ip <;> by_cases hv : v = 0 <;> cases ok <;> simp [ht, hb, hs, hv]
  ·simp [th, mo, qw, lg, me, ahy]
   cases qz tr ls <;> by_cases ht : 0 < tr <;> by_cases hb : b = ip <;> by_cases hs : jk = ip <;> by_cases hv : v = 0 <;> cases ok <;> simp [ht, hb, hs, hv]
  ·simp [th, mo, qw, lg, me]
   cases zg lm <;> by_cases ht : tr = 0 <;> by_cases hb : b = ip <;> by_cases hs : jk = ip <;> by_cases hv : v = 0 <;> cases ok <;> simp [ht, hb, hs, hv]
  ·simp [th, mo, qw, lg, me, arn]
   by_cases ht : 0 < tr <;> by_cases hb : 0 < b.n <;> by_cases hs : jk = ip <;> by_cases hv : v = 0 <;> cases ok <;> simp [ht, hb, hs, hv]
  ·simp [th, mo, qw, lg, me, ahu, alq]
   by_cases ht : tr = 0 <;> by_cases hb : b.n = 0 <;> by_cases hs : jk = ip <;> by_cases hv : v = 0 <;> cases ok <;> cases htl : qv v <;> simp [ht, hb, hs, hv, htl] <;> first | omega | (subst hv; simp [qv] at htl) | skip
  ·simp [th, mo, qw, lg, me, arn]
   by_cases ht : 0 < tr <;> by_cases hb : 0 < b.n <;> by_cases hs : jk = ip <;> by_cases hv : v = 0 <;> cases ok <;> simp [ht, hb, hs, hv] <;> first | rfl | (simp [qv]; done) | skip
  ·simp [th, mo, qw, lg, me, ahu]
   by_cases ht : tr = 0 <;> by_cases hb : b.n = 0 <;> by_cases hs : jk = ip <;> by_cases hv : v = 0 <;> cases ok <;> simp [ht, hb, hs, hv] <;> first | omega | skip
  ·simp [th, mo, qw, lg, me, aqe]
   by_cases ht : 0 < tr <;> by_cases hb : b = ip <;> by_cases hs : jk = ip <;> cases ok <;> simp [ht, hb, hs]
  ·simp [th, mo, qw, lg, me, ajb]
   cases qz tr ls <;> by_cases ht : 0 < tr <;> by_cases hb : 0 < b.n <;> by_cases hs : jk = ip <;> by_cases hv : v = 0 <;> cases ok <;> simp [ht, hb, hs, hv]
  ·simp [th, mo, qw, lg, me, akm]
   cases ro 0 lu <;> by_cases ht : 0 < tr <;> by_cases hb : b = ip <;> by_cases hs : jk = ip <;> by_cases hv : v = 0 <;> cases ok <;> simp [ht, hb, hs, hv]
 unfold sn adp rm
 generalize decide (lm = pk p lm) = A
 generalize decide (lu = pj p lu) = B
 generalize sk ls (pm p ls) = C
 cases A <;> cases B <;> cases C <;> simp <;> simpa using core
theorem xc {p q q' : Pk} (h1 : q.ie = q'.ie) (h2 : q.tr = q'.tr) (h3 : q.b = q'.b) (h4 : q.jk = q'.jk) (h5 : q.v = q'.v) (h6 : q.ok = q'.ok) : me p q = me p q' := by
 unfold me; rw [h1, h2, h3, h4, h5, h6]
theorem bbs {w : World} {p : Pk} {ls : List Spn} {lm : List Mem} {lu : List Int} {t : Value} (ht : ThR w p ls lm lu t) (hk : 1 ≤ p.ie ∧ p.ie ≤ 10) (l1 : ls.length ≤ 1000000) (l2 : lm.length ≤ 1000000) (l3 : lu.length ≤ 1000000) {K : KV}
  (h : ∀ w' q, pn w' q (pm p ls) (pk p lm) (pj p lu) → (∀ x, me x q = me x (qw p)) → Fz w w' → K (pkA q) w') : gi P F.ax [t] w K := by
 have e0 : ([] : List Spn).length ≤ 1000000 := by simp
 have e1 : ([] : List Mem).length ≤ 1000000 := by simp
 have e2 : ([] : List Int).length ≤ 1000000 := by simp
 cases ht with
 | nq v q hs =>
  have hS : pm p ls = ls := by unfold pm; rw [if_pos (by omega)]
  have hM : pk p lm = [] := by unfold pk; rw [if_neg (by omega)]
  have hU : pj p lu = [] := by unfold pj; rw [if_neg (by omega)]
  rw [hS, hM, hU] at h
  refine amy hs l1 fun w' v' s f => h w' _ ⟨s, Sl.nil, Sl.nil, l1, e1, e2⟩ (fun x => xc ?_ ?_ ?_ ?_ ?_ ?_) f
  all_goals rcases q with q | q <;> simp [qw, lg, q]
 | ahc v q hs =>
  have hS : pm p ls = [] := by unfold pm; rw [if_neg (by omega)]
  have hM : pk p lm = lm := by unfold pk; rw [if_pos (by omega)]
  have hU : pj p lu = [] := by unfold pj; rw [if_neg (by omega)]
  rw [hS, hM, hU] at h
  refine ayf hs l2 fun w' v' s f => h w' ⟨3, 0, ip, ip, 0, false, ij, v', ij⟩ ⟨Sl.nil, s, Sl.nil, e0, l2, e2⟩ (fun x => xc ?_ ?_ ?_ ?_ ?_ ?_) f
  all_goals simp [qw, lg, q]
 | ask q =>
  have hS : pm p ls = [] := by unfold pm; rw [if_neg (by omega)]
  have hM : pk p lm = [] := by unfold pk; rw [if_neg (by omega)]
  have hU : pj p lu = [] := by unfold pj; rw [if_neg (by omega)]
  rw [hS, hM, hU] at h
  refine aut fun w' f => h w' _ ⟨Sl.nil, Sl.nil, Sl.nil, e0, e1, e2⟩ (fun x => xc ?_ ?_ ?_ ?_ ?_ ?_) f
  all_goals rcases q with q | q <;> simp [qw, bhj, q]
 | zj q =>
  have hS : pm p ls = [] := by unfold pm; rw [if_neg (by omega)]
  have hM : pk p lm = [] := by unfold pk; rw [if_neg (by omega)]
  have hU : pj p lu = [] := by unfold pj; rw [if_neg (by omega)]
  rw [hS, hM, hU] at h
  refine amp fun w' f => h w' _ ⟨Sl.nil, Sl.nil, Sl.nil, e0, e1, e2⟩ (fun x => xc ?_ ?_ ?_ ?_ ?_ ?_) f
  all_goals rcases q with q | q <;> simp [qw, q]
 | ur q =>
  have hS : pm p ls = [] := by unfold pm; rw [if_neg (by omega)]
  have hM : pk p lm = [] := by unfold pk; rw [if_neg (by omega)]
  have hU : pj p lu = [] := by unfold pj; rw [if_neg (by omega)]
  rw [hS, hM, hU] at h
  refine apo fun w' f => h w' _ ⟨Sl.nil, Sl.nil, Sl.nil, e0, e1, e2⟩ (fun x => xc ?_ ?_ ?_ ?_ ?_ ?_) f
  all_goals simp [qw, lg, q]
 | xg v q hs =>
  have hS : pm p ls = ls := by unfold pm; rw [if_pos (by omega)]
  have hM : pk p lm = [] := by unfold pk; rw [if_neg (by omega)]
  have hU : pj p lu = [] := by unfold pj; rw [if_neg (by omega)]
  rw [hS, hM, hU] at h
  refine akt hs l1 fun w' v' s f => h w' _ ⟨s, Sl.nil, Sl.nil, l1, e1, e2⟩ (fun x => xc ?_ ?_ ?_ ?_ ?_ ?_) f
  all_goals simp [qw, lg, q]
 | zy v q hs =>
  have hS : pm p ls = [] := by unfold pm; rw [if_neg (by omega)]
  have hM : pk p lm = [] := by unfold pk; rw [if_neg (by omega)]
  have hU : pj p lu = lu := by unfold pj; rw [if_pos (by omega)]
  rw [hS, hM, hU] at h
  refine aoa hs l3 fun w' v' s f => h w' _ ⟨Sl.nil, Sl.nil, s, e0, e1, l3⟩ (fun x => xc ?_ ?_ ?_ ?_ ?_ ?_) f
  all_goals simp [qw, lg, q]
 | none q => exact absurd hk q
theorem bds {p : Pk} {ls : List Spn} {lm : List Mem} {lu : List Int} (h : ¬ (1 ≤ p.ie ∧ p.ie ≤ 10)) : sn p ls lm lu = false := by
 unfold sn mo
 rw [if_neg (by omega), if_neg (by omega), if_neg (by omega), if_neg (by omega), if_neg (by omega), if_neg (by omega), if_neg (by omega), if_neg (by omega), if_neg (by omega), Bool.and_false]
theorem ahf {w : World} {p : Pk} {ls : List Spn} {lm : List Mem} {lu : List Int} (hp : pn w p ls lm lu) (hr : vu p) {K : KV} (h : ∀ w', Fz w w' → K (.int .i64 (aap p ls lm lu)) w') : gi P F.ed [pkA p] w K := by
 rw [M.dz.fcall]
 apply M.dz.calls
 unfold M.dz
 refine St.tz (St.jp w) fun pb w1 S1 => ?_
 have S1' : St w w1 (ii pb (pkC p).toArray T.a :: []) := S1
 have pl := fun K => wj S1' K
 simp [pl]
 refine apd (hp.fr S1.fr) fun w2 t ht _ f2 => ?_
 have S2 := S1'.jo f2
 have S3 := S2.jo ((Fr.refl _ w2).dr 1)
 unfold aap at h
 by_cases hk : 1 ≤ p.ie ∧ p.ie ≤ 10
 case neg =>
  rw [ht.bna hk]
  rw [bds hk] at h
  simp [bjk]
  exact h _ S3.fr
 rw [← bho hr hk] at h
 simp [ht.eqn hk]
 have ht3 := ht.fr ((Fr.refl _ w2).dr 1)
 refine bjq ht3 hk hp.ls hp.lm hp.lu fun w4 f4 => ?_
 have S4 := S3.jo f4
 have pl4 := fun K => wj S4 K
 cases hb : th p ls lm lu with
 | false =>
  rw [hb] at h
  simp
  exact h _ S4.fr
 | true =>
 rw [hb, Bool.true_and] at h
 simp [pl4]
 refine bbs (ht3.fr f4) hk hp.ls hp.lm hp.lu fun w5 q hq hf f5 => ?_
 have S5 := S4.jo f5
 have pl5 := fun K => wj S5 K
 simp [pl5]
 refine bfx (hp.fr S5.fr) hq fun w6 f6 => ?_
 have S6 := S5.jo f6
 have fin := h w6 S6.fr
 have e : rm p q ls (pm p ls) lm (pk p lm) lu (pj p lu) = rm p (qw p) ls (pm p ls) lm (pk p lm) lu (pj p lu) := by unfold rm; rw [hf p]
 rw [e]
 generalize rm p (qw p) ls (pm p ls) lm (pk p lm) lu (pj p lu) = bb at *
 cases bb with
 | true => simp at fin ⊢; exact fin
 | false => simp at fin ⊢; exact fin
theorem bfa {w : World} {p : Pk} {ls : List Spn} {lm : List Mem} {lu : List Int} (hp : pn w p ls lm lu) (hr : vu p) {K : KV} (h1 : sn p ls lm lu = true → ∀ w' t, ThR w' p ls lm lu t → akh w t → Fz w w' → K (.tuple #[t, .int .i64 0]) w') (h0 : sn p ls lm lu = false → ∀ w', Fz w w' → K (.tuple #[.nilIface, .int .i64 6]) w') : gi P F.fa [pkA p] w K := by
 rw [M.eo.fcall]
 apply M.eo.calls
 unfold M.eo
 refine St.tz (St.jp w) fun pb w1 S1 => ?_
 have S1' : St w w1 (ii pb (pkC p).toArray T.a :: []) := S1
 have pl := fun K => wj S1' K
 simp [pl]
 refine ahf (hp.fr S1.fr) hr fun w2 f2 => ?_
 have S2 := S1'.jo f2
 unfold aap
 cases he : sn p ls lm lu with
 | false =>
  simp
  exact h0 he w2 S2.fr
 | true =>
  simp
  have pl2 := fun K => wj S2 K
  simp [pl2]
  refine apd (hp.fr S2.fr) fun w3 t ht ho f3 => ?_
  exact h1 he w3 t ht (ho.mono S2.fr.size) (S2.jo f3).fr
theorem aeu {x : Int} (h : 0 ≤ x) : decide (0 < x) = !decide (x = 0) := by
 by_cases hx : x = 0
 ·simp [hx]
 ·have : 0 < x := by omega
  simp [hx, this]
theorem biy {v : Int} : qv v = (decide (1 ≤ v) && decide (v ≤ 3)) := by unfold qv; simp
theorem apn {w : World} {p : Pk} {ls : List Spn} {lm : List Mem} {lu : List Int} (hp : pn w p ls lm lu) (hr : vu p) (hm : ∀ m ∈ lm, 0 ≤ m.id) (hu : ∀ m ∈ lu, 0 ≤ m) {K : KV} (h : ∀ w', Fz w w' → K (.int .i64 (aap p ls lm lu)) w') : gi P F.dn [pkA p] w K := by
 rw [M.aw.fcall]
 apply M.aw.calls
 unfold M.aw
 refine St.tz (St.jp w) fun pb w1 S1 => ?_
 have S1' : St w w1 (ii pb (pkC p).toArray T.a :: []) := S1
 obtain ⟨_, _, _, c4, _⟩ := jl S1'
 have S1d := S1'.jo ((Fr.refl _ w1).dr 1)
 have pl := fun K => wj S1d K
 simp [c4, bnl, vz, pl]
 refine bji (hp.fr S1d.fr) fun w2 f2 => ?_
 have S2 := S1d.jo f2
 have pl2 := fun K => wj S2 K
 simp [pl2]
 refine bdx (hp.fr S2.fr) (axj (hp.fr S2.fr)) fun w3 f3 => ?_
 have S3 := S2.jo f3
 obtain ⟨c0, c1, c2, c4, c6, c7, c8, c9, c10, _⟩ := jl S3
 have hbn : gr w3 pb 2 = some (.int .u64 p.b.n) := by rw [S3.cell]; rfl
 have hp3 := hp.fr S3.fr
 show _
 have eB : rm p (lg p) ls (pm p ls) lm (pk p lm) lu (pj p lu) = adp p ls lm lu := rfl
 rw [eB]
 have h1 := hr.tr.1
 have h2 := hr.b.1.1
 unfold aap sn at h
 rw [aeu h1] at h
 have hbo : afs P T.aq = true := by kernel_rfl
 -- the ur of its verdict
 have main : ∀ (B : Bool), B = (adp p ls lm lu && (decide (p.ie = 3) || !decide (p.tr = 0))) → ∀ (K0 : KL), (∀ (v0 v1 : Value) (r : List Value) (w4 : World), Fz w w4 → K0 (v0 :: v1 :: .bool (B && mo p ls lm lu) :: r) w4) →
   ∀ t33 x1, t33 = .int .i64 p.ie → x1 = [.bool (decide (p.ie = 1) || decide (p.ie = 2))] → M.aw.j1 x1 (.bool B) (.pointer (some ⟨pb, 0, none⟩)) K0 t33 (.bool (qv p.v)) (.bool (decide (p.jk = ip))) w3 K := by
  intro B eB K0 hK t33 x1 e33 ex
  subst e33 ex
  unfold M.aw.j1
  have fin := fun v0 v1 r => hK v0 v1 r w3 S3.fr
  by_cases q12 : p.ie = 1 ∨ p.ie = 2
  ·have hk : mo p ls lm lu = qz p.tr ls := by unfold mo; rw [if_pos q12]
   rw [hk] at hK fin
   have hd : (decide (p.ie = 1) || decide (p.ie = 2)) = true := by simpa using q12
   rw [hd]
   cases B with
   | false => simp at fin ⊢; exact fin _ _ _
   | true =>
    simp [c1, c8]
    refine agq hp3.s hp.ls fun w4 f4 => ?_
    exact hK _ _ _ w4 (S3.fr.trans f4)
  have n1 : ¬ p.ie = 1 := fun h => q12 (.inl h)
  have n2 : ¬ p.ie = 2 := fun h => q12 (.inr h)
  by_cases q3 : p.ie = 3
  ·have hk : mo p ls lm lu = zg lm := by unfold mo; rw [if_neg q12, if_pos q3]
   rw [hk] at hK fin
   cases B with
   | false => simp [n1, n2, q3] at fin ⊢; exact fin _ _ _
   | true =>
    simp [q3, c9]
    refine apq hp3.m hp.lm hm fun w4 f4 => ?_
    exact hK _ _ _ w4 (S3.fr.trans f4)
  by_cases q4 : p.ie = 4
  ·have hk : mo p ls lm lu = !decide (p.b.n = 0) := by unfold mo; rw [if_neg q12, if_neg q3, if_pos q4, aeu h2]
   rw [hk] at hK fin
   cases B with
   | false => simp [n1, n2, q3, q4] at fin ⊢; exact fin _ _ _
   | true => simp [q4, hbn] at fin ⊢; exact fin _ _ _
  by_cases q5 : p.ie = 5
  ·have hk : mo p ls lm lu = (!decide (p.b.n = 0) && alq p.ok p.jk p.v) := by unfold mo; rw [if_neg q12, if_neg q3, if_neg q4, if_pos q5, aeu h2]
   rw [hk] at hK fin
   unfold alq at fin
   cases B with
   | false => cases hok : p.ok <;> simp [n1, n2, q3, q4, q5, c7, hok] at fin ⊢ <;> exact fin _ _ _
   | true =>
    cases hok : p.ok <;> cases htl : qv p.v <;> by_cases hb : p.b.n = 0 <;> by_cases hv : p.v = 0 <;> by_cases hs : p.jk = ip <;> simp [q5, hbn, c7, c6, hok, htl, hb, hv, hs] at fin ⊢ <;> exact fin _ _ _
  by_cases q6 : p.ie = 6
  ·have hk : mo p ls lm lu = (!decide (p.b.n = 0) && qv p.v) := by unfold mo; rw [if_neg q12, if_neg q3, if_neg q4, if_neg q5, if_pos q6, aeu h2]
   rw [hk] at hK fin
   cases B with
   | false => simp [n1, n2, q3, q4, q5, q6] at fin ⊢; exact fin _ _ _
   | true => by_cases hb : p.b.n = 0 <;> simp [q6, hbn, hb] at fin ⊢ <;> exact fin _ _ _
  by_cases q7 : p.ie = 7
  ·have hk : mo p ls lm lu = (!decide (p.b.n = 0) && (p.ok == decide (p.jk = ip))) := by unfold mo; rw [if_neg q12, if_neg q3, if_neg q4, if_neg q5, if_neg q6, if_pos q7, aeu h2]
   rw [hk] at hK fin
   cases B with
   | false => simp [n1, n2, q3, q4, q5, q6, q7] at fin ⊢; exact fin _ _ _
   | true => by_cases hb : p.b.n = 0 <;> simp [q7, hbn, hb, c7, afo hbo] at fin ⊢ <;> exact fin _ _ _
  by_cases q8 : p.ie = 8
  ·have hk : mo p ls lm lu = qv p.v := by unfold mo; rw [if_neg q12, if_neg q3, if_neg q4, if_neg q5, if_neg q6, if_neg q7, if_pos q8]
   rw [hk] at hK fin
   cases B with
   | false => simp [n1, n2, q3, q4, q5, q6, q7, q8] at fin ⊢; exact fin _ _ _
   | true => simp [q8] at fin ⊢; exact fin _ _ _
  by_cases q9 : p.ie = 9
  ·have hk : mo p ls lm lu = (!decide (p.b.n = 0) && qz p.tr ls) := by unfold mo; rw [if_neg q12, if_neg q3, if_neg q4, if_neg q5, if_neg q6, if_neg q7, if_neg q8, if_pos q9, aeu h2]
   rw [hk] at hK fin
   cases B with
   | false => simp [n1, n2, q3, q4, q5, q6, q7, q8, q9] at fin ⊢; exact fin _ _ _
   | true =>
    by_cases hb : p.b.n = 0
    ·simp [q9, hbn, hb] at fin ⊢; exact fin _ _ _
    ·simp [q9, hbn, hb, c1, c8]
     refine agq hp3.s hp.ls fun w4 f4 => ?_
     have fin4 := fun v0 v1 r => hK v0 v1 r w4 (S3.fr.trans f4)
     simp [hb] at fin4 ⊢
     exact fin4 _ _ _
  by_cases q10 : p.ie = 10
  ·have hk : mo p ls lm lu = (ro 0 lu && (decide (0 < lu.length) && decide (lu.length ≤ 16))) := by unfold mo; rw [if_neg q12, if_neg q3, if_neg q4, if_neg q5, if_neg q6, if_neg q7, if_neg q8, if_neg q9, if_pos q10]
   rw [hk] at hK fin
   cases B with
   | false => simp [n1, n2, q3, q4, q5, q6, q7, q8, q9, q10] at fin ⊢; exact fin _ _ _
   | true =>
    simp [q10, c10]
    refine azx hp3.u hp.lu hu fun w4 f4 => ?_
    exact hK _ _ _ w4 (S3.fr.trans f4)
  ·have hk : mo p ls lm lu = false := by unfold mo; rw [if_neg q12, if_neg q3, if_neg q4, if_neg q5, if_neg q6, if_neg q7, if_neg q8, if_neg q9, if_neg q10]
   rw [hk, Bool.and_false] at fin
   simp [n1, n2, q3, q4, q5, q6, q7, q8, q9, q10]
   exact fin _ _ _
 have fin : ∀ w4, Fz w w4 → K (.int .i64 (if (((adp p ls lm lu && (decide (p.ie = 3) || !decide (p.tr = 0))) && mo p ls lm lu) = true) then 0 else 6)) w4 := h
 have m2 := main _ rfl
 have tl : qv p.v = (decide (1 ≤ p.v) && decide (p.v ≤ 3)) := biy
 generalize adp p ls lm lu = E at *
 have m3 := fun e K0 hK t33 x1 a b => main (E && (decide (p.ie = 3) || !decide (p.tr = 0))) e K0 hK t33 x1 a b
 have m4 := m3 rfl
 have tailK : ∀ (X : Bool) (w4 : World), X = ((E && (decide (p.ie = 3) || !decide (p.tr = 0))) && mo p ls lm lu) → Fz w w4 → (unT P .not (.bool X) w4 fun t162 w => gk t162 (K (.int .i64 6) w) (K (.int .i64 0) w)) := fun X w4 e f => by
  have := fin w4 f
  rw [← e] at this
  cases X with
  | true => simp at this ⊢; exact this
  | false => simp at this ⊢; exact this
 have fork : M.aw.j1 [.bool (decide (p.ie = 1) || decide (p.ie = 2))] (.bool (E && (decide (p.ie = 3) || !decide (p.tr = 0)))) (.pointer (some ⟨pb, 0, none⟩)) (fun x0 w => unT P .not (gv x0 2) w fun t162 w => gk t162 (K (.int .i64 6) w) (K (.int .i64 0) w)) (.int .i64 p.ie) (.bool (qv p.v)) (.bool (decide (p.jk = ip))) w3 K :=
  m4 _ (fun v0 v1 r w4 f4 => tailK _ w4 rfl f4) _ _ rfl rfl
 clear main m3 m4 m2
 have tl1 : ∀ {Q : Value → World → Prop}, Q (.bool (qv p.v)) w3 → (ib P .geq T.p (.tmp 25) (.const (.int .i64 1)) (.int .i64 p.v) (.int .i64 1) w3 fun t26 w => gh (isB t26 true) (fun K' => K' (.pointer (some ⟨pb, 6, none⟩)) w) w fun t28 w => gh (isB t26 true) (fun K' => ldT P T.p t28 w K') w fun t29 w => gh (isB t26 true) (fun K' => ib P .leq T.p (.tmp 29) (.const (.int .i64 3)) t29 (.int .i64 3) w K') w fun t30 w => ic t26 t30 (.bool false) w Q) := fun {Q} hQ => by
  rw [tl] at hQ
  by_cases v1 : 1 ≤ p.v
  ·by_cases v3 : p.v ≤ 3
   ·simp [v1, v3, c6] at hQ ⊢; exact hQ
   ·simp [v1, v3, c6] at hQ ⊢; exact hQ
  ·simp [v1] at hQ ⊢; exact hQ
 have go : (ib P .geq T.p (.tmp 25) (.const (.int .i64 1)) (.int .i64 p.v) (.int .i64 1) w3 fun t26 w => gh (isB t26 true) (fun K' => K' (.pointer (some ⟨pb, 6, none⟩)) w) w fun t28 w => gh (isB t26 true) (fun K' => ldT P T.p t28 w K') w fun t29 w => gh (isB t26 true) (fun K' => ib P .leq T.p (.tmp 29) (.const (.int .i64 3)) t29 (.int .i64 3) w K') w fun t30 w => ic t26 t30 (.bool false) w fun t31 w =>
   ldT P T.b (.pointer (some ⟨pb, 0, none⟩)) w fun t33 w => ib P .eql T.b (.tmp 33) (.const (.int .i64 1)) t33 (.int .i64 1) w fun t35 w =>
   gk t35 (M.aw.j1 [t35] (.bool (E && (decide (p.ie = 3) || !decide (p.tr = 0)))) (.pointer (some ⟨pb, 0, none⟩)) (fun x0 w => unT P .not (gv x0 2) w fun t162 w => gk t162 (K (.int .i64 6) w) (K (.int .i64 0) w)) t33 t31 (.bool (decide (p.jk = ip))) w K)
    (ib P .eql T.b (.tmp 33) (.const (.int .i64 2)) t33 (.int .i64 2) w fun t36 w => M.aw.j1 [t36] (.bool (E && (decide (p.ie = 3) || !decide (p.tr = 0)))) (.pointer (some ⟨pb, 0, none⟩)) (fun x0 w => unT P .not (gv x0 2) w fun t162 w => gk t162 (K (.int .i64 6) w) (K (.int .i64 0) w)) t33 t31 (.bool (decide (p.jk = ip))) w K)) := by
  refine tl1 ?_
  simp [c0]
  by_cases k1 : p.ie = 1
  ·simp [k1] at fork ⊢; exact fork
  ·simp [k1] at fork ⊢; exact fork
 clear fork tl1
 cases E with
 | false =>
  simp [c6] at go ⊢
  exact go
 | true =>
  by_cases k3 : p.ie = 3
  ·simp [c0, c6, k3] at go ⊢
   exact go
  ·simp [c0, c1, c6, k3] at go ⊢
   exact go
structure ahb (ls : List Spn) (lm : List Mem) (lu : List Int) : Prop where
 s : ls.length ≤ 40
 m : lm.length ≤ 100
 u : lu.length ≤ 100
 nm : ∀ x ∈ ls, x.name.size ≤ 200 ∧ x.kc.size ≤ 200
theorem zq.ajd {w : World} {p : Pk} {ls : List Spn} {lm : List Mem} {lu : List Int} (h : zq w p ls lm lu) (l : ahb ls lm lu) : pn w p ls lm lu := h.rd (by have := l.s; omega) (by have := l.m; omega) (by have := l.u; omega)
def LiI (W : World) (pb : Nat) (p : Pk) (ls : List Spn) : KL := fun x w1 => ∃ (u : Value) (i : Nat), x = [u, .int .i64 (i : Nat)] ∧ i ≤ ls.length ∧ (∀ j (h : j < ls.length), j < i → ls[j].name.size ≤ 200 ∧ ls[j].kc.size ≤ 200) ∧ St W w1 (ii pb (pkC p).toArray T.a :: [])
theorem bcp {w : World} {p : Pk} {ls : List Spn} {lm : List Mem} {lu : List Int} (hp : zq w p ls lm lu) {K : KV} (h : ∀ bb w', (bb = true → ahb ls lm lu) → Fz w w' → K (.bool bb) w') : gi P F.dk [pkA p] w K := by
 rw [M.ba.fcall]
 apply M.ba.calls
 unfold M.ba
 refine St.tz (St.jp w) fun pb w1 S1 => ?_
 have S1' : St w w1 (ii pb (pkC p).toArray T.a :: []) := S1
 obtain ⟨_, _, _, _, _, _, c8, c9, c10, _⟩ := jl S1'
 have l1 : ∀ w' K, biT P .len #[T.d] T.b [false] [p.sv] w' K = K (.int .i64 ls.length) w' := fun w' K => hp.s.iy (by kernel_rfl) [false]
 have l2 : ∀ w' K, biT P .len #[T.j] T.b [false] [p.mv] w' K = K (.int .i64 lm.length) w' := fun w' K => hp.m.iy (by kernel_rfl) [false]
 have l3 : ∀ w' K, biT P .len #[T.i] T.b [false] [p.iv] w' K = K (.int .i64 lu.length) w' := fun w' K => hp.u.iy (by kernel_rfl) [false]
 have no : ∀ w', Fz w w' → K (.bool false) w' := fun w' f => h false w' (fun h => by cases h) f
 by_cases h1 : 40 < ls.length
 ·have h1' : (40 : Int) < ls.length := by omega
  simp [c8, l1, h1']
  exact no _ S1.fr
 have h1' : ¬ (40 : Int) < ls.length := by omega
 by_cases h2 : 100 < lm.length
 ·have h2' : (100 : Int) < lm.length := by omega
  simp [c8, l1, h1', c9, l2, h2']
  exact no _ S1.fr
 have h2' : ¬ (100 : Int) < lm.length := by omega
 by_cases h3 : 100 < lu.length
 ·have h3' : (100 : Int) < lu.length := by omega
  simp [c8, l1, h1', c9, l2, h2', c10, l3, h3']
  exact no _ S1.fr
 have h3' : ¬ (100 : Int) < lu.length := by omega
 simp [c8, l1, h1', c9, l2, h2', c10, l3, h3']
 refine ⟨LiI w pb p ls, fun x _ => ls.length - ms x 1, ⟨_, 0, rfl, Nat.zero_le _, fun j _ h => by omega, S1'⟩, ?_⟩
 rintro x w2 ⟨u, i, rfl, hi, hpre, S2⟩
 unfold M.ba.j2
 obtain ⟨_, _, _, _, _, _, c8, _⟩ := jl S2
 by_cases hil : i < ls.length
 ·have hili : (i : Int) < (ls.length : Int) := by omega
  have hwi : IntKind.i64.wrap ((i : Int) + 1) = ((i + 1 : Nat) : Int) := by rw [ia]; rfl
  obtain ⟨b, o, cap, hv, _, _, k1⟩ := (hp.fr S2.fr).s.at hil
  have hia : ∀ w' K, iaT P T.d p.sv (.int .i64 (i : Nat)) w' K = K (.pointer (some ⟨b, o + i * 8, none⟩)) w' := fun w' K => by rw [hv]; simp [hil]
  have n6 := k1 6 _ rfl
  have n5 := k1 5 _ rfl
  have lstr : ∀ (s : ByteArray) w' K, biT P .len #[T.ae] T.b [false] [.string s] w' K = K (.int .i64 s.size) w' := fun s w' K => awk (by kernel_rfl) [false] s w' K
  simp [c8, l1, hil]
  unfold M.ba.j3
  by_cases q1 : 200 < ls[i].name.size
  ·have q1' : (200 : Int) < (ls[i].name.size : Int) := by omega
   simp [c8, hia, n6, lstr, q1']
   exact no _ S2.fr
  have q1' : ¬ (200 : Int) < (ls[i].name.size : Int) := by omega
  by_cases q2 : 200 < ls[i].kc.size
  ·have q2' : (200 : Int) < (ls[i].kc.size : Int) := by omega
   simp [c8, hia, n6, n5, lstr, q1', q2']
   exact no _ S2.fr
  have q2' : ¬ (200 : Int) < (ls[i].kc.size : Int) := by omega
  simp [c8, hia, n6, n5, lstr, q1', q2', hwi]
  refine ⟨⟨_, i + 1, rfl, by omega, fun j hj hlt => ?_, S2⟩, by simp [ms, gv]; omega⟩
  by_cases hji : j = i
  ·subst hji; omega
  ·exact hpre j hj (by omega)
 ·have hili : ¬ (i : Int) < (ls.length : Int) := by omega
  simp [c8, l1, hil]
  refine h true _ (fun _ => ⟨by omega, by omega, by omega, fun x hx => ?_⟩) S2.fr
  obtain ⟨j, hj, rfl⟩ := List.getElem_of_mem hx
  exact hpre j hj (by omega)
section
variable {i : Nat} {g : Nat → Rg} {val jf : Nat → Int} {prop : Nat → Prop} {tk : List (Nat × Nat)}
end
open Go.Eng Go.Proofs.YtfnhoaemapheoaaGreat.Sint
section
variable {s f : Int} {L : Lg} {F : Nat} {D : Dk} {m : abg}
end
theorem bpc (a b c d e : Int) (w : World) (K : KV) : kf P T.bd #[(0, .int .u64 a), (1, .int .u64 b), (2, .int .u64 c), (3, .int .u64 d), (4, .int .u64 e)] w K = K (.agg #[.int .u64 a, .int .u64 b, .int .u64 c, .int .u64 d, .int .u64 e]) w := kr
theorem bnp (a b c d e : Value) (w : World) (K : KV) : ixT P T.bd (.agg #[a, b, c, d, e]) (.int .i64 0) w K = K a w := kr
theorem bnw (a b c d e : Value) (w : World) (K : KV) : ixT P T.bd (.agg #[a, b, c, d, e]) (.int .i64 1) w K = K b w := kr
theorem bne (a b c d e : Value) (w : World) (K : KV) : ixT P T.bd (.agg #[a, b, c, d, e]) (.int .i64 2) w K = K c w := kr
theorem bno (a b c d e : Value) (w : World) (K : KV) : ixT P T.bd (.agg #[a, b, c, d, e]) (.int .i64 3) w K = K d w := kr
theorem bnc (a b c d e : Value) (w : World) (K : KV) : ixT P T.bd (.agg #[a, b, c, d, e]) (.int .i64 4) w K = K e w := kr
theorem agd : ∀ l : List Int, (l.flatMap lw).length = l.length * 8
 | [] => rfl
 | x :: l => by rw [List.flatMap_cons, List.length_append, lx, agd l, List.length_cons]; omega
section
variable {w0 w : World} {R : List Asn}
theorem blw (a b c d e : Int) {i : Nat} (hi : i < 5) (w : World) (K : KV) : ixT P T.bd (.agg #[.int .u64 a, .int .u64 b, .int .u64 c, .int .u64 d, .int .u64 e]) (.int .i64 (i : Nat)) w K = K (.int .u64 ([a, b, c, d, e][i]'hi)) w := by
 match i, hi with
 | 0, _ => exact bnp _ _ _ _ _ _ _
 | 1, _ => exact bnw _ _ _ _ _ _ _
 | 2, _ => exact bne _ _ _ _ _ _ _
 | 3, _ => exact bno _ _ _ _ _ _ _
 | 4, _ => exact bnc _ _ _ _ _ _ _
end
def adn (b : Bool) : Int := if b = true then 1 else 0
def xa (s : ByteArray) : List Int := (s.size : Int) :: yp s
def vw (s : Spn) : List Int := [s.iw, s.id, s.px, s.jp, s.len]
def pi (s : Spn) : List Int := (vw s).flatMap lw ++ [adn s.tw] ++ xa s.kc ++ xa s.name
theorem aic {s : Spn} (h : ll s = 0) : s.kc.size ≤ 32 ∧ s.name.size ≤ 32 := by
 unfold ll at h
 split at h
 ·cases h
 ·unfold orK at h
  have hn : ∀ b : ByteArray, pr b = 0 → b.size ≤ 32 := fun b hb => by
   unfold pr at hb
   split at hb
   ·cases hb
   ·rename_i hh
    have := not_or.1 hh
    omega
  by_cases ha : pr s.kc = 0
  ·by_cases hb : pr s.name = 0
   ·exact ⟨hn _ ha, hn _ hb⟩
   ·simp [ha, hb] at h
  ·simp [ha] at h
def P5I (w0 : World) (s : Spn) (l : List Int) (R : List Asn) : KL := fun x w1 => ∃ (u v : Value) (i : Nat), x = [u, v, .int .i64 (i : Nat)] ∧ i ≤ 5 ∧ St w0 w1 (ki v (l ++ ((vw s).take i).flatMap lw) :: R)
def P2I (w0 : World) (s : Spn) (l : List Int) (R : List Asn) : KL := fun x w1 => ∃ (u v : Value) (i : Nat), x = [u, v, .int .i64 (i : Nat)] ∧ i ≤ 2 ∧ St w0 w1 (ki v (l ++ (([s.kc, s.name] : List ByteArray).take i).flatMap xa) :: R)
theorem bnv (a b : ByteArray) (w : World) (K : KV) : kf P T.bh #[(0, .string a), (1, .string b)] w K = K (.agg #[.string a, .string b]) w := kr
theorem bod (a b : Value) (w : World) (K : KV) : ixT P T.bh (.agg #[a, b]) (.int .i64 0) w K = K a w := kr
theorem bny (a b : Value) (w : World) (K : KV) : ixT P T.bh (.agg #[a, b]) (.int .i64 1) w K = K b w := kr
section
variable {w0 w : World} {R : List Asn}
theorem azf (S : St w0 w R) {v : Value} {l : List Int} (hs : ∀ w' L, St w0 w' (L ++ R) → SlB w' v l) (hl : l.length ≤ 10000000) {s : Spn} (hr : ll s = 0) {K : KV} (h : ∀ w' v', St w0 w' (ki v' (l ++ pi s) :: R) → K (.tuple #[v', .int .i64 0]) w') : gi P F.fn [v, km s] w K := by
 obtain ⟨n1, n2⟩ := aic hr
 rw [M.cc.fcall]
 apply M.cc.calls
 unfold M.cc
 refine St.tz S fun b w1 S1 => ?_
 have S1' : St w0 w1 (ii b (ir s).toArray T.e :: R) := S1
 have cl : ∀ {w' : World} {L : List Asn}, St w0 w' (ii b (ir s).toArray T.e :: L) → gr w' b 0 = some (.int .u64 s.iw) ∧ gr w' b 1 = some (.int .u64 s.id) ∧ gr w' b 2 = some (.int .u64 s.px) ∧ gr w' b 3 = some (.int .u64 s.jp) ∧ gr w' b 4 = some (.int .u64 s.len) ∧ gr w' b 5 = some (.string s.kc) ∧ gr w' b 6 = some (.string s.name) ∧ gr w' b 7 = some (.bool s.tw) := fun S' => by
  refine ⟨?_, ?_, ?_, ?_, ?_, ?_, ?_, ?_⟩ <;> rw [S'.cell] <;> rfl
 have sl : ∀ K, ldN P 8 b 0 w1 K = K (km s) w1 := fun K => S1'.ldA (n := 8) (i := 0) (ir s) rfl rfl K
 simp [sl]
 rw [M.cx.fcall]
 refine ajr s fun w2 f2 => ?_
 rw [hr]
 have S2 := S1'.jo f2
 simp
 unfold M.cc.j0
 refine wy S2 (hs w2 [_] S2) (by omega) fun w3 v3 S3 => ?_
 obtain ⟨c0, c1, c2, c3, c4, _⟩ := cl S3.swap
 simp [c0, c1, c2, c3, c4, bpc]
 have hl5 : ∀ i, (((vw s).take i).flatMap lw).length ≤ 40 := fun i => by
  rw [agd, List.length_take]
  have : (vw s).length = 5 := rfl
  omega
 refine ⟨P5I w0 s l (ii b (ir s).toArray T.e :: R), fun x _ => 5 - ms x 2, ⟨_, _, 0, rfl, Nat.zero_le _, by simpa using S3⟩, ?_⟩
 rintro x w4 ⟨u, v4, i, rfl, hi, S4⟩
 by_cases hil : i < 5
 ·have hili : (i : Int) < 5 := by omega
  have hwi : IntKind.i64.wrap ((i : Int) + 1) = ((i + 1 : Nat) : Int) := by rw [ia]; rfl
  simp [hili]
  unfold M.cc.j3
  simp [blw _ _ _ _ _ hil]
  refine age S4 (by rw [List.length_append]; have := hl5 i; omega) _ fun w5 v5 S5 => ?_
  simp [hwi]
  refine ⟨⟨_, _, i + 1, rfl, by omega, ?_⟩, by simp [ms, gv]; omega⟩
  have e : (((vw s).take (i + 1)).flatMap lw) = (((vw s).take i).flatMap lw) ++ lw ((vw s)[i]'hil) := by
   rw [List.take_add_one, List.getElem?_eq_getElem (show i < (vw s).length from hil), List.flatMap_append]
   show _ ++ ([_] : List Int).flatMap lw = _
   simp only [List.flatMap_cons, List.flatMap_nil, List.append_nil]
   rfl
  rw [e, ← List.append_assoc]
  exact S5
 have hi5 : i = 5 := by omega
 subst hi5
 have e5 : (vw s).take 5 = vw s := rfl
 rw [e5] at S4
 have hl4 : (l ++ (vw s).flatMap lw).length ≤ 10000040 := by
  rw [List.length_append]
  have := hl5 5
  rw [e5] at this
  omega
 obtain ⟨_, _, _, _, _, d5, d6, d7⟩ := cl S4.swap
 have rest : ∀ (fb : Int) (y : List Value), fb = adn s.tw → gv y 3 = v4 → M.cc.j5 [.int .u8 fb] y (.pointer (some ⟨b, 0, none⟩)) w4 K := fun fb y hfb y3 => by
  unfold M.cc.j5
  rw [y3]
  simp
  have S5 : St w0 (w4.alloc (.cells #[.int .u8 fb] T.am)) (ki (.slice (some ⟨w4.heap.size, 0, none⟩) 1 1) [fb] :: _) := St.uo (l := [fb]) S4 jr rfl (by simp [maxLen])
  refine Go.Eng.td et.f jr xd S5.swap (l2 := [fb]) (S5.row jr) (by simp at hl4 ⊢; omega) (by decide) fun w6 v6 S6 => ?_
  obtain ⟨_, _, _, _, _, g5, g6, _⟩ := cl S6.up2
  simp [g5, g6, bnv]
  have S6d := S6.swap.drop
  refine ⟨P2I w0 s (l ++ (vw s).flatMap lw ++ [fb]) (ii b (ir s).toArray T.e :: R), fun x _ => 2 - ms x 2, ⟨_, _, 0, rfl, Nat.zero_le _, by simpa using S6d⟩, ?_⟩
  rintro x w7 ⟨u7, v7, i, rfl, hi7, S7⟩
  have hsz : ∀ k, k ≤ 2 → ((([s.kc, s.name] : List ByteArray).take k).flatMap xa).length ≤ 66 := fun k hk => by
   match k, hk with
   | 0, _ => simp
   | 1, _ => simp [xa, yi]; omega
   | 2, _ => simp [xa, yi]; omega
  by_cases hil : i < 2
  ·have hili : (i : Int) < 2 := by omega
   have hwi : IntKind.i64.wrap ((i : Int) + 1) = ((i + 1 : Nat) : Int) := by rw [ia]; rfl
   have hix : ∀ w K, ixT P T.bh (.agg #[.string s.kc, .string s.name]) (.int .i64 (i : Nat)) w K = K (.string (([s.kc, s.name] : List ByteArray)[i]'hil)) w := fun w K => by
    match i, hil with
    | 0, _ => exact bod _ _ _ _
    | 1, _ => exact bny _ _ _ _
   have hs32 : (([s.kc, s.name] : List ByteArray)[i]'hil).size ≤ 32 := by
    match i, hil with
    | 0, _ => exact n1
    | 1, _ => exact n2
   simp [hili]
   unfold M.cc.j8
   have e : ((([s.kc, s.name] : List ByteArray).take (i + 1)).flatMap xa) = ((([s.kc, s.name] : List ByteArray).take i).flatMap xa) ++ xa (([s.kc, s.name] : List ByteArray)[i]'hil) := by
    rw [List.take_add_one, List.getElem?_eq_getElem (show i < ([s.kc, s.name] : List ByteArray).length from hil), List.flatMap_append]
    simp
   have hlen0 := hsz i (by omega)
   simp [hix]
   generalize ([s.kc, s.name] : List ByteArray)[i]'hil = str at *
   have hw8 : IntKind.u8.wrap (str.size : Int) = (str.size : Int) := by
    unfold IntKind.wrap
    simp [IntKind.bits, IntKind.signed]
    omega
   have hcv : ∀ w' K', cvT P T.b T.am (.int .i64 (str.size : Int)) w' K' = K' (.int .u8 (str.size : Int)) w' := fun w' K' => by
    rw [og (ks := .i64) (kd := .u8) (by kernel_rfl) (by kernel_rfl), hw8]
   simp [hcv]
   have S8 : St w0 (w7.alloc (.cells #[.int .u8 (str.size : Int)] T.am)) (ki (.slice (some ⟨w7.heap.size, 0, none⟩) 1 1) [(str.size : Int)] :: _) := St.uo (l := [(str.size : Int)]) S7 jr rfl (by simp [maxLen])
   refine Go.Eng.td et.f jr xd S8.swap (l2 := [(str.size : Int)]) (S8.row jr) (by simp at hlen0 hl4 ⊢; omega) (by decide) fun w9 v9 S9 => ?_
   refine bjh et.f (by kernel_rfl) (by kernel_rfl) (fun _ => rfl) S9 str (by simp at hlen0 hl4 ⊢; omega) fun w10 v10 S10 => ?_
   rw [hwi]
   refine ⟨⟨_, v10, i + 1, rfl, by omega, ?_⟩, by simp [ms, gv]; omega⟩
   rw [e]
   have S11 := S10.swap.drop
   simp only [List.append_assoc] at S11 ⊢
   exact S11
  ·have hi2 : i = 2 := by omega
   subst hi2
   simp
   refine h w7 v7 ?_
   have e2 : l ++ (vw s).flatMap lw ++ [fb] ++ ((([s.kc, s.name] : List ByteArray).take 2).flatMap xa) = l ++ pi s := by
    rw [hfb]
    unfold pi
    simp
   rw [e2] at S7
   exact S7.swap.drop
 cases hf : s.tw with
 | true =>
  rw [hf] at d7
  simp [d7]
  exact rest 1 _ (by rw [hf]; rfl) rfl
 | false =>
  rw [hf] at d7
  simp [d7]
  exact rest 0 _ (by rw [hf]; rfl) rfl
end
theorem bbw (l : List UInt8) (a : ByteArray) : ((l.map fun b => (b.toNat : Int)).foldl (fun r n => r.push (UInt8.ofNat n.toNat)) a).data.toList = a.data.toList ++ l := by
 induction l generalizing a with
 | nil => simp
 | cons x t ih =>
  rw [List.map_cons, List.foldl_cons, ih]
  simp [ByteArray.push]
theorem bci (s : ByteArray) : aju (yp s) = s := by
 have h := bbw s.data.toList ByteArray.empty
 have h2 : (aju (yp s)).data.toList = s.data.toList := by
  unfold aju yp
  rw [h]
  rfl
 cases s with
 | mk d =>
  have h3 : (aju (yp ⟨d⟩)).data = d := Array.toList_inj.1 h2
  generalize aju (yp ⟨d⟩) = z at *
  cases z with
  | mk e => simp only at h3; rw [h3]
section
variable {w0 w : World} {R X : List Asn}
def Rdv (w0 : World) (R : List Asn) (v : Value) (l : List Int) : Prop := ∀ w' L, St w0 w' (L ++ R) → SlB w' v l
theorem aih {v : Value} {l : List Int} {L0 : List Asn} (S : St w0 w (L0 ++ R)) (hs : Rdv w0 R v l) {lo hi : Option Value} {i j : Nat} (hlo : lo = none ∧ i = 0 ∨ ∃ k, lo = some (.int k (i : Int))) (hhi : hi = none ∧ j = l.length ∨ ∃ k, hi = some (.int k (j : Int))) (h0 : i ≤ j) (h1 : j ≤ l.length) :
  ∃ v', (∀ w1 K, slT P T.f v lo hi none w1 K = K v' w1) ∧ Rdv w0 R v' ((l.drop i).take (j - i)) := by
 obtain ⟨v', _, _, e1⟩ := (hs w L0 S).sub (P := P) (t := T.f) (by kernel_rfl) (by kernel_rfl) hlo hhi h0 h1
 refine ⟨v', e1, fun w' L S' => ?_⟩
 obtain ⟨v2, s2, _, e2⟩ := (hs w' L S').sub (P := P) (t := T.f) (by kernel_rfl) (by kernel_rfl) hlo hhi h0 h1
 have h3 := e1 w' fun v _ => v = v2
 rw [e2 w'] at h3
 have h4 : v' = v2 := by
  have : (v2 = v2) = (v' = v2) := h3
  rw [← this]
 rw [h4]
 exact s2
abbrev rdr (b : Nat) (v : Value) : Asn := ii b #[v, .int .i64 0] T.ai
theorem ane {b n : Nat} {v : Value} {l : List Int} (S : St w0 w (rdr b v :: (X ++ R))) (hs : Rdv w0 R v l) (hn : n ≤ l.length) {K : KV}
  (h : ∀ w' v1 v2, Rdv w0 R v1 (l.take n) → Rdv w0 R v2 (l.drop n) → St w0 w' (rdr b v2 :: (X ++ R)) → K v1 w') : gi P F.cb [.pointer (some ⟨b, 0, none⟩), .int .i64 (n : Nat)] w K := by
 rw [M.bd.fcall]
 apply M.bd.calls
 unfold M.bd
 have c0 : gr w b 0 = some v := by rw [S.cell]; rfl
 have c1 : gr w b 1 = some (.int .i64 0) := by rw [S.cell]; rfl
 have hlen : ∀ w' K, biT P .len #[T.f] T.b [false] [v] w' K = K (.int .i64 l.length) w' := fun w' K => (hs w (_ :: X) S).iy (by kernel_rfl) [false]
 have hlt : ¬ (l.length : Int) < (n : Int) := by omega
 simp [c0, c1, hlen, hlt]
 unfold M.bd.j0
 simp [c1]
 unfold M.bd.j1
 obtain ⟨v1, e1, r1⟩ := aih (L0 := rdr b v :: X) S hs (lo := none) (hi := some (.int .i64 (n : Nat))) (i := 0) (j := n) (.inl ⟨rfl, rfl⟩) (.inr ⟨_, rfl⟩) (Nat.zero_le _) hn
 obtain ⟨v2, e2, r2⟩ := aih (L0 := rdr b v :: X) S hs (lo := some (.int .i64 (n : Nat))) (hi := none) (i := n) (j := l.length) (.inr ⟨_, rfl⟩) (.inl ⟨rfl, rfl⟩) hn (Nat.le_refl _)
 rw [List.drop_zero, Nat.sub_zero] at r1
 rw [List.take_of_length_le (by simp)] at r2
 have hv2 : kh v2 = true := by
  obtain ⟨_, _, e, _⟩ := r2 w (_ :: X) S
  rw [e]; rfl
 have hst : ∀ w' K, stT P T.f (.pointer (some ⟨b, 0, none⟩)) v2 w' K = st1 P b 0 v2 w' K := fun w' K => by
  obtain ⟨a, c, e, _⟩ := r2 w (_ :: X) S
  rw [e]
  simp
 simp [c0, e1, e2, hst]
 exact St.uy S hv2 (by simp) fun w3 S3 => h w3 v1 v2 r1 r2 S3
theorem aas {b : Nat} {v : Value} {x : Int} {r : List Int} (S : St w0 w (rdr b v :: (X ++ R))) (hx : tx x) (hs : Rdv w0 R v (lw x ++ r)) {K : KV}
  (h : ∀ w' v2, Rdv w0 R v2 r → St w0 w' (rdr b v2 :: (X ++ R)) → K (.int .u64 x) w') : gi P F.bc [.pointer (some ⟨b, 0, none⟩)] w K := by
 rw [M.cr.fcall]
 apply M.cr.calls
 unfold M.cr
 refine ane (n := 8) S hs (by rw [List.length_append, lx]; omega) fun w1 v1 v2 r1 r2 S1 => ?_
 rw [List.take_left' (lx x)] at r1
 rw [List.drop_left' (lx x)] at r2
 refine aky (r1 w1 (_ :: X) S1) (by rw [lx]; omega) ?_
 have := ajx hx []
 rw [List.append_nil] at this
 rw [this]
 exact h w1 v2 r2 S1
theorem atx {b : Nat} {v : Value} {x lo hi : Int} {r : List Int} (S : St w0 w (rdr b v :: (X ++ R))) (h0 : lo ≤ x) (h1 : x ≤ hi) (hs : Rdv w0 R v (x :: r)) {K : KV}
  (h : ∀ w' v2, Rdv w0 R v2 r → St w0 w' (rdr b v2 :: (X ++ R)) → K (.int .u8 x) w') : gi P F.ci [.pointer (some ⟨b, 0, none⟩), .int .u8 lo, .int .u8 hi] w K := by
 rw [M.cw.fcall]
 apply M.cw.calls
 unfold M.cw
 refine ane (n := 1) S hs (by simp) fun w1 v1 v2 r1 r2 S1 => ?_
 have c1 : gr w1 b 1 = some (.int .i64 0) := by rw [S1.cell]; rfl
 obtain ⟨ab, ao, ac, e1, _, _, hc⟩ := (r1 w1 (_ :: X) S1).at (i := 0) (by simp)
 have hcell : gr w1 ab ao = some (.int .u8 x) := by simpa using hc 0 _ rfl
 have hia : ∀ w' K, iaT P T.f v1 (.int .i64 0) w' K = K (.pointer (some ⟨ab, ao, none⟩)) w' := fun w' K => by rw [e1]; simp
 have n0 : ¬ x < lo := by omega
 have n1 : ¬ hi < x := by omega
 simp [hia, hcell, c1, n0, n1]
 exact h w1 v2 (by simpa using r2) S1
theorem axh {b : Nat} {v : Value} {s : ByteArray} {r : List Int} (S : St w0 w (rdr b v :: (X ++ R))) (h0 : 1 ≤ s.size) (h1 : s.size ≤ 32) (hs : Rdv w0 R v (xa s ++ r)) {K : KV}
  (h : ∀ w' v2, Rdv w0 R v2 r → St w0 w' (rdr b v2 :: (X ++ R)) → K (.string s) w') : gi P F.cs [.pointer (some ⟨b, 0, none⟩)] w K := by
 rw [M.dc.fcall]
 apply M.dc.calls
 unfold M.dc
 refine atx (lo := 1) (hi := 32) (x := (s.size : Int)) (r := yp s ++ r) S (by omega) (by omega) hs fun w1 v1 r1 S1 => ?_
 have c1 : gr w1 b 1 = some (.int .i64 0) := by rw [S1.cell]; rfl
 simp [c1]
 have hcv : ∀ w' K', cvT P T.am T.b (.int .u8 (s.size : Int)) w' K' = K' (.int .i64 (s.size : Int)) w' := fun w' K' => by
  rw [og (ks := .u8) (kd := .i64) (by kernel_rfl) (by kernel_rfl), ia]
 simp [hcv]
 refine ane (n := s.size) S1 r1 (by rw [List.length_append, yi]; omega) fun w2 v2 v3 r2 r3 S2 => ?_
 rw [List.take_left' (yi s)] at r2
 rw [List.drop_left' (yi s)] at r3
 rw [bnt (by kernel_rfl) (by kernel_rfl) (r2 w2 (_ :: X) S2), bci]
 exact h w2 v3 r3 S2
end
theorem bbb {s : Spn} (h : ll s = 0) : 1 ≤ s.kc.size ∧ 1 ≤ s.name.size := by
 unfold ll at h
 split at h
 ·cases h
 ·unfold orK at h
  have hn : ∀ b : ByteArray, pr b = 0 → 1 ≤ b.size := fun b hb => by
   unfold pr at hb
   split at hb
   ·cases hb
   ·rename_i hh
    have := not_or.1 hh
    omega
  by_cases ha : pr s.kc = 0
  ·by_cases hb : pr s.name = 0
   ·exact ⟨hn _ ha, hn _ hb⟩
   ·simp [ha, hb] at h
  ·simp [ha] at h
section
variable {w0 w : World} {R : List Asn}
abbrev spB (b : Nat) (s : Spn) : Asn := ii b (ir s).toArray T.e
theorem bar {v : Value} {s : Spn} {r : List Int} (S : St w0 w R) (hs : Rdv w0 R v (pi s ++ r)) (hr : ll s = 0) (hR : wg s) (hl : r.length ≤ 10000000) {K : KV}
  (h : ∀ w' v', St w0 w' (ki v' r :: R) → K (.tuple #[km s, v', .int .i64 0]) w') : gi P F.fm [v] w K := by
 obtain ⟨n1, n2⟩ := aic hr
 obtain ⟨m1, m2⟩ := bbb hr
 obtain ⟨s0, s1, s2, s3, s4, sv, nm, fl⟩ := s
 simp only at n1 n2 m1 m2
 rw [M.dq.fcall]
 apply M.dq.calls
 unfold M.dq
 have hb : ∀ w' K, kf P T.ai #[(0, v)] w' K = K (.agg #[v, .int .i64 0]) w' := fun w' K => by
  obtain ⟨_, _, e, _⟩ := hs w [] S
  rw [e]
  simp
 simp [hb]
 have S1 : St w0 (w.alloc (.cells #[.int .u64 0, .int .u64 0, .int .u64 0, .int .u64 0, .int .u64 0, .string ⟨#[]⟩, .string ⟨#[]⟩, .bool false] T.e)) (spB w.heap.size ⟨0, 0, 0, 0, 0, ⟨#[]⟩, ⟨#[]⟩, false⟩ :: R) := S.mkB (ir ⟨0, 0, 0, 0, 0, ⟨#[]⟩, ⟨#[]⟩, false⟩).toArray T.e
 have S2 := S1.mkB #[v, .int .i64 0] T.ai
 rw [ju] at S2
 generalize w.heap.size = tb at *
 generalize hrb : tb + 1 = rb at *
 generalize (World.alloc _ (.cells #[v, .int .i64 0] T.ai)) = w2 at *
 have hs0 : Rdv w0 R v (lw s0 ++ (lw s1 ++ (lw s2 ++ (lw s3 ++ (lw s4 ++ (adn fl :: (xa sv ++ (xa nm ++ r)))))))) := by
  have e : pi ⟨s0, s1, s2, s3, s4, sv, nm, fl⟩ ++ r = lw s0 ++ (lw s1 ++ (lw s2 ++ (lw s3 ++ (lw s4 ++ (adn fl :: (xa sv ++ (xa nm ++ r))))))) := by
   simp [pi, vw]
  rw [← e]
  exact hs
 refine aas (X := [_]) S2 hR.tr hs0 fun w3 v3 r3 S3 => ?_
 refine aas (X := [_]) S3 hR.id r3 fun w4 v4 r4 S4 => ?_
 refine aas (X := [_]) S4 hR.par r4 fun w5 v5 r5 S5 => ?_
 refine aas (X := [_]) S5 hR.st r5 fun w6 v6 r6 S6 => ?_
 refine aas (X := [_]) S6 hR.ln r6 fun w7 v7 r7 S7 => ?_
 simp
 have S7' : St w0 w7 (spB tb ⟨0, 0, 0, 0, 0, ⟨#[]⟩, ⟨#[]⟩, false⟩ :: rdr rb v7 :: R) := S7.swap
 refine St.put (vs := ir ⟨s0, s1, s2, s3, s4, ⟨#[]⟩, ⟨#[]⟩, false⟩) (cs' := (ir ⟨s0, s1, s2, s3, s4, ⟨#[]⟩, ⟨#[]⟩, false⟩).toArray) S7' (oh _) (by simp [ir]) rfl fun w8 S8 => ?_
 refine atx (X := [_]) S8.swap (x := adn fl) (by unfold adn; split <;> omega) (by unfold adn; split <;> omega) r7 fun w9 v9 r9 S9 => ?_
 have hfl : decide (adn fl = 1) = fl := by cases fl <;> rfl
 simp [hfl]
 refine St.uy S9.swap rfl (by simp [ir]) fun w10 S10 => ?_
 have S10' : St w0 w10 (spB tb ⟨s0, s1, s2, s3, s4, ⟨#[]⟩, ⟨#[]⟩, fl⟩ :: rdr rb v9 :: R) := S10
 refine axh (X := [_]) S10'.swap m1 n1 r9 fun w11 v11 r11 S11 => ?_
 simp
 refine St.uy S11.swap rfl (by simp [ir]) fun w12 S12 => ?_
 have S12' : St w0 w12 (spB tb ⟨s0, s1, s2, s3, s4, sv, ⟨#[]⟩, fl⟩ :: rdr rb v11 :: R) := S12
 refine axh (X := [_]) S12'.swap m2 n2 r11 fun w13 v13 r13 S13 => ?_
 simp
 refine St.uy S13.swap rfl (by simp [ir]) fun w14 S14 => ?_
 have S14' : St w0 w14 (spB tb ⟨s0, s1, s2, s3, s4, sv, nm, fl⟩ :: rdr rb v13 :: R) := S14
 have c1 : gr w14 rb 1 = some (.int .i64 0) := by rw [S14'.swap.cell]; rfl
 have sl : ∀ {w' : World} {L : List Asn}, St w0 w' (spB tb ⟨s0, s1, s2, s3, s4, sv, nm, fl⟩ :: L) → ∀ K, ldN P 8 tb 0 w' K = K (km ⟨s0, s1, s2, s3, s4, sv, nm, fl⟩) w' := fun S' K => S'.ldA (n := 8) (i := 0) (ir ⟨s0, s1, s2, s3, s4, sv, nm, fl⟩) rfl rfl K
 simp [c1, sl S14']
 rw [M.cx.fcall]
 refine ajr _ fun w15 f15 => ?_
 rw [hr]
 have S15 := S14'.jo f15
 simp
 refine St.uy S15.swap rfl (by simp) fun w16 S16 => ?_
 have S16' : St w0 w16 (rdr rb v13 :: spB tb ⟨s0, s1, s2, s3, s4, sv, nm, fl⟩ :: R) := S16
 have d1 : gr w16 rb 1 = some (.int .i64 0) := by rw [S16'.cell]; rfl
 unfold M.dq.j0
 simp [d1]
 unfold M.dq.j1
 have S17 := S16'.jo ((Fr.refl _ w16).dr 1)
 have d0 : gr (dr w16 1) rb 0 = some v13 := by rw [S17.cell]; rfl
 simp [sl S17.swap, d0]
 refine wy S17 (r13 _ [_, _] S17) (by omega) fun w18 v18 S18 => ?_
 simp [sl S18.up2]
 have hst : ∀ w' K, stT P T.e (.pointer (some ⟨tb, 0, none⟩)) (km ⟨s0, s1, s2, s3, s4, sv, nm, fl⟩) w' K = stN P tb 0 (ir ⟨s0, s1, s2, s3, s4, sv, nm, fl⟩) w' K := fun w' K => by
  unfold km
  simp [ir]
 rw [hst]
 refine St.put (vs := ir ⟨s0, s1, s2, s3, s4, sv, nm, fl⟩) (cs' := (ir ⟨s0, s1, s2, s3, s4, sv, nm, fl⟩).toArray) S18.up2 (oh _) (by simp [ir]) rfl fun w19 S19 => ?_
 have hres : ∀ w' K, pw P T.e (.pointer (some ⟨tb, 0, none⟩)) w' K = ldN P 8 tb 0 w' K := fun w' K => kr
 simp [hres, sl S19]
 exact h w19 v18 (S19.drop.swap.drop)
end
end Go.Proofs.YtfnhoaemapheoaaGreat
set_option maxRecDepth 100000
namespace Go.Proofs.YtfnhoaemapheoaaGreat.KeyR
open Go.Eng Go.Sort Go.Proofs.YtfnhoaemapheoaaGreat.Suint64
end Go.Proofs.YtfnhoaemapheoaaGreat.KeyR
set_option maxRecDepth 100000
namespace Go.Proofs.YtfnhoaemapheoaaGreat
open Go.Eng Go.Proofs.YtfnhoaemapheoaaGreat.Sint
def akb (hb p r : Nat) (je : Bool) : Array Value := #[.pointer (some ⟨hb, 0, none⟩), .pointer (some ⟨p, 0, none⟩), .map (some r), .bool je]
section
variable {w0 w : World} {R : List Asn} {q hb p r : Nat} {m : abg} {L : Lg} {je : Bool} {mm : MP}
end
set_option maxRecDepth 100000
def wrF (L : Lg) (D : Dk) (iu : List (List Int)) : (Lg × Dk) × Int :=
 if (ss L D iu).2 = 0 then (((ss L D iu).1.1, ((ss L D iu).1.1.nl (ss L D iu).1.2).1), ((ss L D iu).1.1.nl (ss L D iu).1.2).2) else ss L D iu
theorem arh {L : Lg} {D : Dk} {b : List Int} {r : List (List Int)} (h : (L.append D b).2 = 0) : wrF L D (b :: r) = wrF (L.append D b).1.1 (L.append D b).1.2 r := by
 have e : ss L D (b :: r) = ss (L.append D b).1.1 (L.append D b).1.2 r := by rw [ss, if_pos h]
 unfold wrF; rw [e]
theorem bet {L : Lg} {D : Dk} {b : List Int} {r : List (List Int)} (h : (L.append D b).2 ≠ 0) : wrF L D (b :: r) = L.append D b := by
 have e : ss L D (b :: r) = L.append D b := by rw [ss, if_neg h]
 unfold wrF; rw [e, if_neg h]
section
variable {w0 w : World} {R : List Asn} {q hb p r : Nat} {m : abg} {L : Lg} {dn : Bool} {mm : MP} {D : Dk} {G : Nat} {s f : Int} {lv : Value} {vs : List SV} {iu : List (List Int)}
end
section
variable {w0 w : World} {R : List Asn} {q hb p r : Nat} {m : abg} {L : Lg} {dn : Bool} {mm : MP} {D D' : Dk} {G : Nat} {s f : Int} {ik : Int} {Q' : List Prt}
theorem aws (S : St w0 w R) : St w0 (w.alloc (.map #[] 0)) (jq w.heap.size .u64 [] :: R) := S.add (a := jq w.heap.size .u64 []) ((Fr.refl _ w).alloc _) (B := fun x => x = w.heap.size) ⟨⟨ahl w .u64, List.nodup_nil⟩, rfl⟩ fun b hb => by subst hb; rw [ju]; omega
end
section
variable {w0 w : World} {R : List Asn} {q hb : Nat} {m : abg} {L : Lg} {dn : Bool} {D : Dk} {G : Nat} {s f : Int} {p : Pk} {ls : List Spn} {lm : List Mem} {lu : List Int}
end
inductive WrR (s f : Int) (L : Lg) (G : Nat) (D : Dk) (iu : List (List Int)) : (Lg × Dk) × Int → Prop
 | ok (L' : Lg) (D' : Dk) : ri s f L' (jm L'.gy).length D' → jm L'.gy = jm L.gy ++ iu → L'.ik = L.ik → D'.jb = D.jb → (D.jt = false → D'.jt = false) → WrR s f L G D iu ((L', D'), 0)
 | vk (i : Nat) (L' : Lg) (D' : Dk) : i < iu.length → ri s f L' G D' → jm L'.gy = jm L.gy ++ iu.take i → L'.ik = L.ik → D'.jb = D.jb → (D.jt = false → D'.jt = false) → WrR s f L G D iu ((L', D'), 9)
 | je (i : Nat) (L' : Lg) (D' : Dk) (Q : List Prt) : D.jt = true → L'.ik = L.ik → L'.gy.length ≤ 63 → D'.je = true → Vir s f Q G D' False → jm Q = jm L.gy ++ iu.take i → D'.jb = D.jb → f + (jm L'.gy).length ≤ f + (jm L.gy).length + iu.length → WrR s f L G D iu ((L', D'), 10)
theorem bkr {s f : Int} {L : Lg} {G : Nat} {D : Dk} {iu : List (List Int)} (g : ri s f L G D) (hl : ∀ b ∈ iu, b.length ≤ 8192) (hn : f + (jm L.gy).length + iu.length ≤ 1000000000000) : WrR s f L G D iu (wrF L D iu) := by
 have ha := bmj iu g hl hn
 unfold wrF
 generalize ss L D iu = z at *
 cases ha with
 | ok L' D' g' e1 e2 e3 e4 =>
  obtain ⟨y1, y2, y3, y4, _, y6, _⟩ := apy g'.vir g'.up
  rw [if_pos rfl, y1]
  exact .ok L' _ ⟨y2, g'.size, y3⟩ e1 e2 (by rw [y6, e3]) fun h => by rw [y4]; exact e4 h
 | vk i L' D' hi g' e1 e2 e3 e4 =>
  rw [if_neg (by simp)]
  exact .vk i L' D' hi g' e1 e2 e3 e4
 | je i j L' D0 D' Q b1 b2 b3 b4 b5 b6 b7 b8 =>
  rw [if_neg (by simp)]
  refine .je i L' D' Q b1 b4 b2.vir.len b5 b6 b7 b8 ?_
  rw [b3, List.length_append, List.length_take]
  omega
section
variable {w0 w : World} {R : List Asn} {q hb : Nat} {m : abg} {L : Lg} {dn : Bool} {D : Dk} {s f : Int}
end
section
variable {w0 w : World} {R : List Asn} {v : Value} {m : abg} {p : Pk} {ls : List Spn} {lm : List Mem} {lu : List Int}
end
section
variable {w0 w : World} {R : List Asn} {q hb : Nat} {m : abg} {L : Lg} {dn : Bool}
end
section
variable {w0 w : World} {R : List Asn} {p hb : Nat} {v : Value} {L : Lg} {D : Dk} {s f : Int} {G : Nat} {l : List PB} {ls : List (List Int)} {vs : List SV}
end
theorem ajp (jb ik : Int) : ri 0 0 ⟨ik, []⟩ 0 ⟨jb, 0, false, false, []⟩ :=
 ⟨⟨trivial, by omega, by omega, by simp, by simp [jm], .inl ⟨rfl, rfl, rfl⟩, fun _ => ⟨rfl, rfl⟩, fun q h => by simp at h⟩, fun q h => by simp at h, rfl⟩
section
variable {w0 w : World} {R : List Asn} {q hb : Nat} {m m1 m2 : abg} {L : Lg} {D : Dk} {G : Nat} {s f : Int} {Q : List Prt} {x : Prop} {ik : Int}
variable {p : Pk} {ls : List Spn} {lm : List Mem} {lu : List Int} {F0 : Nat}
end
theorem azo {s f : Int} {L : Lg} {G : Nat} {D : Dk} (g : ri s f L G D) (h : L.gy = []) : D.iz = 0 := by
 rcases g.vir.dsc with ⟨_, hf, _⟩ | ⟨Q0, q, _, _, _, hq, _⟩
 ·unfold Dk.iz; rw [hf]; rfl
 ·rw [h] at hq; simp at hq
section
variable {w0 w : World} {R : List Asn} {q hb : Nat} {m : abg} {L : Lg} {D : Dk} {s f : Int} {p : Pk} {ls : List Spn} {lm : List Mem} {lu : List Int} {F0 : Nat}
end
structure bot where
 ie : Int
 n : Int
 p : Pk
 ls : List Spn
 lm : List Mem
 lu : List Int
 kv : Value
 jy : List Int
section
variable {w0 w w' : World} {R : List Asn} {v : Value} {l : List bot}
end
section
variable {w0 w w' : World} {L X R : List Asn} {v v' : Value} {m m' : abg}
theorem bed : ∀ {X : List Asn}, St w0 w (L ++ X) → St w0 w L
 | [], S => by simpa using S
 | a :: X, S => bed (S.perm List.perm_middle).drop
end
def nc (b : Bal) (l : List Spn) : List Int := lw b.n ++ (lw b.jf ++ l.flatMap pi)
theorem auk (s : ByteArray) : (xa s).length = s.size + 1 := by unfold xa; rw [List.length_cons, yi]
theorem ags {s : Spn} (h : ll s = 0) : 43 ≤ (pi s).length ∧ (pi s).length ≤ 107 := by
 obtain ⟨n1, n2⟩ := aic h
 have : ((vw s).flatMap lw).length = 40 := by rw [agd]; rfl
 unfold pi
 rw [List.length_append, List.length_append, List.length_append, auk, auk, this]
 simp
 omega
theorem aau : ∀ {l : List Spn}, (∀ s ∈ l, ll s = 0) → (l.flatMap pi).length ≤ l.length * 107
 | [], _ => by simp
 | s :: t, h => by
  have h1 := (ags (h s (by simp))).2
  have h2 := aau (l := t) fun x hx => h x (by simp [hx])
  rw [List.flatMap_cons, List.length_append, List.length_cons]
  omega
section
variable {w0 w : World} {R X Y : List Asn}
theorem Rdv.mono {v : Value} {l : List Int} (h : Rdv w0 R v l) (X : List Asn) : Rdv w0 (X ++ R) v l := fun w' L S => h w' (L ++ X) (by rw [List.append_assoc]; exact S)
theorem bjx {v : Value} {l : List Int} : Rdv w0 (ki v l :: R) v l := fun w' L S => (S.perm List.perm_middle).row jr
theorem bct {L : List Asn} (S : St w0 w (L ++ (Y ++ R))) : St w0 w (L ++ R) := by
 refine bed (X := Y) (S.perm ?_)
 rw [List.append_assoc]
 exact List.Perm.append_left _ List.perm_append_comm
def bow (w0 : World) (b : Bal) (l : List Spn) (R : List Asn) : KL := fun x w1 => ∃ (v : Value) (i : Nat), x = [v, .int .i64 (i : Nat)] ∧ i ≤ l.length ∧ St w0 w1 (ki v (nc b (l.take i)) :: R)
theorem bfj (S : St w0 w R) (b : Bal) {lv : Value} {l : List Spn} (hs : ∀ w' L, St w0 w' (L ++ R) → SlS w' lv l) (hr : ∀ s ∈ l, ll s = 0) (hl : l.length ≤ 1000) {K : KV}
  (h : ∀ w' v', St w0 w' (ki v' (nc b l) :: R) → K v' w') : gi P F.fd [ku b, lv] w K := by
 rw [M.dr.fcall]
 apply M.dr.calls
 unfold M.dr
 refine St.tz S fun bb w1 S1 => ?_
 have S1' : St w0 w1 (ii bb #[.int .u64 b.n, .int .u64 b.jf] T.c :: R) := S1
 obtain ⟨c0, c1, _⟩ := qt S1'
 simp [c0]
 refine age (l := []) (rg S1') (by simp) _ fun w2 v2 S2 => ?_
 obtain ⟨_, d1, _⟩ := qt S2.swap
 simp [d1]
 refine age S2 (by simp [lx]) _ fun w3 v3 S3 => ?_
 have hlen : ∀ w' K, biT P .len #[T.d] T.b [false] [lv] w' K = K (.int .i64 l.length) w' := fun w' K => (hs w3 [_, _] S3).iy (by kernel_rfl) [false]
 simp [hlen]
 refine ⟨bow w0 b l R, fun x _ => l.length - ms x 1, ⟨_, 0, rfl, Nat.zero_le _, by simpa [nc] using S3.swap.drop⟩, ?_⟩
 rintro x w4 ⟨v, i, rfl, hi, S4⟩
 by_cases hil : i < l.length
 ·have hwi : IntKind.i64.wrap ((i : Int) + 1) = ((i + 1 : Nat) : Int) := by rw [ia]; rfl
  simp [hil]
  unfold M.dr.j2
  obtain ⟨ab, ao, cap, hv, _, _, hc⟩ := (hs w4 [_] S4).at hil
  have hia : ∀ w' K, iaT P T.d lv (.int .i64 (i : Nat)) w' K = K (.pointer (some ⟨ab, ao + i * 8, none⟩)) w' := fun w' K => by rw [hv]; simp [hil]
  have hld : ∀ K, ldN P 8 ab (ao + i * 8) w4 K = K (km l[i]) w4 := fun K => qy (ir l[i]) 8 rfl hc K
  simp [hia, hld]
  have S5 : St w0 (w4.alloc (.cells #[.int .u64 0, .int .u64 0, .int .u64 0, .int .u64 0, .int .u64 0, .string ⟨#[]⟩, .string ⟨#[]⟩, .bool false] T.e)) (spB w4.heap.size ⟨0, 0, 0, 0, 0, ⟨#[]⟩, ⟨#[]⟩, false⟩ :: _) := S4.mkB (ir ⟨0, 0, 0, 0, 0, ⟨#[]⟩, ⟨#[]⟩, false⟩).toArray T.e
  generalize w4.heap.size = tb at *
  generalize w4.alloc _ = w5 at *
  have hst : ∀ w' K, stT P T.e (.pointer (some ⟨tb, 0, none⟩)) (km l[i]) w' K = stN P tb 0 (ir l[i]) w' K := fun w' K => by
   unfold km
   simp [ir]
  rw [hst]
  refine St.put (vs := ir l[i]) (cs' := (ir l[i]).toArray) S5 (oh _) (by simp [ir]) rfl fun w6 S6 => ?_
  have sl : ∀ K, ldN P 8 tb 0 w6 K = K (km l[i]) w6 := fun K => S6.ldA (n := 8) (i := 0) (ir l[i]) rfl rfl K
  simp [sl]
  have hri := hr _ (List.getElem_mem hil)
  have hle : (nc b (l.take i)).length ≤ 10000000 := by
   have := aau (l := l.take i) fun s hs => hr s (List.mem_of_mem_take hs)
   have h2 : (l.take i).length ≤ 1000 := by rw [List.length_take]; omega
   unfold nc
   rw [List.length_append, List.length_append, lx, lx]
   have : (l.take i).length * 107 ≤ 1000 * 107 := Nat.mul_le_mul_right _ h2
   omega
  refine azf S6.drop (v := v) (l := nc b (l.take i)) (fun w' L S' => (S'.perm List.perm_middle).row jr) hle hri fun w7 v7 S7 => ?_
  simp [hwi]
  refine ⟨⟨v7, i + 1, rfl, by omega, ?_⟩, by simp [ms, gv]; omega⟩
  have e : nc b (l.take (i + 1)) = nc b (l.take i) ++ pi l[i] := by
   rw [List.take_add_one, List.getElem?_eq_getElem hil]
   unfold nc
   simp only [Option.toList, List.flatMap_append, List.flatMap_cons, List.flatMap_nil, List.append_nil, List.append_assoc]
  rw [e]
  exact S7.swap.drop
 ·have hie : i = l.length := by omega
  subst hie
  rw [List.take_length] at S4
  simp
  exact h w4 v S4
abbrev ky (v : Value) (l : List Spn) : Asn := ni T.e 8 ir v l
def bmd (w0 : World) (b : Bal) (l : List Spn) (tb : Nat) (R : List Asn) : KL := fun x w1 => ∃ (i : Nat) (Y : List Asn), i ≤ l.length ∧ Rdv w0 (Y ++ R) (gv x 5) ((l.drop i).flatMap pi) ∧ St w0 w1 (ky (gv x 3) (l.take i) :: ii tb #[.int .u64 b.n, .int .u64 b.jf] T.c :: (Y ++ R))
def slN (v : Value) : Nat := match v with
 | .slice _ n _ => n
 | _ => 0
theorem bgg (S : St w0 w R) {v : Value} {b : Bal} {l : List Spn} (hv : Rdv w0 R v (nc b l)) (hb : b.rng) (hne : l ≠ []) (hr : ∀ s ∈ l, ll s = 0 ∧ wg s) (htr : ∀ s ∈ l, ∀ s' ∈ l, s.iw = s'.iw) (hl : l.length ≤ 1000) {K : KV}
  (h : ∀ w' v', St w0 w' (ky v' l :: R) → K (.tuple #[ku b, v', .bool true]) w') : gi P F.fb [v] w K := by
 rw [M.cb.fcall]
 apply M.cb.calls
 unfold M.cb
 have hlen : ∀ w' K, biT P .len #[T.f] T.b [false] [v] w' K = K (.int .i64 (nc b l).length) w' := fun w' K => (hv w [] S).iy (by kernel_rfl) [false]
 have h16 : ¬ ((nc b l).length : Int) ≤ 16 := by
  unfold nc
  rw [List.length_append, List.length_append, lx, lx]
  cases l with
  | nil => exact absurd rfl hne
  | cons s t =>
   have := (ags (hr s (by simp)).1).1
   rw [List.flatMap_cons, List.length_append]
   omega
 simp [hlen, h16]
 have S1 : St w0 (w.alloc (.cells #[.int .u64 0, .int .u64 0] T.c)) (ii w.heap.size #[.int .u64 0, .int .u64 0] T.c :: R) := S.mkB _ _
 generalize w.heap.size = tb at *
 generalize w.alloc _ = w1 at *
 unfold M.cb.j0
 have S2 := S1.jo ((Fr.refl _ w1).dr 1)
 have hlb : 16 ≤ (nc b l).length := by omega
 obtain ⟨v8, e8, r8⟩ := aih (L0 := [_]) S2 hv (lo := some (.int .i64 (8 : Nat))) (hi := none) (i := 8) (j := (nc b l).length) (.inr ⟨_, rfl⟩) (.inl ⟨rfl, rfl⟩) (by omega) (Nat.le_refl _)
 obtain ⟨v16, e16, r16⟩ := aih (L0 := [_]) S2 hv (lo := some (.int .i64 (16 : Nat))) (hi := none) (i := 16) (j := (nc b l).length) (.inr ⟨_, rfl⟩) (.inl ⟨rfl, rfl⟩) (by omega) (Nat.le_refl _)
 rw [List.take_of_length_le (by simp)] at r8 r16
 have d8 : (nc b l).drop 8 = lw b.jf ++ l.flatMap pi := by unfold nc; exact List.drop_left' (lx _)
 have d16 : (nc b l).drop 16 = l.flatMap pi := by
  have : (nc b l).drop 16 = ((nc b l).drop 8).drop 8 := by rw [List.drop_drop]
  rw [this, d8]
  exact List.drop_left' (lx _)
 rw [d8] at r8
 rw [d16] at r16
 have e8' : ∀ w1 K, slT P T.f v (some (.int .i64 8)) none none w1 K = K v8 w1 := e8
 have e16' : ∀ w1 K, slT P T.f v (some (.int .i64 16)) none none w1 K = K v16 w1 := e16
 simp [e8']
 refine aky (hv _ [_] S2) (by omega) ?_
 refine aky (r8 _ [_] S2) (by rw [List.length_append, lx]; omega) ?_
 have u1 : akj (nc b l) = b.n := by unfold nc; exact ajx hb.1 _
 have u2 : akj (lw b.jf ++ l.flatMap pi) = b.jf := ajx hb.2 _
 rw [u1, u2]
 simp
 refine St.put (vs := [.int .u64 b.n, .int .u64 b.jf]) (cs' := #[.int .u64 b.n, .int .u64 b.jf]) S2 (by simp [kh]) (by simp) rfl fun w3 S3 => ?_
 simp [e16']
 refine ⟨bmd w0 b l tb R, fun x _ => l.length - slN (gv x 3), ⟨0, [], Nat.zero_le _, by simpa using r16, by simpa using Go.Eng.rg S3⟩, ?_⟩
 rintro x w4 ⟨i, Y, hi, hrv, S4⟩
 have hsn : slN (gv x 3) = i := by
  obtain ⟨_, _, e, _⟩ := S4.row mj
  rw [e]
  show (l.take i).length = i
  rw [List.length_take]
  omega
 unfold M.cb.j2
 have hrv4 := hrv w4 [_, _] S4
 have blen : ∀ w' K, biT P .len #[T.f] T.b [false] [gv x 5] w' K = K (.int .i64 ((l.drop i).flatMap pi).length) w' := fun w' K => hrv4.iy (by kernel_rfl) [false]
 by_cases hil : i < l.length
 case neg =>
  have hie : i = l.length := by omega
  subst hie
  rw [List.take_length] at S4
  obtain ⟨_, _, bl⟩ := qt S4.swap
  have e0 : ((l.drop l.length).flatMap pi).length = 0 := by simp
  have hst : ∀ w' K, stT P T.c (.pointer (some ⟨tb, 0, none⟩)) (ku b) w' K = stN P tb 0 [.int .u64 b.n, .int .u64 b.jf] w' K := fun w' K => by
   unfold ku
   simp
  rw [e0] at blen
  simp [blen, bl, hst]
  refine St.put (vs := [.int .u64 b.n, .int .u64 b.jf]) (cs' := #[.int .u64 b.n, .int .u64 b.jf]) S4.swap (by simp [kh]) (by simp) rfl fun w5 S5 => ?_
  obtain ⟨_, _, bl5⟩ := qt S5
  have hres : ∀ w' K, pw P T.c (.pointer (some ⟨tb, 0, none⟩)) w' K = ldN P 2 tb 0 w' K := fun w' K => kr
  simp [hres, bl5]
  exact h w5 _ (bct (L := [_]) (Y := Y) S5.drop)
 have hcons : l.drop i = l[i] :: l.drop (i + 1) := List.drop_eq_getElem_cons hil
 obtain ⟨hri, hRi⟩ := hr _ (List.getElem_mem hil)
 rw [hcons, List.flatMap_cons] at hrv blen
 have hpos : (0 : Int) < ((pi l[i] ++ (l.drop (i + 1)).flatMap pi).length : Int) := by
  have := (ags hri).1
  rw [List.length_append]
  omega
 generalize (pi l[i] ++ (l.drop (i + 1)).flatMap pi).length = N at hpos blen
 have hpn : 0 < N := by omega
 simp [blen, hpn]
 unfold M.cb.j3
 have hrl : ((l.drop (i + 1)).flatMap pi).length ≤ 10000000 := by
  have h1 := aau (l := l.drop (i + 1)) fun s hs => (hr s (List.mem_of_mem_drop hs)).1
  have h2 : (l.drop (i + 1)).length ≤ 1000 := by rw [List.length_drop]; omega
  have : (l.drop (i + 1)).length * 107 ≤ 1000 * 107 := Nat.mul_le_mul_right _ h2
  omega
 refine bar S4 (hrv.mono [_, _]) hri hRi hrl fun w5 v5 S5 => ?_
 simp
 have S6 : St w0 (w5.alloc (.cells #[.int .u64 0, .int .u64 0, .int .u64 0, .int .u64 0, .int .u64 0, .string ⟨#[]⟩, .string ⟨#[]⟩, .bool false] T.e)) (spB w5.heap.size ⟨0, 0, 0, 0, 0, ⟨#[]⟩, ⟨#[]⟩, false⟩ :: _) := S5.mkB (ir ⟨0, 0, 0, 0, 0, ⟨#[]⟩, ⟨#[]⟩, false⟩).toArray T.e
 generalize w5.heap.size = sb at *
 generalize w5.alloc _ = w6 at *
 have hst : ∀ w' K, stT P T.e (.pointer (some ⟨sb, 0, none⟩)) (km l[i]) w' K = stN P sb 0 (ir l[i]) w' K := fun w' K => by
  unfold km
  simp [ir]
 rw [hst]
 refine St.put (vs := ir l[i]) (cs' := (ir l[i]).toArray) S6 (oh _) (by simp [ir]) rfl fun w7 S7 => ?_
 have S8 := S7.jo ((Fr.refl _ w7).dr 1)
 have sl : ∀ {w' : World} {L : List Asn}, St w0 w' (spB sb l[i] :: L) → ∀ K, ldN P 8 sb 0 w' K = K (km l[i]) w' := fun S' K => S'.ldA (n := 8) (i := 0) (ir l[i]) rfl rfl K
 have ct : gr (dr w7 1) sb 0 = some (.int .u64 l[i].iw) := by rw [S8.cell]; rfl
 have lvlen : ∀ w' K, biT P .len #[T.d] T.b [false] [gv x 3] w' K = K (.int .i64 (l.take i).length) w' := fun w' K => (S8.up2.row mj).iy (by kernel_rfl) [false]
 rw [List.length_take, Nat.min_eq_left hi] at lvlen
 have ru : ∀ (x4 : List Value) w', gv x4 0 = gv x 3 → St w0 w' (spB sb l[i] :: ki v5 ((l.drop (i + 1)).flatMap pi) :: ky (gv x 3) (l.take i) :: ii tb #[.int .u64 b.n, .int .u64 b.jf] T.c :: (Y ++ R)) → biT P .append #[T.d, T.d] T.d [false, false] [gv x4 0, .slice (some ⟨w'.heap.size, 0, none⟩) 1 1] (w'.alloc (.cells (ir l[i]).toArray T.e)) fun t49 w => (fun x' w' => bmd w0 b l tb R x' w' ∧ l.length - slN (gv x' 3) < l.length - slN (gv x 3)) [.pointer (some ⟨sb, 0, none⟩), v5, .int .i64 0, t49, gv x4 1, v5] w := fun x4 w' x40 S' => by
  have S9 : St w0 (w'.alloc (.cells (ir l[i]).toArray T.e)) (ky (.slice (some ⟨w'.heap.size, 0, none⟩) 1 1) [l[i]] :: _) := St.uo (l := [l[i]]) S' mj (by simp) (by simp [maxLen])
  rw [x40]
  refine Go.Eng.td et.d mj oh S9.up3 (l2 := [l[i]]) (S9.row mj) (by simp; omega) (by decide) fun w10 v10 S10 => ?_
  have e : l.take (i + 1) = l.take i ++ [l[i]] := by rw [List.take_add_one, List.getElem?_eq_getElem hil]; rfl
  rw [← e] at S10
  have S11 : St w0 w10 (ky v10 (l.take (i + 1)) :: ki v5 ((l.drop (i + 1)).flatMap pi) :: ii tb #[.int .u64 b.n, .int .u64 b.jf] T.c :: (Y ++ R)) := S10.swap.drop.swap.drop
  have S12 : St w0 w10 ([ky v10 (l.take (i + 1)), ii tb #[.int .u64 b.n, .int .u64 b.jf] T.c, ki v5 ((l.drop (i + 1)).flatMap pi)] ++ (Y ++ R)) := S11.tail (.swap _ _ _)
  refine ⟨⟨i + 1, [ki v5 ((l.drop (i + 1)).flatMap pi)], by omega, bjx, bct S12⟩, ?_⟩
  have h10 : slN v10 = i + 1 := by
   obtain ⟨_, _, e2, _⟩ := S11.row mj
   rw [e2]
   show (l.take (i + 1)).length = i + 1
   rw [List.length_take]
   omega
  show l.length - slN v10 < _
  rw [h10, hsn]
  omega
 have hbs : ∀ w' K, bsT P T.d 1 #[(0, km l[i])] w' K = K (.slice (some ⟨w'.heap.size, 0, none⟩) 1 1) (w'.alloc (.cells (ir l[i]).toArray T.e)) := fun w' K => by
  unfold km
  simp [ir]
 by_cases hi0 : i = 0
 ·simp [lvlen, hi0]
  simp only [sl S8]
  rw [hbs]
  exact ru [gv x 3, gv x 4] (dr w7 1) rfl S8
 ·have hip : 0 < i := by omega
  have hl0 : 0 < (l.take i).length := by rw [List.length_take]; omega
  obtain ⟨ab, ao, cap, hv0, _, _, hc⟩ := (S8.up2.row mj).at (i := 0) hl0
  have hle : (l.take i).length = i := by rw [List.length_take]; omega
  have hia0 : ∀ w' K, iaT P T.d (gv x 3) (.int .i64 0) w' K = K (.pointer (some ⟨ab, ao, none⟩)) w' := fun w' K => by
   rw [hv0, adr (by simp) (by omega) (by omega)]
   simp
  have htt : (l.take i)[0].iw = l[i].iw := by
   rw [List.getElem_take]
   exact htr _ (List.getElem_mem _) _ (List.getElem_mem _)
  have c0 : gr (dr w7 1) ab ao = some (.int .u64 l[i].iw) := by
   have := hc 0 (.int .u64 (l.take i)[0].iw) rfl
   rw [htt] at this
   simpa using this
  simp [lvlen, hip, hia0, c0, ct]
  simp only [sl S8]
  rw [hbs]
  exact ru [gv x 3, gv x 4] (dr w7 1) rfl S8
end
def aku (b : Bal) : List Value := [.int .u64 b.n, .int .u64 b.jf]
theorem aoo (b : Bal) : (aku b).length = 2 := rfl
def qm (a : Bal) (l : List Bal) : Bal := l.foldl (fun a x => if a.qk x = true then x else a) a
section
variable {w0 w : World} {R : List Asn}
abbrev baB (b : Nat) (x : Bal) : Asn := ii b #[.int .u64 x.n, .int .u64 x.jf] T.c
theorem ais {b : Nat} {x y : Bal} (S : St w0 w (baB b x :: R)) {K : KV} (h : ∀ w', St w0 w' (baB b y :: R) → K undef w') : stT P T.c (.pointer (some ⟨b, 0, none⟩)) (ku y) w K := by
 unfold ku
 simp
 exact St.put (vs := [.int .u64 y.n, .int .u64 y.jf]) (cs' := #[.int .u64 y.n, .int .u64 y.jf]) S (by simp [kh]) (by simp) rfl h
theorem akr (S : St w0 w R) : St w0 (w.alloc (.cells #[.int .u64 0, .int .u64 0] T.c)) (baB w.heap.size ip :: R) := S.mkB #[.int .u64 0, .int .u64 0] T.c
def GrI (w0 : World) (a : Bal) (l : List Bal) (tb : Nat) (R : List Asn) : KL := fun x w1 => ∃ (i : Nat), x = [.int .i64 (i : Nat)] ∧ i ≤ l.length ∧ St w0 w1 (baB tb (qm a (l.take i)) :: R)
theorem avo (S : St w0 w R) {v : Value} {l : List Bal} (hs : ∀ w' L, St w0 w' (L ++ R) → Sl w' 2 aku v l) (hl : l.length ≤ 1000000) (a : Bal) {K : KV} (h : ∀ w', St w0 w' R → K (ku (qm a l)) w') : gi P F.ei [ku a, v] w K := by
 rw [M.cg.fcall]
 apply M.cg.calls
 unfold M.cg
 refine St.tz S fun tb w1 S1 => ?_
 have S1' : St w0 w1 (baB tb a :: R) := S1
 simp
 have S2 := akr S1'
 generalize w1.heap.size = rb at *
 generalize w1.alloc _ = w2 at *
 have hlen : ∀ w' K, biT P .len #[T.bb] T.b [false] [v] w' K = K (.int .i64 l.length) w' := fun w' K => (hs w2 [_, _] S2).iy (by kernel_rfl) [false]
 simp [hlen]
 refine ⟨GrI w0 a l tb (baB rb ip :: R), fun x _ => l.length - ms x 0, ⟨0, rfl, Nat.zero_le _, S2.swap⟩, ?_⟩
 rintro x w3 ⟨i, rfl, hi, S3⟩
 by_cases hil : i < l.length
 ·have hwi : IntKind.i64.wrap ((i : Int) + 1) = ((i + 1 : Nat) : Int) := by rw [ia]; rfl
  simp [hil]
  unfold M.cg.j2
  obtain ⟨ab, ao, cap, hv, _, _, hc⟩ := (hs w3 [_, _] S3).at hil
  have hia : ∀ w' K, iaT P T.bb v (.int .i64 (i : Nat)) w' K = K (.pointer (some ⟨ab, ao + i * 2, none⟩)) w' := fun w' K => by
   rw [hv, adr (by kernel_rfl) (by omega) (by omega), show szE P T.bb = 2 from by kernel_rfl]
   simp
  have hld : ∀ K, ldN P 2 ab (ao + i * 2) w3 K = K (ku l[i]) w3 := fun K => qy (aku l[i]) 2 rfl hc K
  have e : qm a (l.take (i + 1)) = if (qm a (l.take i)).qk l[i] = true then l[i] else qm a (l.take i) := by
   rw [List.take_add_one, List.getElem?_eq_getElem hil]
   unfold qm
   rw [List.foldl_append]
   rfl
  simp [hia, hld]
  have S4 := akr S3
  generalize w3.heap.size = qb at *
  generalize w3.alloc _ = w4 at *
  refine ais (y := l[i]) S4 fun w5 S5 => ?_
  obtain ⟨_, _, b1⟩ := qt S5
  obtain ⟨_, _, b2⟩ := qt S5.swap
  simp [b1, b2]
  refine bea _ _ fun w6 f6 => ?_
  have S6 := S5.jo f6
  obtain ⟨_, _, d1⟩ := qt S6
  simp
  rw [beo]
  have fin : ∀ w', St w0 w' (baB tb (qm a (l.take (i + 1))) :: baB rb ip :: R) → GrI w0 a l tb (baB rb ip :: R) [.int .i64 ((i + 1 : Nat) : Int)] w' ∧ l.length - ms [.int .i64 ((i + 1 : Nat) : Int)] 0 < l.length - ms [.int .i64 (i : Nat)] 0 := fun w' S' => ⟨⟨i + 1, rfl, by omega, S'⟩, by simp [ms, gv]; omega⟩
  cases hb : (qm a (l.take i)).qk l[i] with
  | true =>
   rw [hb] at e
   simp only [if_true] at e
   simp [d1]
   refine ais (y := l[i]) S6.swap fun w7 S7 => ?_
   rw [hwi]
   refine fin w7 ?_
   rw [e]
   exact S7.swap.drop
  | false =>
   rw [hb] at e
   simp only [Bool.false_eq_true, if_false] at e
   simp
   rw [hwi]
   refine fin w6 ?_
   rw [e]
   exact S6.drop
 ·have hie : i = l.length := by omega
  subst hie
  rw [List.take_length] at S3
  obtain ⟨_, _, b1⟩ := qt S3
  simp [b1]
  refine ais (y := qm a l) S3.swap fun w5 S5 => ?_
  obtain ⟨_, _, b2⟩ := qt S5
  have hres : ∀ w' K, pw P T.c (.pointer (some ⟨rb, 0, none⟩)) w' K = ldN P 2 rb 0 w' K := fun w' K => kr
  simp [hres, b2]
  exact h w5 S5.drop.drop
theorem bmt (S : St w0 w R) {v : Value} {l : List Bal} (hs : ∀ w' L, St w0 w' (L ++ R) → Sl w' 2 aku v l) (hl : l.length ≤ 1000000) {K : KV} (h : ∀ w', St w0 w' R → K (ku (qm ip l)) w') : gi P F.fc [v] w K := by
 rw [M.er.fcall]
 apply M.er.calls
 unfold M.er
 simp
 have S2 := akr S
 generalize w.heap.size = rb at *
 generalize w.alloc _ = w2 at *
 refine avo (a := ip) S2 (fun w' L S' => hs w' (L ++ [_]) (by simpa using S')) hl fun w3 S3 => ?_
 refine ais (y := qm ip l) S3 fun w5 S5 => ?_
 obtain ⟨_, _, b2⟩ := qt S5
 have hres : ∀ w' K, pw P T.c (.pointer (some ⟨rb, 0, none⟩)) w' K = ldN P 2 rb 0 w' K := fun w' K => kr
 simp [hres, b2]
 exact h w5 S5.drop
end
def tj (tr : Int) (v : Value) : Pk := ⟨10, tr, ip, ip, 0, false, ij, ij, v⟩
theorem bfl {tr : Int} {v : Value} (h : tx tr) : vu (tj tr v) := ⟨h, ⟨by show (0 : Int) ≤ 0 ∧ (0 : Int) < _; omega, by show (0 : Int) ≤ 0 ∧ (0 : Int) < _; omega⟩, ⟨by show (0 : Int) ≤ 0 ∧ (0 : Int) < _; omega, by show (0 : Int) ≤ 0 ∧ (0 : Int) < _; omega⟩⟩
theorem aah {w : World} {tr : Int} {v : Value} {l : List Int} (h : SlU w v l) : ∀ u ∈ pkC (tj tr v), kh u = true := by
 obtain ⟨_, _, e, _⟩ := h
 unfold tj pkC
 rw [e]
 exact ti (b := ip) (s := ip)
theorem amk {w : World} {tr : Int} {v : Value} {l : List Int} (hs : SlU w v l) (hlen : l.length ≤ 1000000) {K : KV} (h : ∀ w' v', SlU w' v' l → (∀ b, v'.ownBlock = some b → w.heap.size ≤ b) → Fz w w' → K (pkA ⟨10, tr, ip, ip, 0, false, ij, ij, v'⟩) w') : gi P F.ax [.iface T.n (.agg #[.int .u64 tr, v])] w K := by
 rw [M.n.fcall]
 apply M.n.calls
 unfold M.n
 obtain ⟨a, c, hv, _⟩ := id hs
 rw [hv]
 simp [aac, yw, adb, aad, abc, wo]
 have S0 := afc w
 have z0 : (w.alloc (.cells #[.int .i64 0, .int .u64 0, .int .u64 0, .int .u64 0, .int .u64 0, .int .u64 0, .int .i64 0, .bool false, .slice none 0 0, .slice none 0 0, .slice none 0 0] T.a)).heap.size = w.heap.size + 1 := ju _ _
 generalize w.alloc (.cells #[.int .i64 0, .int .u64 0, .int .u64 0, .int .u64 0, .int .u64 0, .int .u64 0, .int .i64 0, .bool false, .slice none 0 0, .slice none 0 0, .slice none 0 0] T.a) = w1 at *
 have S1 := ach S0 #[.int .u64 0, .slice none 0 0] T.n
 rw [z0] at S1
 generalize w.heap.size = pb at *
 generalize pb + 1 = ob at *
 refine ke (vs := [Value.int .u64 tr, .slice a l.length c]) S1.blk rfl (by simp [kh]) fun w2 b2 f2 => ?_
 have S2 := S1.nb f2 b2
 have thC : ∀ {W : World} {R : List Asn}, St w W (ii ob [Value.int .u64 tr, .slice a l.length c].toArray T.n :: R) → gr W ob 0 = some (.int .u64 tr) ∧ gr W ob 1 = some (.slice a l.length c) := fun {W R} S' => by
  have hh := S'.blk
  exact ⟨by rw [gt hh]; rfl, by rw [gt hh]; rfl⟩
 have hpl : pb < w2.heap.size := (Array.getElem?_eq_some_iff.1 S2.swap.blk).1
 have fd : Fz w2 (dr w2 1) := (Fr.refl _ w2).dr 1
 have Sd := S2.jo fd
 obtain ⟨c0, c1⟩ := thC S2
 obtain ⟨e0, e1⟩ := thC Sd
 simp [c0, c1, e0, e1]
 rw [← hv]
 refine ahd ((hs.fr Sd.fr fun _ _ _ h => h)) hlen fun w3 v3 s3 n3 f3 => ?_
 obtain ⟨a3, c3, hv3, _⟩ := id s3
 have S3 := Sd.jo f3
 obtain ⟨g0, g1⟩ := thC S3
 have hnn : ∀ b, v3.ownBlock = some b → b ≠ pb := fun b hb => by
  have := n3 b hb
  have := fd.size
  omega
 have hge : ∀ b, v3.ownBlock = some b → pb ≤ b := fun b hb => by
  have := n3 b hb
  have := fd.size
  omega
 rw [hv3] at s3 hnn hge ⊢
 simp [g0, g1]
 refine ke (vs := pkC ⟨10, tr, ip, ip, 0, false, ij, ij, .slice a3 l.length c3⟩) S3.swap.blk rfl ti fun w4 b4 f4 => ?_
 have S4 := S3.swap.nb f4 b4
 have s4 : SlU w4 (.slice a3 l.length c3) l := s3.fr f4 fun b hb _ => hnn b hb
 rw [xl S4]
 have e : pkA ⟨10, tr, ip, ip, 0, false, ij, ij, .slice a3 l.length c3⟩ = .agg #[.int .i64 10, .int .u64 tr, .int .u64 0, .int .u64 0, .int .u64 0, .int .u64 0, .int .i64 0, .bool false, .slice none 0 0, .slice none 0 0, .slice a3 l.length c3] := rfl
 rw [e]
 simp
 refine ke (vs := pkC ⟨10, tr, ip, ip, 0, false, ij, ij, .slice a3 l.length c3⟩) S4.blk rfl ti fun w5 b5 f5 => ?_
 have S5 := S4.nb f5 b5
 rw [zn S5]
 exact ⟨rfl, h w5 _ (s4.fr f5 fun b hb _ => hnn b hb) hge S5.fr⟩
theorem awa {w : World} {tr : Int} {v : Value} {l : List Int} (hs : SlU w v l) (hl : l.length ≤ 1000000) (ht : tx tr) (hr : ∀ v', sn (tj tr v') [] [] l = true) {K : KV}
  (h : ∀ w' v', SlU w' v' l → (∀ b, v'.ownBlock = some b → w.heap.size ≤ b) → Fz w w' → K (.tuple #[pkA (tj tr v'), .int .i64 0]) w') : gi P F.en [.iface T.n (.agg #[.int .u64 tr, v])] w K := by
 rw [M.dw.fcall]
 apply M.dw.calls
 unfold M.dw
 simp
 have S1 := abx (St.jp w)
 generalize w.heap.size = tb at *
 generalize w.alloc _ = w1 at *
 have htb : tb < w1.heap.size := (Array.getElem?_eq_some_iff.1 S1.blk).1
 refine amk (hs.fr S1.fr fun _ _ _ h => h) hl fun w2 v2 s2 o2 f2 => ?_
 have S2 := S1.jo f2
 have S3 := abx (St.jp w2)
 generalize w2.heap.size = rb at *
 generalize w2.alloc _ = w3 at *
 have hst : ∀ b w' K, stT P T.a (.pointer (some ⟨b, 0, none⟩)) (pkA (tj tr v2)) w' K = stN P b 0 (pkC (tj tr v2)) w' K := fun b w' K => acs _ _ _ _
 show stT P T.a (.pointer (some ⟨rb, 0, none⟩)) (pkA (tj tr v2)) w3 _
 rw [hst]
 refine afi (q := tj tr v2) S3 rfl (aah s2) fun w4 S4 => ?_
 have s4 := s2.fr S4.fr fun _ _ _ h => h
 have pl := fun K => wj S4 K
 simp [pl]
 refine ahf ⟨Sl.nil, Sl.nil, s4, by simp, by simp, hl⟩ (bfl ht) fun w5 f5 => ?_
 have er : aap (tj tr v2) [] [] l = 0 := by unfold aap; rw [hr]; rfl
 rw [er]
 have S5 := S4.jo f5
 have s5 := s4.fr f5 fun _ _ _ h => h
 have pl5 := fun K => wj S5 K
 simp [pl5]
 rw [hst]
 have S6 : St w w5 (ii tb (pkC pkZ).toArray T.a :: []) := S2.jo S5.fr
 refine ke (vs := pkC (tj tr v2)) S6.blk rfl (aah s5) fun w6 b6 f6 => ?_
 have S7 := S6.nb f6 b6
 have s6 : SlU w6 v2 l := s5.fr f6 fun b hb _ => by
  have := o2 b hb
  omega
 rw [zn S7]
 exact ⟨rfl, h w6 v2 s6 (fun b hb => Nat.le_trans (Nat.le_of_lt htb) (o2 b hb)) S7.fr⟩
section
variable {w0 w : World} {R : List Asn} {q hb p r : Nat} {L : Lg} {dn : Bool} {D : Dk} {G : Nat} {s f : Int} {lv : Value} {l : List Spn} {b : Bal}
abbrev ko (q hb p r : Nat) (dn : Bool) : Asn := ii q (akb hb p r dn) T.aj
theorem tc (S : St w0 w (ko q hb p r dn :: R)) : gr w q 0 = some (.pointer (some ⟨hb, 0, none⟩)) ∧ gr w q 1 = some (jx p) ∧ gr w q 2 = some (.map (some r)) ∧ gr w q 3 = some (.bool dn) :=
 ⟨by rw [S.cell]; rfl, by rw [S.cell]; rfl, by rw [S.cell]; rfl, by rw [S.cell]; rfl⟩
theorem awu {k : Int} {x1 : List Value} (S : St w0 w (ko q hb p r dn :: R)) (hx : gv x1 0 = .int .i64 k) {K : KV} (h : ∀ w', St w0 w' (ko q hb p r (dn || decide (k = 10)) :: R) → K (.int .i64 k) w') : M.ac.j1 (jx q) x1 w K := by
 obtain ⟨_, _, _, c3⟩ := tc S
 unfold M.ac.j1 jx
 rw [hx]
 cases dn with
 | true =>
  simp [c3]
  exact S.uy rfl (by simp [akb]) fun w' S' => h w' S'
 | false =>
  by_cases hk : k = 10
  ·subst hk
   simp [c3]
   exact S.uy rfl (by simp [akb]) fun w' S' => h w' S'
  ·simp [c3, hk]
   refine S.uy rfl (by simp [akb]) fun w' S' => h w' ?_
   simp only [hk, decide_false, Bool.false_or]
   exact S'
theorem ayt (S : St w0 w R) (hs : SlS w lv []) {a0 : Value} {K : KV} (h : ∀ w', St w0 w' R → K (.int .i64 0) w') : gi P F.bu [a0, ku b, lv] w K := by
 rw [M.ac.fcall]
 apply M.ac.calls
 unfold M.ac
 refine St.tz S fun bb w1 S1 => ?_
 have hlen : ∀ w' K, biT P .len #[T.d] T.b [false] [lv] w' K = K (.int .i64 0) w' := fun w' K => hs.iy (by kernel_rfl) [false]
 simp [hlen]
 exact h w1 S1.drop
theorem bbe (S : St w0 w (ko q hb p r dn :: mi p hb L :: il hb D :: R)) (hs : ∀ w' L', St w0 w' (L' ++ R) → SlS w' lv l) (hne : l ≠ []) (hr : ∀ s ∈ l, ll s = 0) (hl : l.length ≤ 60) (hg : ri s f L G D) (hn : f + (jm L.gy).length + 1 ≤ 1000000000000) {K : KV}
  (h : ∀ w', St w0 w' (ko q hb p r (dn || decide ((wrF L D [nc b l]).2 = 10)) :: mi p hb (wrF L D [nc b l]).1.1 :: il hb (wrF L D [nc b l]).1.2 :: R) → K (.int .i64 (wrF L D [nc b l]).2) w') : gi P F.bu [jx q, ku b, lv] w K := by
 rw [M.ac.fcall]
 apply M.ac.calls
 unfold M.ac
 refine St.tz S fun bb w1 S1 => ?_
 have S1' : St w0 w1 (ii bb #[.int .u64 b.n, .int .u64 b.jf] T.c :: ko q hb p r dn :: mi p hb L :: il hb D :: R) := S1
 have hlen : ∀ w' K, biT P .len #[T.d] T.b [false] [lv] w' K = K (.int .i64 l.length) w' := fun w' K => (hs w1 [_, _, _, _] S1').iy (by kernel_rfl) [false]
 have hz : ¬ (l.length : Int) = 0 := fun hz => hne (List.eq_nil_of_length_eq_zero (by omega))
 simp [hlen, hne]
 unfold M.ac.j0 jx
 have S2 := S1'.jo ((Fr.refl _ w1).dr 1)
 obtain ⟨_, c1, _, _⟩ := tc S2.swap
 obtain ⟨_, _, bl⟩ := qt S2
 simp [c1, bl]
 refine bfj S2 b (fun w' L' S' => hs w' (L' ++ [_, _, _, _]) (by simpa using S')) hr (by omega) fun w3 v3 S3 => ?_
 obtain ⟨_, d1, _, _⟩ := tc S3.up2
 simp [d1]
 have hrec : (nc b l).length ≤ 8192 := by
  have := aau hr
  unfold nc
  rw [List.length_append, List.length_append, lx, lx]
  omega
 have S4 : St w0 w3 (mi p hb L :: il hb D :: ko q hb p r dn :: ki v3 (nc b l) :: ii bb #[.int .u64 b.n, .int .u64 b.jf] T.c :: R) := (S3.up4.up4).tail (.cons _ (List.perm_middle (l₁ := [_, _])))
 refine azb (av := v3) (rec := nc b l) S4 (blx S4.swap hg) (by omega) (fun w' L' S' => ?_) fun w5 S5 => ?_
 ·have S6 : St w0 w' ((L' ++ [ko q hb p r dn]) ++ (ki v3 (nc b l) :: ii bb #[.int .u64 b.n, .int .u64 b.jf] T.c :: R)) := by simpa using S'
  exact (S6.perm List.perm_middle).row jr
 have ha := big (b := nc b l) hg hn
 by_cases h0 : (L.append D (nc b l)).2 = 0
 ·rw [arh h0] at h
  have e0 : ∀ Li Di, wrF Li Di [] = ((Li, (Li.nl Di).1), (Li.nl Di).2) := fun Li Di => by unfold wrF ss; simp
  rw [e0] at h
  generalize L.append D (nc b l) = z at *
  cases ha with
  | amh => simp at h0
  | vk => simp at h0
  | je => simp at h0
  | ok L' D' g' e1 =>
   obtain ⟨_, f1, _, _⟩ := tc S5.up2
   simp [f1]
   refine aua S5 (by have := g'.vir.len; show L'.gy.length ≤ 1000000; omega) fun w6 S6 => ?_
   exact awu S6.up2 rfl fun w7 S7 => h w7 (S7.up3.drop.up3.drop)
 ·rw [bet h0] at h
  simp [h0]
  exact awu S5.up2 rfl fun w7 S7 => h w7 (S7.up3.drop.up3.drop)
end
def abd (x y : Spn) : Int := orK [su x.jp y.jp, su x.id y.id]
theorem bbi {w : World} (x y : Spn) {K : KV} (h : ∀ w', Fz w w' → K (.int .i64 (abd x y)) w') : gi P F.dy [km x, km y] w K := by
 rw [M.es.fcall]
 apply M.es.calls
 unfold M.es
 refine St.tz (St.jp w) fun b1 w1 S1 => ?_
 refine St.tz S1 fun b2 w2 S2 => ?_
 have S3 : St w (dr w2 1) (spB b2 y :: spB b1 x :: []) := S2.jo ((Fr.refl _ w2).dr 1)
 have x3 : gr (dr w2 1) b1 3 = some (.int .u64 x.jp) := by rw [S3.swap.cell]; rfl
 have x1 : gr (dr w2 1) b1 1 = some (.int .u64 x.id) := by rw [S3.swap.cell]; rfl
 have y3 : gr (dr w2 1) b2 3 = some (.int .u64 y.jp) := by rw [S3.cell]; rfl
 have y1 : gr (dr w2 1) b2 1 = some (.int .u64 y.id) := by rw [S3.cell]; rfl
 simp [x3, x1, y3, y1]
 refine aak _ _ ?_
 simp [x3, x1, y3, y1]
 refine aak _ _ ?_
 simp
 have S4 := S3.mkB #[.int .i64 (su x.jp y.jp), .int .i64 (su x.id y.id)] T.b
 rw [show (dr w2 1).heap.size = w2.heap.size from rfl] at S4
 have hsl : Sl ((dr w2 1).alloc (.cells #[.int .i64 (su x.jp y.jp), .int .i64 (su x.id y.id)] T.b)) 1 yu (.slice (some ⟨w2.heap.size, 0, none⟩) 2 2) [su x.jp y.jp, su x.id y.id] := by
  have hh := S4.blk
  refine ⟨some ⟨w2.heap.size, 0, none⟩, 2, rfl, by simp, by simp [maxLen], fun i z hz => ⟨w2.heap.size, 0, rfl, ph hh, fun j u hj => ?_⟩⟩
  rw [gt hh]
  match i, j with
  | 0, 0 => simp [yu] at hz hj ⊢; rw [hz]; exact hj
  | 1, 0 => simp [yu] at hz hj ⊢; rw [hz]; exact hj
  | i + 2, _ => simp at hz
  | _, j + 1 => simp [yu] at hj
 rw [M.di.fcall]
 exact bdp hsl (by simp) (h _ S4.fr)
def anw (w0 : World) (R : List Asn) (fv : Value) (pf : Spn → Bool) : Prop := ∀ w' L x (K : KV), St w0 w' (L ++ R) → (∀ w'', Fz w' w'' → K (.bool (pf x)) w'') → nf P fv [km x] w' K
section
variable {w0 w : World} {R : List Asn} {v fv : Value} {l : List Spn} {pf : Spn → Bool}
def bpi (w0 : World) (l : List Spn) (pf : Spn → Bool) (R : List Asn) : KL := fun x w1 => ∃ (i : Nat), gv x 2 = .int .i64 (i : Nat) ∧ i ≤ l.length ∧ (∀ j (h : j < l.length), j < i → pf l[j] = false) ∧ St w0 w1 R
theorem bef (S : St w0 w R) (hs : ∀ w' L, St w0 w' (L ++ R) → SlS w' v l) (hf : anw w0 R fv pf) (hl : l.length ≤ 1000000) {K : KV}
  (hno : (∀ x ∈ l, pf x = false) → ∀ w', St w0 w' R → K (.int .i64 (-1)) w')
  (hyes : ∀ i (hi : i < l.length), pf l[i] = true → (∀ j (h : j < l.length), j < i → pf l[j] = false) → ∀ w', St w0 w' R → K (.int .i64 (i : Nat)) w') : gi P F.bd [v, fv] w K := by
 rw [M.u.fcall]
 apply M.u.calls
 unfold M.u
 have hlen : ∀ w' K, biT P .len #[T.d] T.b [false] [v] w' K = K (.int .i64 l.length) w' := fun w' K => (hs w [] S).iy (by kernel_rfl) [false]
 simp [hlen]
 refine ⟨bpi w0 l pf R, fun x _ => l.length - ms x 2, ⟨0, rfl, Nat.zero_le _, fun j _ h => by omega, S⟩, ?_⟩
 rintro x w1 ⟨i, e2, hi, hpre, S1⟩
 rw [e2]
 by_cases hil : i < l.length
 ·have hwi : IntKind.i64.wrap ((i : Int) + 1) = ((i + 1 : Nat) : Int) := by rw [ia]; rfl
  simp [hil]
  unfold M.u.j2
  rw [e2]
  obtain ⟨ab, ao, cap, hv, _, _, hc⟩ := (hs w1 [] S1).at hil
  have hia : ∀ w' K, iaT P T.d v (.int .i64 (i : Nat)) w' K = K (.pointer (some ⟨ab, ao + i * 8, none⟩)) w' := fun w' K => by rw [hv]; simp [hil]
  have hld : ∀ K, ldN P 8 ab (ao + i * 8) w1 K = K (km l[i]) w1 := fun K => qy (ir l[i]) 8 rfl hc K
  simp [hia, hld]
  refine hf w1 [] l[i] _ S1 fun w2 f2 => ?_
  have S2 := S1.jo f2
  cases hp : pf l[i] with
  | true =>
   simp
   exact hyes i hil hp hpre w2 S2
  | false =>
   simp
   rw [hwi]
   refine ⟨⟨i + 1, rfl, by omega, fun j h hj => ?_, S2⟩, ?_⟩
   ·by_cases hji : j = i
    ·subst hji; exact hp
    ·exact hpre j h (by omega)
   ·have : ms x 2 = i := by unfold ms; rw [e2]; simp
    rw [this]
    simp [ms, gv]; omega
 ·have hie : i = l.length := by omega
  subst hie
  simp
  refine hno (fun y hy => ?_) w1 S1
  obtain ⟨j, hj, rfl⟩ := List.getElem_of_mem hy
  exact hpre j hj hj
end
open Go.Eng
def leS (x y : Spn) : Prop := x.jp < y.jp ∨ (x.jp = y.jp ∧ x.id ≤ y.id)
theorem yz {x y : Spn} : abd x y < 0 ↔ ¬ leS y x := by
 unfold abd orK su leS
 by_cases h1 : x.jp < y.jp
 ·have h2 : ¬ y.jp < x.jp := by omega
  simp [h1, h2]
  omega
 ·by_cases h2 : y.jp < x.jp
  ·simp [h1, h2]
  ·have h3 : y.jp = x.jp := by omega
   by_cases h4 : x.id < y.id
   ·simp [h3, h4]
   ·by_cases h5 : y.id < x.id
    ·simp [h3, h4, h5] <;> omega
    ·simp [h3, h4, h5] <;> omega
theorem leS.refl (x : Spn) : leS x x := .inr ⟨rfl, Int.le_refl _⟩
theorem leS.trans {x y z : Spn} (h : leS x y) (h' : leS y z) : leS x z := by unfold leS at *; omega
theorem leS.of {x y : Spn} (h : ¬ leS y x) : leS x y := by unfold leS at *; omega
abbrev ot (l : List Spn) : Prop := l.Pairwise leS
theorem ot.le {l : List Spn} (h : ot l) {i j : Nat} (hij : i ≤ j) (hj : j < l.length) : leS (l[i]'(by omega)) l[j] := by
 by_cases he : i = j
 ·subst he; exact leS.refl _
 ·exact List.pairwise_iff_getElem.1 h i j (by omega) hj (by omega)
theorem aoh {l l' : List Spn} (hp : l.Perm l') (h1 : ot l) (h2 : ot l') (hn : ∀ x ∈ l, ∀ y ∈ l, x.id = y.id → x = y) : l = l' :=
 List.Perm.eq_of_pairwise (fun a b ha hb h1 h2 => hn a ha b (hp.mem_iff.2 hb) (by unfold leS at h1 h2; omega)) h1 h2 hp
theorem alk {A B : List Spn} (hA : ot A) (hB : ot B) {s t : Nat} (hs : s ≤ A.length) (h : s = 0 ∨ t = B.length ∨ ∃ (h1 : s - 1 < A.length) (h2 : t < B.length), leS A[s - 1] B[t]) : ∀ x ∈ A.take s, ∀ y ∈ B.drop t, leS x y := by
 intro x hx y hy
 obtain ⟨i, hi, rfl⟩ := List.mem_iff_getElem.1 hx
 obtain ⟨j, hj, rfl⟩ := List.mem_iff_getElem.1 hy
 simp only [List.length_take, List.length_drop] at hi hj
 rw [List.getElem_take, List.getElem_drop]
 rcases h with h | h | ⟨h1, h2, h3⟩
 ·omega
 ·omega
 ·exact ((hA.le (i := i) (j := s - 1) (by omega) h1).trans h3).trans (hB.le (i := t) (j := t + j) (by omega) (by omega))
theorem ajo {A B C1 C2 : List Spn} (hA : ot A) (hB : ot B) {s t : Nat} (hs : s ≤ A.length) (ht : t ≤ B.length)
  (h1 : s = 0 ∨ t = B.length ∨ ∃ (h1 : s - 1 < A.length) (h2 : t < B.length), leS A[s - 1] B[t])
  (h2 : t = 0 ∨ s = A.length ∨ ∃ (h1 : t - 1 < B.length) (h2 : s < A.length), leS B[t - 1] A[s])
  (c1 : ot C1) (p1 : C1.Perm (A.take s ++ B.take t)) (c2 : ot C2) (p2 : C2.Perm (A.drop s ++ B.drop t)) : ot (C1 ++ C2) ∧ (C1 ++ C2).Perm (A ++ B) := by
 have k1 := alk hA hB hs h1
 have k2 := alk hB hA ht h2
 refine ⟨List.pairwise_append.2 ⟨c1, c2, fun x hx y hy => ?_⟩, ?_⟩
 ·have hx' := List.mem_append.1 (p1.mem_iff.1 hx)
  have hy' := List.mem_append.1 (p2.mem_iff.1 hy)
  have dA : A = A.take s ++ A.drop s := (List.take_append_drop s A).symm
  have dB : B = B.take t ++ B.drop t := (List.take_append_drop t B).symm
  rw [dA] at hA
  rw [dB] at hB
  rcases hx' with hx' | hx' <;> rcases hy' with hy' | hy'
  ·exact (List.pairwise_append.1 hA).2.2 x hx' y hy'
  ·exact k1 x hx' y hy'
  ·exact k2 x hx' y hy'
  ·exact (List.pairwise_append.1 hB).2.2 x hx' y hy'
 ·refine (p1.append p2).trans ?_
  have e : (A.take s ++ B.take t ++ (A.drop s ++ B.drop t)).Perm (A.take s ++ A.drop s ++ (B.take t ++ B.drop t)) := by
   simp only [List.append_assoc]
   refine List.Perm.append_left _ ?_
   rw [← List.append_assoc, ← List.append_assoc]
   exact List.Perm.append_right _ List.perm_append_comm
  rwa [List.take_append_drop, List.take_append_drop] at e
theorem atp {B : List Spn} {x : Spn} {i : Nat} (hB : ot B) (hi : i ≤ B.length) (h1 : i = 0 ∨ ∃ h : i - 1 < B.length, leS B[i - 1] x) (h2 : i = B.length ∨ ∃ h : i < B.length, leS x B[i]) : ot (B.take i ++ x :: B.drop i) := by
 have h := ajo (A := B) (B := [x]) (C1 := B.take i) (C2 := x :: B.drop i) (s := i) (t := 0) hB (by simp) hi (by simp) (by
  rcases h1 with h | ⟨h, hl⟩
  ·exact .inl h
  ·exact .inr (.inr ⟨h, by simp, by simpa using hl⟩)) (.inl rfl) (hB.sublist (List.take_sublist _ _)) (by simp) ?_ (by simpa using (List.perm_append_comm (l₁ := [x]) (l₂ := B.drop i)))
 ·exact h.1
 ·refine List.pairwise_cons.2 ⟨fun y hy => ?_, hB.sublist (List.drop_sublist _ _)⟩
  obtain ⟨j, hj, rfl⟩ := List.mem_iff_getElem.1 hy
  simp only [List.length_drop] at hj
  rw [List.getElem_drop]
  rcases h2 with h | ⟨h, hl⟩
  ·omega
  ·exact hl.trans (hB.le (i := i) (j := i + j) (by omega) (by omega))
theorem arc (B : List Spn) (x : Spn) (i : Nat) : (B.take i ++ x :: B.drop i).Perm (x :: B) := by
 have := List.perm_middle (l₁ := B.take i) (a := x) (l₂ := B.drop i)
 rwa [List.take_append_drop] at this
def azj (l : List Spn) (i j : Nat) (hi : i < l.length) (hj : j < l.length) : List Spn := (l.set i l[j]).set j l[i]
theorem axs (P Q R : List Spn) (x y : Spn) {l : List Spn} {i j : Nat} (hl : l = P ++ x :: (Q ++ y :: R)) (hi : i = P.length) (hj : j = P.length + 1 + Q.length) (h1 : i < l.length) (h2 : j < l.length) : azj l i j h1 h2 = P ++ y :: (Q ++ x :: R) := by
 subst hl hi hj
 have e1 : (P ++ x :: (Q ++ y :: R))[P.length]'h1 = x := by simp
 have e2 : (P ++ x :: (Q ++ y :: R))[P.length + 1 + Q.length]'h2 = y := by
  rw [List.getElem_append_right (by omega)]
  have : P.length + 1 + Q.length - P.length = Q.length + 1 := by omega
  simp [this]
 unfold azj
 rw [e1, e2]
 have : (P ++ x :: (Q ++ y :: R)).set P.length y = P ++ y :: (Q ++ y :: R) := by simp
 rw [this]
 rw [List.set_append_right _ _ (by omega)]
 have : P.length + 1 + Q.length - P.length = Q.length + 1 := by omega
 rw [this]
 simp
abbrev EnS := Bal × Spn
def isE (t : Int) (e : EnS) : Bool := decide (e.2.iw = t)
def rt (es : List EnS) (x : Spn) : Bool := es.any fun e => decide (e.2.iw = x.iw) && decide (e.2.id = x.id)
def mh (b : Bal) (es : List EnS) (x : Spn) : List EnS := if rt es x = true then es else es ++ [(b, x)]
def qh (es : List EnS) (t : Int) : List Spn := (es.filter (isE t)).map (·.2)
def aig (es : List EnS) (t : Int) : List Bal := (es.filter (isE t)).map (·.1)
def bOf (es : List EnS) (t : Int) : Bal := qm ip (aig es t)
def zp (l : List Int) (t : Int) : List Int := if t ∈ l then l else l ++ [t]
def nt (es : List EnS) : List Int := es.foldl (fun l e => zp l e.2.iw) []
theorem avb (es : List EnS) (e : EnS) : nt (es ++ [e]) = zp (nt es) e.2.iw := by unfold nt; rw [List.foldl_append]; rfl
theorem bfs {l : List Int} {t x : Int} : x ∈ zp l t ↔ x ∈ l ∨ x = t := by
 unfold zp
 split
 ·exact ⟨.inl, fun h => h.elim id fun h => by rw [h]; assumption⟩
 ·simp
theorem bat {l : List Int} (h : l.Nodup) (t : Int) : (zp l t).Nodup := by
 unfold zp
 split
 ·exact h
 ·rename_i hn
  rw [List.nodup_append]
  exact ⟨h, by simp, fun a ha b hb => by simp at hb; subst hb; exact fun e => hn (e ▸ ha)⟩
theorem aei {es : List EnS} {t : Int} : t ∈ nt es ↔ ∃ e ∈ es, e.2.iw = t := by
 have h : ∀ (es : List EnS) (l : List Int), t ∈ es.foldl (fun l e => zp l e.2.iw) l ↔ t ∈ l ∨ ∃ e ∈ es, e.2.iw = t := by
  intro es
  induction es with
  | nil => simp
  | cons a r ih =>
   intro l
   rw [List.foldl_cons, ih, bfs]
   simp only [List.mem_cons, exists_eq_or_imp, or_assoc]
   rw [show (t = a.2.iw) = (a.2.iw = t) from propext ⟨Eq.symm, Eq.symm⟩]
 have := h es []
 simpa [nt] using this
theorem zf (es : List EnS) : (nt es).Nodup := by
 have h : ∀ (es : List EnS) (l : List Int), l.Nodup → (es.foldl (fun l e => zp l e.2.iw) l).Nodup := by
  intro es
  induction es with
  | nil => exact fun l h => h
  | cons a r ih => exact fun l h => ih _ (bat h _)
 exact h es [] (by simp)
theorem ajy (es : List EnS) (b : Bal) (x : Spn) (t : Int) : qh (es ++ [(b, x)]) t = if x.iw = t then qh es t ++ [x] else qh es t := by
 unfold qh
 rw [List.filter_append, List.map_append]
 split <;> rename_i h <;> simp [isE, h]
theorem ate (es : List EnS) (b : Bal) (x : Spn) (t : Int) : aig (es ++ [(b, x)]) t = if x.iw = t then aig es t ++ [b] else aig es t := by
 unfold aig
 rw [List.filter_append, List.map_append]
 split <;> rename_i h <;> simp [isE, h]
theorem bda (a : Bal) (l : List Bal) (b : Bal) : qm a (l ++ [b]) = if (qm a l).qk b = true then b else qm a l := by unfold qm; rw [List.foldl_append]; rfl
theorem bjf {l : List Bal} (h : ∀ b ∈ l, b.rng) : ∀ {a : Bal}, a.rng → (qm a l).rng := by
 induction l with
 | nil => exact fun h => h
 | cons x r ih =>
  intro a ha
  show (qm (if a.qk x = true then x else a) r).rng
  refine ih (fun b hb => h b (List.mem_cons_of_mem _ hb)) ?_
  split
  ·exact h x (by simp)
  ·exact ha
theorem bpr : ip.rng := by unfold Bal.rng ip tx; simp
theorem bky {a b : Bal} (ha : a.rng) : qm ip [a, b] = if a.qk b = true then b else a := by
 have h : (if ip.qk a = true then a else ip) = a := by
  by_cases hl : ip.qk a = true
  ·rw [if_pos hl]
  ·rw [if_neg hl]
   have h1 := ha
   obtain ⟨n, d⟩ := a
   unfold Bal.rng tx at h1
   unfold Bal.qk ip at hl
   simp at hl h1
   unfold ip
   congr 1 <;> omega
 show (if (if ip.qk a = true then a else ip).qk b = true then b else (if ip.qk a = true then a else ip)) = _
 rw [h]
theorem aqs {es : List EnS} (hr : ∀ e ∈ es, e.1.rng) (b : Bal) (x : Spn) : bOf (es ++ [(b, x)]) x.iw = qm ip [bOf es x.iw, b] := by
 have h1 : (bOf es x.iw).rng := bjf (fun y hy => by
  unfold aig at hy
  obtain ⟨e, he, rfl⟩ := List.mem_map.1 hy
  exact hr e (List.mem_filter.1 he).1) bpr
 rw [bky h1]
 unfold bOf
 rw [ate, if_pos rfl, bda]
theorem bcz {es : List EnS} (b : Bal) (x : Spn) {t : Int} (h : x.iw ≠ t) : bOf (es ++ [(b, x)]) t = bOf es t := by
 unfold bOf
 rw [ate, if_neg h]
theorem axa {es : List EnS} {t : Int} {x : Spn} : x ∈ qh es t ↔ ∃ b, (b, x) ∈ es ∧ x.iw = t := by
 unfold qh
 constructor
 ·intro h
  obtain ⟨e, he, rfl⟩ := List.mem_map.1 h
  have := List.mem_filter.1 he
  exact ⟨e.1, this.1, by simpa [isE] using this.2⟩
 ·rintro ⟨b, h, ht⟩
  exact List.mem_map.2 ⟨(b, x), List.mem_filter.2 ⟨h, by simpa [isE] using ht⟩, rfl⟩
theorem afz {es : List EnS} {t : Int} (h : t ∉ nt es) : qh es t = [] := by
 rw [List.eq_nil_iff_forall_not_mem]
 intro x hx
 obtain ⟨b, hb, ht⟩ := axa.1 hx
 exact h (aei.2 ⟨_, hb, ht⟩)
theorem asc {es : List EnS} {t : Int} (h : t ∉ nt es) : aig es t = [] := by
 unfold aig
 rw [List.map_eq_nil_iff, List.filter_eq_nil_iff]
 intro e he hi
 exact h (aei.2 ⟨e, he, by simpa [isE] using hi⟩)
def pp (l : List Spn) : MP := l.map fun s => (s.id, km s)
theorem avc {α : Type} (f : α → Int) (g : α → Value) (l : List α) (k : Int) : ly (l.map fun s => (f s, g s)) k = (l.find? fun s => decide (f s = k)).map g := by
 induction l with
 | nil => rfl
 | cons a r ih =>
  show (if f a = k then some (g a) else ly (r.map fun s => (f s, g s)) k) = _
  rw [List.find?_cons]
  by_cases h : f a = k
  ·simp [h]
  ·rw [if_neg h, ih]; simp [h]
theorem ary {m : MP} {k : Int} {v : Value} (h : ly m k = none) : sw m k v = m ++ [(k, v)] := by
 induction m with
 | nil => rfl
 | cons a r ih =>
  obtain ⟨y, u⟩ := a
  have h' : (if y = k then some u else ly r k) = none := h
  by_cases hy : y = k
  ·rw [if_pos hy] at h'; cases h'
  ·rw [if_neg hy] at h'
   show (if y = k then (k, v) :: r else (y, u) :: sw r k v) = _
   rw [if_neg hy, ih h']
   rfl
theorem anq {es : List EnS} {x : Spn} : rt es x = (qh es x.iw).any fun s => decide (s.id = x.id) := by
 unfold rt qh
 rw [List.any_map, List.any_filter]
 rfl
theorem asy (es : List EnS) (x : Spn) : (ly (pp (qh es x.iw)) x.id).isSome = rt es x := by
 unfold pp
 rw [avc (fun s : Spn => s.id) km, anq, Option.isSome_map, Bool.eq_iff_iff, List.find?_isSome, List.any_eq_true]
abbrev WrM := Bal × List Spn
structure okM (m : WrM) : Prop where
 b : m.1.rng
 ne : m.2 ≠ []
 ok : ∀ s ∈ m.2, ll s = 0 ∧ wg s
 tr : ∀ s ∈ m.2, ∀ s' ∈ m.2, s.iw = s'.iw
 len : m.2.length ≤ 16
def ql (m : WrM) : List Int := nc m.1 m.2
def afd (es : List EnS) (m : WrM) : List EnS := m.2.foldl (mh m.1) es
def jv (ms : List WrM) : List EnS := ms.foldl afd []
theorem apa (ms : List WrM) (m : WrM) : jv (ms ++ [m]) = afd (jv ms) m := by unfold jv; rw [List.foldl_append]; rfl
theorem asj {m : WrM} (h : okM m) : (ql m).length ≤ 1728 := by
 have h1 := aau fun s hs => (h.ok s hs).1
 have h2 := h.len
 unfold ql nc
 rw [List.length_append, List.length_append, lx, lx]
 omega
structure SI (s f : Int) (L : Lg) (D : Dk) (ms : List WrM) : Prop where
 abj : ri s f L ms.length D
 iu : jm L.gy = ms.map ql
 ok : ∀ m ∈ ms, okM m
theorem SI.len {s f : Int} {L : Lg} {D : Dk} {ms : List WrM} (h : SI s f L D ms) : (jm L.gy).length = ms.length := by rw [h.iu, List.length_map]
inductive apx (s f ik B : Int) (arm : Bool) (jb : Int) (ms : List WrM) (m : WrM) : Int → List WrM → Bool → Lg → Dk → Prop
 | ok (L : Lg) (D : Dk) : SI s f L D (ms ++ [m]) → L.ik = ik → f + (jm L.gy).length ≤ B → (arm = false → D.jt = false) → D.jb = jb → apx s f ik B arm jb ms m 0 (ms ++ [m]) false L D
 | vk (L : Lg) (D : Dk) : SI s f L D ms → L.ik = ik → f + (jm L.gy).length ≤ B → (arm = false → D.jt = false) → D.jb = jb → apx s f ik B arm jb ms m 9 ms false L D
 | je (L : Lg) (D : Dk) (Q : List Prt) (X : List WrM) : arm = true → D.je = true → Vir s f Q ms.length D False → jm Q = X.map ql → (X = ms ∨ X = ms ++ [m]) → f + (jm Q).length ≤ B → D.jb = jb → L.ik = ik → f + (jm L.gy).length ≤ B → apx s f ik B arm jb ms m 10 ms true L D
theorem avw {s f B : Int} {L : Lg} {D : Dk} {ms : List WrM} {m : WrM} (I : SI s f L D ms) (hm : okM m) (hB : f + (jm L.gy).length + 1 ≤ B) (hB2 : B ≤ 1000000000000) :
  apx s f L.ik B D.jt D.jb ms m (wrF L D [ql m]).2 (if (wrF L D [ql m]).2 = 0 then ms ++ [m] else ms) (decide ((wrF L D [ql m]).2 = 10)) (wrF L D [ql m]).1.1 (wrF L D [ql m]).1.2 := by
 have hl := asj hm
 have hw := bkr (iu := [ql m]) I.abj (fun b hb => by rw [List.mem_singleton.1 hb]; omega) (by simp; omega)
 have hok : ∀ x ∈ ms ++ [m], okM x := fun x hx => by
  rcases List.mem_append.1 hx with hx | hx
  ·exact I.ok x hx
  ·rw [List.mem_singleton.1 hx]; exact hm
 generalize wrF L D [ql m] = z at *
 cases hw with
 | ok L' D' g e1 e2 e3 e4 =>
  have e5 : jm L'.gy = (ms ++ [m]).map ql := by rw [e1, I.iu]; simp
  refine .ok L' D' ⟨?_, e5, hok⟩ e2 (by rw [e1, List.length_append, List.length_singleton]; omega) e4 e3
  have : (ms ++ [m]).length = (jm L'.gy).length := by rw [e5, List.length_map]
  rw [this]; exact g
 | vk i L' D' hi g e1 e2 e3 e4 =>
  have hi0 : i = 0 := by simpa using hi
  rw [hi0, List.take_zero, List.append_nil] at e1
  exact .vk L' D' ⟨g, by rw [e1]; exact I.iu, I.ok⟩ e2 (by rw [e1]; omega) e4 e3
 | je i L' D' Q b1 b2 b3 b4 b5 b6 b7 b8 =>
  have hb : f + (jm Q).length ≤ B := by rw [b6, List.length_append, List.length_take, List.length_singleton]; omega
  have hb8 : f + (jm L'.gy).length ≤ B := by simp at b8; omega
  cases i with
  | zero => exact .je L' D' Q ms b1 b4 b5 (by rw [b6, I.iu]; simp) (.inl rfl) hb b7 b2 hb8
  | succ i => exact .je L' D' Q (ms ++ [m]) b1 b4 b5 (by rw [b6, I.iu, List.take_of_length_le (by simp)]; simp) (.inr rfl) hb b7 b2 hb8
theorem alm {tr : Int} : ∀ {l : List Spn} {met : List Int}, sm tr met l = true → (∀ s ∈ l, ll s = 0 ∧ s.iw = tr ∧ s.id ∉ met) ∧ (l.map Spn.id).Nodup
 | [], _, _ => ⟨fun s hs => by simp at hs, by simp⟩
 | s :: r, met, h => by
  rw [sm] at h
  simp only [Bool.and_eq_true, decide_eq_true_eq, Bool.not_eq_true', decide_eq_false_iff_not] at h
  obtain ⟨⟨h1, h2, h3⟩, h4⟩ := h
  obtain ⟨k1, k2⟩ := alm h4
  refine ⟨fun x hx => ?_, ?_⟩
  ·rcases List.mem_cons.1 hx with rfl | hx
   ·exact ⟨h1, h2, h3⟩
   ·have := k1 x hx
    exact ⟨this.1, this.2.1, fun hm => this.2.2 (List.mem_append_left _ hm)⟩
  ·rw [List.map_cons, List.nodup_cons]
   refine ⟨fun hm => ?_, k2⟩
   obtain ⟨x, hx, he⟩ := List.mem_map.1 hm
   exact (k1 x hx).2.2 (List.mem_append_right _ (by rw [he]; simp))
structure WrP (p : Pk) (ls : List Spn) : Prop where
 tr : 0 < p.tr
 bn : 0 < p.b.n
 ok : ∀ s ∈ ls, ll s = 0 ∧ s.iw = p.tr
 ids : (ls.map Spn.id).Nodup
 ne : ls ≠ []
 len : ls.length ≤ 16
def wrE (p : Pk) (ls : List Spn) (lm : List Mem) (lu : List Int) : Bool := decide (p.ie = 9) && sn p ls lm lu
theorem ajc {p : Pk} {ls : List Spn} {lm : List Mem} {lu : List Int} (h : wrE p ls lm lu = true) : p.ie = 9 ∧ WrP p ls := by
 unfold wrE at h
 simp only [Bool.and_eq_true, decide_eq_true_eq] at h
 obtain ⟨hk, h⟩ := h
 unfold sn mo qz at h
 simp [hk] at h
 obtain ⟨⟨_, htr⟩, hb, hs, h1, h2⟩ := h
 obtain ⟨k1, k2⟩ := alm hs
 exact ⟨hk, htr, hb, fun s hs => ⟨(k1 s hs).1, (k1 s hs).2.1⟩, k2, fun e => by rw [e] at h1; simp at h1, h2⟩
def jw (es : List EnS) (l : List Spn) : List Spn := l.filter fun x => !rt es x
theorem bgc (es : List EnS) (b : Bal) (y x : Spn) : rt (es ++ [(b, y)]) x = (rt es x || (decide (y.iw = x.iw) && decide (y.id = x.id))) := by
 unfold rt; rw [List.any_append]; simp
theorem aly (b : Bal) : ∀ {l : List Spn} {es : List EnS}, (l.map Spn.id).Nodup → (∀ x ∈ l, rt es x = false) → l.foldl (mh b) es = es ++ l.map fun x => (b, x)
 | [], es, _, _ => by simp
 | x :: r, es, hn, hx => by
  rw [List.map_cons, List.nodup_cons] at hn
  have h0 := hx x (by simp)
  rw [List.foldl_cons]
  have e1 : mh b es x = es ++ [(b, x)] := by unfold mh; rw [h0]; simp
  rw [e1, aly b hn.2 fun y hy => ?_]
  ·simp
  ·rw [bgc, hx y (List.mem_cons_of_mem _ hy)]
   have : x.id ≠ y.id := fun e => hn.1 (List.mem_map.2 ⟨y, hy, e.symm⟩)
   simp [this]
theorem aym {b : Bal} {l : List Spn} {es : List EnS} (hn : (l.map Spn.id).Nodup) : (jw es l).foldl (mh b) es = es ++ (jw es l).map fun x => (b, x) :=
 aly b (((List.filter_sublist).map _).nodup hn) fun x hx => by simpa using (List.mem_filter.1 hx).2
def yb (es : List EnS) : Prop := es.Pairwise fun a b => ¬ (a.2.iw = b.2.iw ∧ a.2.id = b.2.id)
theorem bgq {es : List EnS} (h : yb es) (b : Bal) (x : Spn) : yb (mh b es x) := by
 unfold mh
 split
 ·exact h
 ·rename_i hn
  unfold yb
  rw [List.pairwise_append]
  refine ⟨h, by simp, fun a ha c hc => ?_⟩
  rw [List.mem_singleton.1 hc]
  rintro ⟨h1, h2⟩
  refine hn ?_
  unfold rt
  rw [List.any_eq_true]
  exact ⟨a, ha, by simp [h1, h2]⟩
theorem ape (b : Bal) : ∀ {l : List Spn} {es : List EnS}, yb es → yb (l.foldl (mh b) es)
 | [], _, h => h
 | x :: r, _, h => ape b (l := r) (bgq h b x)
theorem adm : ∀ (ms : List WrM), yb (jv ms) := by
 have h : ∀ (ms : List WrM) (es : List EnS), yb es → yb (ms.foldl afd es) := by
  intro ms
  induction ms with
  | nil => exact fun _ h => h
  | cons m r ih => exact fun es h => ih _ (ape m.1 h)
 exact fun ms => h ms [] List.Pairwise.nil
theorem bfu {es : List EnS} (h : yb es) (t : Int) : ∀ x ∈ qh es t, ∀ y ∈ qh es t, x.id = y.id → x = y := by
 have hp : (qh es t).Pairwise fun x y => x.id ≠ y.id := by
  unfold qh
  rw [List.pairwise_map]
  refine (List.Pairwise.filter _ h).imp_of_mem fun {a b} ha hb hab he => hab ⟨?_, he⟩
  have h1 := (List.mem_filter.1 ha).2
  have h2 := (List.mem_filter.1 hb).2
  simp only [isE, decide_eq_true_eq] at h1 h2
  rw [h1, h2]
 intro x hx y hy he
 have hnd : ((qh es t).map Spn.id).Nodup := by
  rw [List.nodup_iff_pairwise_ne, List.pairwise_map]
  exact hp
 exact yh hnd hx hy he
structure yc (es : List EnS) : Prop where
 rng : ∀ e ∈ es, e.1.rng ∧ ll e.2 = 0 ∧ wg e.2
theorem afg {b : Bal} (hb : b.rng) : ∀ {l : List Spn} {es : List EnS}, (∀ s ∈ l, ll s = 0 ∧ wg s) → yc es → yc (l.foldl (mh b) es)
 | [], _, _, h => h
 | x :: r, es, hl, h => afg hb (l := r) (fun s hs => hl s (List.mem_cons_of_mem _ hs)) (by
   unfold mh
   split
   ·exact h
   ·refine ⟨fun e he => ?_⟩
    rcases List.mem_append.1 he with he | he
    ·exact h.rng e he
    ·rw [List.mem_singleton.1 he]
     exact ⟨hb, hl x (by simp)⟩)
theorem axk {ms : List WrM} (h : ∀ m ∈ ms, okM m) : yc (jv ms) := by
 have g : ∀ (ms : List WrM) (es : List EnS), (∀ m ∈ ms, okM m) → yc es → yc (ms.foldl afd es) := by
  intro ms
  induction ms with
  | nil => exact fun _ _ h => h
  | cons m r ih => exact fun es hm h => ih _ (fun x hx => hm x (List.mem_cons_of_mem _ hx)) (afg (hm m (by simp)).b (hm m (by simp)).ok h)
 exact g ms [] h ⟨fun e he => by simp at he⟩
theorem asi {ms : List WrM} (h : ∀ m ∈ ms, okM m) : (jv ms).length ≤ 16 * ms.length := by
 have f : ∀ (b : Bal) (l : List Spn) (es : List EnS), (l.foldl (mh b) es).length ≤ es.length + l.length := by
  intro b l
  induction l with
  | nil => simp
  | cons x r ih =>
   intro es
   rw [List.foldl_cons]
   have h1 := ih (mh b es x)
   have h2 : (mh b es x).length ≤ es.length + 1 := by unfold mh; split <;> simp
   simp only [List.length_cons]; omega
 have g : ∀ (ms : List WrM) (es : List EnS), (∀ m ∈ ms, okM m) → (ms.foldl afd es).length ≤ es.length + 16 * ms.length := by
  intro ms
  induction ms with
  | nil => simp
  | cons m r ih =>
   intro es hm
   rw [List.foldl_cons]
   have h1 := ih (afd es m) fun x hx => hm x (List.mem_cons_of_mem _ hx)
   have h2 := f m.1 m.2 es
   have h3 := (hm m (by simp)).len
   unfold afd at h1 ⊢
   simp only [List.length_cons]; omega
 have := g ms [] h
 rw [List.length_nil, Nat.zero_add] at this
 exact this
end Go.Proofs.YtfnhoaemapheoaaGreat
