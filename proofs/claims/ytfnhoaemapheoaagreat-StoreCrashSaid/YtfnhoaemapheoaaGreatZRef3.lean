/-
  The document's rune and the model's. No condition.
-/
import Derived.Test.YtfnhoaemapheoaaGreatZMs2
import Derived.Test.YtfnhoaemapheoaaGreatZEngSl
import Derived.Test.YtfnhoaemapheoaaGreatZSgD
set_option maxRecDepth 100000
namespace Go.Proofs.YtfnhoaemapheoaaGreat
open Go.Eng
theorem alp {t : ByteArray} (h0 : 0 < t.size) (h1 : ¬ byt t 0 < 128) {n least r : Nat} (hc : ol (byt t 0) = (n, least, r)) :
  rr t = if n = 0 ∨ t.size < n then (0, 0) else if um t (n - 1) = false then (0, 0) else if lg t r (n - 1) < least ∨ 1114111 < lg t r (n - 1) ∨ (55296 ≤ lg t r (n - 1) ∧ lg t r (n - 1) ≤ 57343) then (0, 0) else (lg t r (n - 1), n) := by
 unfold rr
 rw [if_neg (by omega), if_neg h1, hc]
theorem bie (v : Nat) : Utf8.valid (v : Int) = decide (¬ (1114111 < v ∨ (55296 ≤ v ∧ v ≤ 57343))) := by
 unfold Utf8.valid
 rw [Bool.eq_iff_iff]
 simp only [Bool.or_eq_true, Bool.and_eq_true, decide_eq_true_eq]
 omega
def pn (t : ByteArray) (k : Nat) : Bool := decide (k < t.size) && vh t k
def alh (least n v : Nat) : Nat × Nat := if least ≤ v ∧ ¬ (1114111 < v ∨ (55296 ≤ v ∧ v ≤ 57343)) then (v, n) else (65533, 1)
theorem abg (t : ByteArray) : Utf8.decode t 0 = if byt t 0 < 128 then (byt t 0, 1) else if byt t 0 / 32 = 6 ∧ pn t 1 = true then (if 128 ≤ byt t 0 % 32 * 64 + byt t 1 % 64 then (byt t 0 % 32 * 64 + byt t 1 % 64, 2) else (65533, 1))
  else if byt t 0 / 16 = 14 ∧ pn t 1 = true ∧ pn t 2 = true then alh 2048 3 (byt t 0 % 16 * 4096 + byt t 1 % 64 * 64 + byt t 2 % 64)
  else if byt t 0 / 8 = 30 ∧ pn t 1 = true ∧ pn t 2 = true ∧ pn t 3 = true then alh 65536 4 (byt t 0 % 8 * 262144 + byt t 1 % 64 * 4096 + byt t 2 % 64 * 64 + byt t 3 % 64) else (65533, 1) := by
 have e : ∀ k, (t.get! (0 + k)).toNat = byt t k := fun k => by rw [Nat.zero_add]; rfl
 have c0 : ∀ k, (decide (0 + k < t.size) && byt t k / 64 == 2) = pn t k := fun k => by
  have := aic t k
  have : (byt t k / 64 == 2) = vh t k := by
   unfold vh
   by_cases h : 128 ≤ byt t k <;> by_cases h' : byt t k ≤ 191
   ·have : byt t k / 64 = 2 := by omega
    simp [h, h', this]
   ·have : ¬ byt t k / 64 = 2 := by omega
    simp [h, h', this]
   ·have : ¬ byt t k / 64 = 2 := by omega
    simp [h, h', this]
   ·omega
  rw [this, Nat.zero_add]; rfl
 unfold Utf8.decode alh
 simp only [e, c0, bie, Bool.and_eq_true, beq_iff_eq, and_assoc, decide_eq_true_eq, ge_iff_le, Utf8.runeError]
theorem yx {t : ByteArray} {k : Nat} (h : pn t k = true) : k < t.size ∧ vh t k = true ∧ 128 ≤ byt t k ∧ byt t k ≤ 191 := by
 unfold pn vh at h
 simp only [Bool.and_eq_true, decide_eq_true_eq] at h
 exact ⟨h.1, by unfold vh; simp [h.2], h.2.1, h.2.2⟩
def aep (c : Nat × Nat) : Nat × Nat := if c.2 = 0 then (65533, 1) else c
theorem anp {least n v : Nat} (hn : n ≠ 0) : alh least n v = aep (if v < least ∨ 1114111 < v ∨ (55296 ≤ v ∧ v ≤ 57343) then (0, 0) else (v, n)) := by
 unfold alh aep
 by_cases g : v < least ∨ 1114111 < v ∨ (55296 ≤ v ∧ v ≤ 57343)
 ·rw [if_pos g, if_neg (by omega)]; rfl
 ·rw [if_neg g, if_pos (by omega)]; simp [hn]
theorem aif {t : ByteArray} : ∀ {n : Nat}, um t n = true ↔ ∀ k, 1 ≤ k → k ≤ n → vh t k = true
 | 0 => ⟨fun _ k h1 h2 => by omega, fun _ => rfl⟩
 | n + 1 => by
  simp only [um, Bool.and_eq_true, aif (n := n)]
  constructor
  ·rintro ⟨h1, h2⟩ k hk1 hk2
   by_cases hk : k = n + 1
   ·subst hk; exact h2
   ·exact h1 k hk1 (by omega)
  ·intro h
   exact ⟨fun k h1 h2 => h k h1 (by omega), h (n + 1) (by omega) (by omega)⟩
theorem aey {t : ByteArray} (h0 : 0 < t.size) (h1 : ¬ byt t 0 < 128) {n least r : Nat} (hc : ol (byt t 0) = (n, least, r)) (hn : 2 ≤ n) (h : ∀ k, 1 ≤ k → k ≤ n - 1 → pn t k = true) :
  rr t = if lg t r (n - 1) < least ∨ 1114111 < lg t r (n - 1) ∨ (55296 ≤ lg t r (n - 1) ∧ lg t r (n - 1) ≤ 57343) then (0, 0) else (lg t r (n - 1), n) := by
 rw [alp h0 h1 hc]
 have := (yx (h (n - 1) (by omega) (by omega))).1
 rw [if_neg (by omega), if_neg]
 rw [aif.2 fun k h1 h2 => (yx (h k h1 h2)).2.1]; simp
theorem ajb {t : ByteArray} (h0 : 0 < t.size) (h1 : ¬ byt t 0 < 128) {n least r : Nat} (hc : ol (byt t 0) = (n, least, r)) (hn : 2 ≤ n) (h : ¬ ∀ k, 1 ≤ k → k ≤ n - 1 → pn t k = true) : rr t = (0, 0) := by
 rw [alp h0 h1 hc]
 by_cases hs : t.size < n
 ·rw [if_pos (.inr hs)]
 ·rw [if_neg (by omega), if_pos]
  cases hcs : um t (n - 1) with
  | false => rfl
  | true =>
   refine absurd (fun k h1 h2 => ?_) h
   unfold pn
   rw [aif.1 hcs k h1 h2]
   simp; omega
theorem azq {p : Nat → Prop} : (∀ k, 1 ≤ k → k ≤ 2 - 1 → p k) ↔ p 1 := ⟨fun h => h 1 (by omega) (by omega), fun h k h1 h2 => by
 obtain rfl : k = 1 := by omega
 exact h⟩
theorem bbk {p : Nat → Prop} : (∀ k, 1 ≤ k → k ≤ 3 - 1 → p k) ↔ p 1 ∧ p 2 := ⟨fun h => ⟨h 1 (by omega) (by omega), h 2 (by omega) (by omega)⟩, fun h k h1 h2 => by
 have : k = 1 ∨ k = 2 := by omega
 rcases this with rfl | rfl
 ·exact h.1
 ·exact h.2⟩
theorem azf {p : Nat → Prop} : (∀ k, 1 ≤ k → k ≤ 4 - 1 → p k) ↔ p 1 ∧ p 2 ∧ p 3 := ⟨fun h => ⟨h 1 (by omega) (by omega), h 2 (by omega) (by omega), h 3 (by omega) (by omega)⟩, fun h k h1 h2 => by
 have : k = 1 ∨ k = 2 ∨ k = 3 := by omega
 rcases this with rfl | rfl | rfl
 ·exact h.1
 ·exact h.2.1
 ·exact h.2.2⟩
theorem ajj {x : Nat} (h1 : 128 ≤ x) (h2 : x ≤ 191) : x % 64 = x - 128 := by omega
theorem rf1 (t : ByteArray) (r : Nat) : lg t r 1 = r * 64 + byt t 1 - 128 := rfl
theorem rf2 (t : ByteArray) (r : Nat) : lg t r 2 = (r * 64 + byt t 1 - 128) * 64 + byt t 2 - 128 := rfl
theorem rf3 (t : ByteArray) (r : Nat) : lg t r 3 = ((r * 64 + byt t 1 - 128) * 64 + byt t 2 - 128) * 64 + byt t 3 - 128 := rfl
theorem bqh {t : ByteArray} (h0 : 0 < t.size) (c1 : 194 ≤ byt t 0 ∧ byt t 0 ≤ 223) : Utf8.decode t 0 = aep (rr t) := by
 have h1 : ¬ byt t 0 < 128 := by omega
 have hc : ol (byt t 0) = (2, 128, byt t 0 - 192) := by unfold ol; rw [if_pos c1]
 rw [abg, if_neg h1]
 by_cases hd : pn t 1 = true
 ·rw [aey h0 h1 hc (by decide) (azq.2 hd), if_pos ⟨by omega, hd⟩, ← anp (by decide)]
  obtain ⟨_, _, g1, g2⟩ := yx hd
  have hv : lg t (byt t 0 - 192) (2 - 1) = byt t 0 % 32 * 64 + byt t 1 % 64 := by
   show lg t (byt t 0 - 192) 1 = _
   rw [rf1, ajj g1 g2]; omega
  rw [hv]
  have hle : byt t 0 % 32 * 64 + byt t 1 % 64 < 55296 := by omega
  unfold alh
  by_cases hg : 128 ≤ byt t 0 % 32 * 64 + byt t 1 % 64
  ·rw [if_pos hg, if_pos ⟨hg, by omega⟩]
  ·rw [if_neg hg, if_neg fun h => hg h.1]
 ·rw [if_neg fun h => hd h.2, if_neg (by omega), if_neg (by omega), ajb h0 h1 hc (by decide) fun h => hd (azq.1 h)]; rfl
theorem bqn {t : ByteArray} (h0 : 0 < t.size) (c1 : 224 ≤ byt t 0 ∧ byt t 0 ≤ 239) : Utf8.decode t 0 = aep (rr t) := by
 have h1 : ¬ byt t 0 < 128 := by omega
 have hc : ol (byt t 0) = (3, 2048, byt t 0 - 224) := by unfold ol; rw [if_neg (by omega), if_pos c1]
 rw [abg, if_neg h1, if_neg (by omega)]
 by_cases hd : pn t 1 = true ∧ pn t 2 = true
 ·rw [aey h0 h1 hc (by decide) (bbk.2 hd), if_pos ⟨by omega, hd⟩, ← anp (by decide)]
  obtain ⟨_, _, g1, g2⟩ := yx hd.1
  obtain ⟨_, _, g3, g4⟩ := yx hd.2
  have hv : lg t (byt t 0 - 224) (3 - 1) = byt t 0 % 16 * 4096 + byt t 1 % 64 * 64 + byt t 2 % 64 := by
   show lg t (byt t 0 - 224) 2 = _
   rw [rf2, ajj g1 g2, ajj g3 g4]; omega
  rw [hv]
 ·rw [if_neg fun h => hd h.2, if_neg (by omega), ajb h0 h1 hc (by decide) fun h => hd (bbk.1 h)]; rfl
theorem bqp {t : ByteArray} (h0 : 0 < t.size) (c1 : 240 ≤ byt t 0 ∧ byt t 0 ≤ 244) : Utf8.decode t 0 = aep (rr t) := by
 have h1 : ¬ byt t 0 < 128 := by omega
 have hc : ol (byt t 0) = (4, 65536, byt t 0 - 240) := by unfold ol; rw [if_neg (by omega), if_neg (by omega), if_pos c1]
 rw [abg, if_neg h1, if_neg (by omega), if_neg (by omega)]
 by_cases hd : pn t 1 = true ∧ pn t 2 = true ∧ pn t 3 = true
 ·rw [aey h0 h1 hc (by decide) (azf.2 hd), if_pos ⟨by omega, hd⟩, ← anp (by decide)]
  obtain ⟨_, _, g1, g2⟩ := yx hd.1
  obtain ⟨_, _, g3, g4⟩ := yx hd.2.1
  obtain ⟨_, _, g5, g6⟩ := yx hd.2.2
  have hv : lg t (byt t 0 - 240) (4 - 1) = byt t 0 % 8 * 262144 + byt t 1 % 64 * 4096 + byt t 2 % 64 * 64 + byt t 3 % 64 := by
   show lg t (byt t 0 - 240) 3 = _
   rw [rf3, ajj g1 g2, ajj g3 g4, ajj g5 g6]; omega
  rw [hv]
 ·rw [if_neg fun h => hd h.2, ajb h0 h1 hc (by decide) fun h => hd (azf.1 h)]; rfl
theorem ben (t : ByteArray) (h0 : 0 < t.size) : Utf8.decode t 0 = aep (rr t) := by
 by_cases h1 : byt t 0 < 128
 ·have hr : rr t = (byt t 0, 1) := by unfold rr; rw [if_neg (by omega), if_pos h1]
  rw [abg, if_pos h1, hr]; rfl
 by_cases c1 : 194 ≤ byt t 0 ∧ byt t 0 ≤ 223
 ·exact bqh h0 c1
 by_cases c2 : 224 ≤ byt t 0 ∧ byt t 0 ≤ 239
 ·exact bqn h0 c2
 by_cases c3 : 240 ≤ byt t 0 ∧ byt t 0 ≤ 244
 ·exact bqp h0 c3
 have hc : ol (byt t 0) = (0, 0, 0) := by unfold ol; rw [if_neg c1, if_neg c2, if_neg c3]
 have hr : rr t = (0, 0) := by rw [alp h0 h1 hc]; simp
 have hb := aic t 0
 rw [hr, abg, if_neg h1]
 show _ = (65533, 1)
 by_cases d1 : byt t 0 / 32 = 6 ∧ pn t 1 = true
 ·obtain ⟨_, _, g1, g2⟩ := yx d1.2
  rw [if_pos d1, if_neg (by omega)]
 ·rw [if_neg d1, if_neg (by omega)]
  by_cases d3 : byt t 0 / 8 = 30 ∧ pn t 1 = true ∧ pn t 2 = true ∧ pn t 3 = true
  ·rw [if_pos d3]
   unfold alh
   rw [if_neg (by omega)]
  ·rw [if_neg d3]
set_option maxRecDepth 100000
def ll (s : ByteArray) (i : Nat) : ByteArray := s.extract i s.size
theorem ahj (s : ByteArray) (i : Nat) : (ll s i).size = s.size - i := by simp [ll]
theorem arz (s : ByteArray) (k : Nat) : s.get! k = s.data[k]! := by cases s; rfl
theorem bhk (s : ByteArray) (i k : Nat) : byt (ll s i) k = byt s (i + k) := by
 unfold byt
 rw [arz, arz]
 have h : (ll s i).data = s.data.extract i s.size := by simp [ll]
 rw [h, getElem!_def, getElem!_def, Array.getElem?_extract]
 have hs : s.size = s.data.size := rfl
 by_cases hk : k < min s.size s.data.size - i
 ·rw [if_pos (by omega)]
 ·rw [if_neg (by omega), Array.getElem?_eq_none (by omega)]
theorem bdo (s : ByteArray) (i n : Nat) : ll (ll s i) n = ll s (i + n) := by
 unfold ll
 rw [ByteArray.extract_extract]
 congr 1
 simp; omega
theorem awf (s : ByteArray) (i : Nat) : Utf8.decode s i = Utf8.decode (ll s i) 0 := by
 have e : ∀ k, (s.get! (i + k)).toNat = byt (ll s i) k := fun k => by rw [bhk]; rfl
 have e' : ∀ k, ((ll s i).get! (0 + k)).toNat = byt (ll s i) k := fun k => by rw [Nat.zero_add]; rfl
 have c : ∀ k, decide (i + k < s.size) = decide (0 + k < (ll s i).size) := fun k => by
  rw [ahj, decide_eq_decide]; omega
 unfold Utf8.decode
 simp only [e, e', c]
theorem bjq (t : ByteArray) : xk t yc = true ↔ 3 ≤ t.size ∧ byt t 0 = 239 ∧ byt t 1 = 191 ∧ byt t 2 = 189 := by
 have hs : t.size = t.data.toList.length := Array.length_toList.symm
 have hr : yc.toList = [239, 191, 189] := by decide +kernel
 have hz : yc.size = 3 := rfl
 unfold xk
 rw [hr, hz, Bool.and_eq_true, decide_eq_true_eq, beq_iff_eq]
 have he : (t.extract 0 3).toList = t.data.toList.take 3 := by
  rw [ByteArray.toList_eq]
  simp
 rw [he]
 have b : ∀ k, byt t k = (t.data.toList[k]?.getD default).toNat := fun k => by
  unfold byt
  rw [arz, getElem!_def]
  simp only [Array.getElem?_toList]
  cases t.data[k]? <;> rfl
 rw [b, b, b, hs]
 have u : ∀ (x : UInt8) (n : Nat) (h : n < 256), x.toNat = n ↔ x = UInt8.ofNat n := fun x n h => by
  constructor
  ·intro hx; rw [← hx]; simp
  ·rintro rfl; simp; omega
 match t.data.toList with
 | [] => simp
 | [x] => simp
 | [x, y] => simp
 | x :: y :: z :: r =>
  simp [u x 239 (by decide), u y 191 (by decide), u z 189 (by decide)]
theorem bly (t : ByteArray) (h0 : 0 < t.size) : ((rr t).2 ≠ 0 ∧ (rr t).1 = 65533) ↔ (3 ≤ t.size ∧ byt t 0 = 239 ∧ byt t 1 = 191 ∧ byt t 2 = 189) := by
 have hb := aic t 0
 by_cases h1 : byt t 0 < 128
 ·have hr : rr t = (byt t 0, 1) := by unfold rr; rw [if_neg (by omega), if_pos h1]
  rw [hr]; simp; omega
 by_cases c1 : 194 ≤ byt t 0 ∧ byt t 0 ≤ 223
 ·have hc : ol (byt t 0) = (2, 128, byt t 0 - 192) := by unfold ol; rw [if_pos c1]
  by_cases hd : pn t 1 = true
  ·rw [aey h0 h1 hc (by decide) (azq.2 hd)]
   obtain ⟨_, _, g1, g2⟩ := yx hd
   have hv : lg t (byt t 0 - 192) (2 - 1) = (byt t 0 - 192) * 64 + byt t 1 - 128 := rfl
   rw [hv]
   split <;> simp <;> omega
  ·rw [ajb h0 h1 hc (by decide) fun h => hd (azq.1 h)]; simp; omega
 by_cases c2 : 224 ≤ byt t 0 ∧ byt t 0 ≤ 239
 ·have hc : ol (byt t 0) = (3, 2048, byt t 0 - 224) := by unfold ol; rw [if_neg (by omega), if_pos c2]
  by_cases hd : pn t 1 = true ∧ pn t 2 = true
  ·rw [aey h0 h1 hc (by decide) (bbk.2 hd)]
   obtain ⟨_, _, g1, g2⟩ := yx hd.1
   obtain ⟨g5, _, g3, g4⟩ := yx hd.2
   have hv : lg t (byt t 0 - 224) (3 - 1) = ((byt t 0 - 224) * 64 + byt t 1 - 128) * 64 + byt t 2 - 128 := rfl
   rw [hv]
   split <;> simp <;> omega
  ·rw [ajb h0 h1 hc (by decide) fun h => hd (bbk.1 h)]
   simp only [ne_eq, not_true_eq_false, false_and, false_iff]
   rintro ⟨k0, k1, k2, k3⟩
   apply hd
   unfold pn vh
   simp [k2, k3]; omega
 by_cases c3 : 240 ≤ byt t 0 ∧ byt t 0 ≤ 244
 ·have hc : ol (byt t 0) = (4, 65536, byt t 0 - 240) := by unfold ol; rw [if_neg (by omega), if_neg (by omega), if_pos c3]
  by_cases hd : pn t 1 = true ∧ pn t 2 = true ∧ pn t 3 = true
  ·rw [aey h0 h1 hc (by decide) (azf.2 hd)]
   generalize lg t (byt t 0 - 240) (4 - 1) = v
   split <;> simp <;> omega
  ·rw [ajb h0 h1 hc (by decide) fun h => hd (azf.1 h)]; simp; omega
 have hc : ol (byt t 0) = (0, 0, 0) := by unfold ol; rw [if_neg c1, if_neg c2, if_neg c3]
 have hr : rr t = (0, 0) := by rw [alp h0 h1 hc]; simp
 rw [hr]; simp; omega
theorem bgy (t : ByteArray) : (rr t).2 ≤ t.size := by
 unfold rr
 by_cases h0 : t.size = 0
 ·rw [if_pos h0]; omega
 rw [if_neg h0]
 split
 ·simp; omega
 split
 ·simp
 split
 ·simp
 split
 ·simp
 ·simp; omega
def rrs (s : ByteArray) (i : Nat) : Option (List Nat) :=
 if h : i < s.size then (if h2 : (rr (ll s i)).2 = 0 then none else (rrs s (i + (rr (ll s i)).2)).map ((rr (ll s i)).1 :: ·)) else some []
termination_by s.size - i
decreasing_by omega
def ctl (c : Nat) : Bool := decide (c < 32) || (decide (127 ≤ c) && decide (c ≤ 159))
theorem bin (s : ByteArray) : ∀ (m i : Nat), s.size - i ≤ m → uv s i = match rrs s i with
  | none => false
  | some l => l.all fun c => !ctl c := by
 intro m
 induction m with
 | zero =>
  intro i hm
  unfold uv rrs
  rw [dif_neg (by omega), dif_neg (by omega)]; rfl
 | succ m ih =>
  intro i hm
  unfold uv rrs
  by_cases hi : i < s.size
  ·rw [dif_pos hi, dif_pos hi]
   have ht : 0 < (ll s i).size := by rw [ahj]; omega
   have hd : Utf8.decode s i = aep (rr (ll s i)) := by rw [awf, ben _ ht]
   have he := bly (ll s i) ht
   rw [← bjq] at he
   unfold acp
   have hrest : s.extract i s.size = ll s i := rfl
   rw [hrest, hd]
   by_cases h2 : (rr (ll s i)).2 = 0
   ·rw [dif_pos h2]
    have hp : xk (ll s i) yc = false := by
     cases hq : xk (ll s i) yc with
     | false => rfl
     | true => exact absurd h2 (he.2 hq).1
    simp [aep, h2, hp]
   ·rw [dif_neg h2]
    have hf : aep (rr (ll s i)) = rr (ll s i) := by simp [aep, h2]
    rw [hf, ih (i + (rr (ll s i)).2) (by omega)]
    have hb : (decide ((rr (ll s i)).1 < 32) || (decide (127 ≤ (rr (ll s i)).1) && decide ((rr (ll s i)).1 ≤ 159) || decide ((rr (ll s i)).1 = 65533) && !xk (ll s i) yc)) = ctl (rr (ll s i)).1 := by
     unfold ctl
     by_cases hc : (rr (ll s i)).1 = 65533
     ·rw [he.1 ⟨h2, hc⟩, hc]; decide
     ·simp [hc]
    rw [hb]
    cases rrs s (i + (rr (ll s i)).2) with
    | none => simp
    | some l => simp
  ·rw [dif_neg hi, dif_neg hi]; rfl
def bho (c : Nat) : List Value := [.int .i32 (c : Nat)]
abbrev OwR (w : World) (base : Nat) (v : Value) (l : List Nat) : Prop := Ow w base T.aw 1 bho v l
def alu (v : Value) : Nat := match v with
 | .string s => s.size
 | _ => 0
def bpq (w : World) (s : ByteArray) : KL := fun x w1 => ∃ (i : Nat) (l : List Nat), x.length = 6 ∧ gv x 5 = .string (ll s i) ∧ OwR w1 w.heap.size (gv x 4) l ∧ Fz w w1 ∧ i ≤ s.size ∧ l.length ≤ i ∧ rrs s 0 = (rrs s i).map (l ++ ·)
theorem bgn {w : World} {s : ByteArray} (hs : s.size < 100000) {K : KV} (h0 : rrs s 0 = none → ∀ w', Fz w w' → K (.tuple #[.slice none 0 0, .bool false]) w')
  (h1 : ∀ l, rrs s 0 = some l → l.length ≤ s.size → ∀ w' v, OwR w' w.heap.size v l → Fz w w' → K (.tuple #[v, .bool true]) w') : ku P F.dx [.string s] w K := by
 apply M.ap.calls
 unfold M.ap
 rw [ib]
 refine ⟨bpq w s, fun x _ => alu (gv x 5), ⟨0, [], rfl, ?_, Ow.none, Fr.refl _ _, Nat.zero_le _, Nat.le_refl _, by simp⟩, ?_⟩
 ·show Value.string s = _
  unfold ll; simp
 rintro x w1 ⟨i, l, hx, e5, o1, f1, hi, hl, hR⟩
 unfold M.ap.j1
 simp only [ib, e5, bmj]
 have hsz := ahj s i
 by_cases hlt : i < s.size
 ·have hlt' : (0 : Int) < ((ll s i).size : Int) := by omega
  simp only [si, hlt', decide_true, Eng.cond_true]
  unfold M.ap.j2
  rw [e5, M.g.fcall]
  refine blo _ ?_
  simp only [aew, afm, ib, ur]
  rw [show rrs s i = _ from rrs.eq_1 s i, dif_pos hlt] at hR
  by_cases h2 : (rr (ll s i)).2 = 0
  ·have h2' : (((rr (ll s i)).2 : Nat) : Int) = 0 := by omega
   simp only [h2', decide_true, Eng.cond_true]
   rw [dif_pos h2] at hR
   exact h0 hR w1 f1
  ·have h2' : ¬ (((rr (ll s i)).2 : Nat) : Int) = 0 := by omega
   simp only [h2', decide_false, Eng.cond_false]
   rw [dif_neg h2] at hR
   have hwd := bgy (ll s i)
   unfold M.ap.j3
   simp [e5]
   have fa : Fz w1 (w1.alloc (.cells #[.int .i32 ((rr (ll s i)).1 : Nat)] T.aw)) := (Fr.refl _ w1).alloc _
   have hge := f1.size
   refine rq et.az (fun _ => rfl) (fun x u hu => by simp [bho] at hu; subst hu; rfl) (o1.fr fa fun _ _ h => h) (Sl.one (x := (rr (ll s i)).1) rfl rfl) (by simp; omega) (by decide) (by simp; omega) _ fun v' w2 o2 f2 g2 => ?_
   rw [aug (i := (rr (ll s i)).2) aoh (.inr ⟨_, rfl⟩) (.inl ⟨rfl, rfl⟩) hwd (Nat.le_refl _)]
   refine ⟨⟨i + (rr (ll s i)).2, l ++ [(rr (ll s i)).1], rfl, ?_, o2, ?_, by omega, by simp; omega, ?_⟩, ?_⟩
   ·show Value.string _ = _
    rw [← bdo]; rfl
   ·refine f1.lq ((fa.mono fun _ _ h => h.elim).trans f2) fun b hb he => ?_
    have := (o1.lt he).1; omega
   ·rw [hR]
    cases rrs s (i + (rr (ll s i)).2) <;> simp
   ·show alu (.string ((ll s i).extract (rr (ll s i)).2 (ll s i).size)) < alu (.string (ll s i))
    simp only [alu, ByteArray.size_extract]
    omega
 ·have hlt' : ¬ (0 : Int) < ((ll s i).size : Int) := by omega
  simp only [si, hlt', decide_false, Eng.cond_false]
  rw [show rrs s i = _ from rrs.eq_1 s i, dif_neg hlt] at hR
  exact h1 l (by simpa using hR) (by omega) w1 _ o1 f1
def NmI (w : World) (l : List Nat) : KL := fun x w1 => ∃ (u : Value) (i : Nat), x = [u, .int .i64 (i : Nat)] ∧ w1 = w ∧ i ≤ l.length ∧ ∀ j c, l[j]? = some c → j < i → ctl c = false
theorem alr {w : World} (s : ByteArray) {K : KV} (h : ∀ w', Fz w w' → K (.int .i64 (qi s)) w') : ku P F.cw [.string s] w K := by
 apply M.bc.calls
 unfold M.bc
 unfold qi at h
 simp only [ib, bmj, lw]
 by_cases h0 : s.size = 0
 ·have : (s.size : Int) < 1 := by omega
  simp [h0] at h ⊢
  exact h w (Fr.refl _ _)
 have h0' : ¬ (s.size : Int) < 1 := by omega
 by_cases h1 : 32 < s.size
 ·have h1' : (32 : Int) < s.size := by omega
  simp [h0, h0', h1, h1'] at h ⊢
  exact h w (Fr.refl _ _)
 have h1' : ¬ (32 : Int) < s.size := by omega
 simp [h0, h0', h1, h1'] at h ⊢
 unfold M.bc.j0
 rw [M.ap.fcall]
 rw [bin s _ 0 (Nat.le_refl _)] at h
 refine bgn (by omega) (fun hr w1 f1 => ?_) fun l hr hll w1 v o1 f1 => ?_
 ·rw [hr] at h
  simp only [aew, afm, ib]
  refine ⟨fun x w2 => gv x 1 = .int .i64 0 ∧ w2 = w1, fun _ _ => 0, ⟨rfl, rfl⟩, ?_⟩
  rintro x w2 ⟨e1, rfl⟩
  simp [e1]
  have := h w2 f1
  simpa using this
 ·rw [hr] at h
  simp only [aew, afm, ib]
  have hsl : Sl w1 1 bho v l := o1.sl fun _ => rfl
  refine ⟨NmI w1 l, fun x _ => l.length - ms x 1, ⟨_, 0, rfl, rfl, Nat.zero_le _, fun j c _ h => by omega⟩, ?_⟩
  rintro x w2 ⟨u, i, rfl, rfl, hi, hall⟩
  have q0 : ∀ a b : Value, gv [a, b] 0 = a := fun _ _ => rfl
  have q1 : ∀ a b : Value, gv [a, b] 1 = b := fun _ _ => rfl
  simp only [q0, q1]
  rw [hsl.jb (by simp)]
  by_cases hil : i < l.length
  ·have hil' : (i : Int) < l.length := by omega
   simp only [lw, hil', decide_true, Eng.cond_true]
   unfold M.bc.j3
   obtain ⟨b, o, cap, rfl, hb, _, hc⟩ := hsl.at hil
   have c0 := hc 0 _ rfl
   simp only [Nat.mul_one, Nat.add_zero] at c0
   generalize hli : l[i] = c at *
   have hgi : l[i]? = some c := by rw [List.getElem?_eq_getElem hil, hli]
   have hw : IntKind.i64.wrap ((i : Int) + 1) = ((i + 1 : Nat) : Int) := by rw [ig]; rfl
   have bad : ctl c = true → K (.int .i64 5) w2 := fun hct => by
    have : (l.all fun c => !ctl c) = false := by
     rw [List.all_eq_false]
     exact ⟨c, List.mem_of_getElem? hgi, by simp [hct]⟩
    have hh := h w2 f1
    simpa [this] using hh
   have aaq : ctl c = false → ∀ u, NmI w2 l [u, .int .i64 ((i : Int) + 1)] w2 ∧ l.length - ms [u, .int .i64 ((i : Int) + 1)] 1 < l.length - ms [u, .int .i64 (i : Int)] 1 := fun hct u => by
    refine ⟨⟨u, i + 1, rfl, rfl, by omega, fun j c' hj hlt => ?_⟩, by simp [ms, gv]; omega⟩
    by_cases hji : j = i
    ·subst hji; rw [hgi] at hj; cases hj; exact hct
    ·exact hall j c' hj (by omega)
   by_cases d1 : c < 32
   ·have d1' : (c : Int) < 32 := by omega
    simp [q0, q1, hil, c0, d1']
    exact bad (by simp [ctl, d1])
   have d1' : ¬ (c : Int) < 32 := by omega
   by_cases d2 : 127 ≤ c
   ·have d2' : (127 : Int) ≤ c := by omega
    by_cases d3 : c ≤ 159
    ·have d3' : (c : Int) ≤ 159 := by omega
     simp [q0, q1, hil, c0, d1', d2', d3']
     exact bad (by simp [ctl, d2, d3])
    ·have d3' : ¬ (c : Int) ≤ 159 := by omega
     simp [q0, q1, hil, c0, d1', d2', d3', hw]
     exact aaq (by simp [ctl, d1, d3]) _
   ·have d2' : ¬ (127 : Int) ≤ c := by omega
    simp [q0, q1, hil, c0, d1', d2', hw]
    exact aaq (by simp [ctl, d1, d2]) _
  ·have hil' : ¬ (i : Int) < l.length := by omega
   simp only [lw, hil', decide_false, Eng.cond_false]
   have : (l.all fun c => !ctl c) = true := by
    rw [List.all_eq_true]
    intro c hc
    obtain ⟨j, hj, rfl⟩ := List.mem_iff_getElem.1 hc
    rw [hall j _ (List.getElem?_eq_getElem hj) (by omega)]; rfl
   simp
   have hh := h w2 f1
   simpa [this] using hh
theorem bqd (a b : Int) : orK [a, b] = if a = 0 then b else a := by
 unfold orK
 by_cases ha : a = 0 <;> by_cases hb : b = 0 <;> simp [List.find?, ha, hb]
theorem aro (s : ByteArray) : qi s = 0 ∨ qi s = 5 := by
 unfold qi
 split
 ·exact .inr rfl
 split
 ·exact .inl rfl
 ·exact .inr rfl
theorem awm {w : World} (s : Spn) {K : KV} (h : ∀ w', Fz w w' → K (.int .i64 (ly s)) w') : ku P F.dw [ko s] w K := by
 apply M.ca.calls
 unfold M.ca
 rw [bjp]
 have hb := bhg w s
 have hf : Fz w (w.alloc (.cells #[.int .u64 s.iu, .int .u64 s.id, .int .u64 s.ou, .int .u64 s.ji, .int .u64 s.len, .string s.kf, .string s.name, .bool s.ru] T.e)) := (Fr.refl _ w).alloc _
 generalize w.alloc (.cells #[.int .u64 s.iu, .int .u64 s.id, .int .u64 s.ou, .int .u64 s.ji, .int .u64 s.len, .string s.kf, .string s.name, .bool s.ru] T.e) = wa at *
 have c0 := yd hb 0 _ rfl
 have c1 := yd hb 1 _ rfl
 have c3 := yd hb 3 _ rfl
 have c4 := yd hb 4 _ rfl
 have c5 := yd hb 5 _ rfl
 unfold ly at h
 simp only [ib]
 by_cases h0 : s.iu = 0
 ·simp [c0, h0] at h ⊢
  exact h wa hf
 by_cases h1 : s.id = 0
 ·simp [c0, c1, h0, h1] at h ⊢
  exact h wa hf
 by_cases h2 : 1099511627776 < s.ji
 ·have h3 : 1099511627776 < max s.ji s.len := by omega
  simp [c0, c1, c3, h0, h1, h2, h3] at h ⊢
  exact h wa hf
 by_cases h2' : 1099511627776 < s.len
 ·have h3 : 1099511627776 < max s.ji s.len := by omega
  simp [c0, c1, c3, c4, h0, h1, h2, h2', h3] at h ⊢
  exact h wa hf
 have h3 : ¬ 1099511627776 < max s.ji s.len := by omega
 rw [if_neg (by simp [h0, h1, h3]), bqd] at h
 simp [c0, c1, c3, c4, h0, h1, h2, h2']
 unfold M.ca.j0
 simp [c5]
 rw [M.bc.fcall]
 refine alr _ fun w2 f2 => ?_
 have hb2 : atq w2 w.heap.size s := f2.heap hb fun h => h
 have d6 := yd hb2 6 _ rfl
 by_cases n1 : qi s.kf = 0
 ·simp [n1, d6] at h ⊢
  rw [M.bc.fcall]
  refine alr _ fun w3 f3 => ?_
  have hh := h w3 ((hf.trans f2).trans f3)
  rcases aro s.name with n2 | n2
  ·simp [n2] at hh ⊢; exact hh
  ·simp [n2] at hh ⊢; exact hh
 ·have n5 : qi s.kf = 5 := (aro _).resolve_left n1
  have hh := h w2 (hf.trans f2)
  simp [n5] at hh ⊢
  exact hh
def SoI (W : World) (tr : Int) (l : List Spn) : KL := fun x w1 => ∃ (u0 u1 : Value) (i : Nat), x = [u0, u1, .int .i64 (i : Nat)] ∧ i ≤ l.length ∧ tf tr [] l = tf tr ((l.take i).map Spn.id) (l.drop i) ∧ Fz W w1
def SiI (W : World) (l : List Spn) (i : Nat) (hi : i < l.length) : KL := fun x w1 => ∃ (u : Value) (j : Nat), x = [u, .int .i64 (j : Nat)] ∧ j ≤ i ∧ (∀ k (hk : k < l.length), k < j → l[k].id ≠ l[i].id) ∧ Fz W w1
theorem agx {w : World} {v : Value} {l : List Spn} {tr : Int} (hs : SlS w v l) (hlen : l.length ≤ 1000000) {K : KV} (h : ∀ w', Fz w w' → K (.bool (rp tr l)) w') : gr P F.cp [.int .u64 tr, v] w K := by
 rw [M.ab.fcall]
 apply M.ab.calls
 unfold M.ab
 simp only [ib]
 have hln : ∀ w' K, biT P .len #[T.b] T.c [false] [v] w' K = K (.int .i64 l.length) w' := fun w' K => hs.jb (by kernel_rfl) [false]
 refine ⟨SoI w tr l, fun x _ => l.length - ms x 2, ⟨_, _, 0, rfl, Nat.zero_le _, by simp, Fr.refl _ _⟩, ?_⟩
 rintro x w1 ⟨u0, u1, i, rfl, hi, hr, f1⟩
 unfold M.ab.j1
 by_cases hil : i < l.length
 ·have hili : (i : Int) < (l.length : Int) := by omega
  have hwi : IntKind.i64.wrap ((i : Int) + 1) = ((i + 1 : Nat) : Int) := by rw [ig]; rfl
  simp [hln, hil]
  unfold M.ab.j2
  obtain ⟨b, o, cap, hv, hb, _, hc⟩ := (hs.fr f1 fun _ _ _ h => h : SlS w1 v l).at hil
  have hia : ∀ w' K, iaT P T.b v (.int .i64 (i : Nat)) w' K = K (.pointer (some ⟨b, o + i * 8, none⟩)) w' := fun w' K => by rw [hv]; simp [hil]
  have hld : ∀ K, ldN P 8 b (o + i * 8) w1 K = K (ko l[i]) w1 := fun K => ldS hc K
  have hdrop : l.drop i = l[i] :: l.drop (i + 1) := List.drop_eq_getElem_cons hil
  rw [hdrop] at hr
  simp [hia, hld]
  rw [M.ca.fcall]
  refine awm l[i] fun w2 f2 => ?_
  have no : ∀ w', Fz w w' → ¬ (ly l[i] = 0 ∧ l[i].iu = tr ∧ l[i].id ∉ (l.take i).map Spn.id) → K (.bool false) w' := fun w' f hn => by
   have := h w' f
   unfold rp at this
   rw [hr, aiu hn] at this
   simpa using this
  have c0 : ic w2 b (o + i * 8) = some (.int .u64 l[i].iu) := by
   have := hc 0 _ rfl
   rw [Nat.add_zero] at this
   rw [tz (f2.ke b hb fun h => h)]; exact this
  by_cases h1 : ly l[i] = 0
  case neg =>
   simp [h1]
   exact no w2 (f1.trans f2) fun hh => h1 hh.1
  by_cases h2 : l[i].iu = tr
  case neg =>
   simp [h1, hia, c0, h2]
   exact no w2 (f1.trans f2) fun hh => h2 hh.2.1
  simp [h1, hia, c0, h2]
  refine ⟨SiI w l i hil, fun x _ => i - ms x 1, ⟨_, 0, rfl, Nat.zero_le _, fun k _ hk => by omega, f1.trans f2⟩, ?_⟩
  rintro x w3 ⟨u, j, rfl, hj, hpre, f3⟩
  have hs3 : SlS w3 v l := hs.fr f3 fun _ _ _ h => h
  by_cases hji : j < i
  ·have hjl : j < l.length := by omega
   have hjii : (j : Int) < (i : Int) := by omega
   have hwj : IntKind.i64.wrap ((j : Int) + 1) = ((j + 1 : Nat) : Int) := by rw [ig]; rfl
   obtain ⟨b1, o1, c1, e1, _, _, k1⟩ := hs3.at hil
   obtain ⟨b2, o2, c2, e2, _, _, k2⟩ := hs3.at hjl
   have i1 : ∀ w' K, iaT P T.b v (.int .i64 (i : Nat)) w' K = K (.pointer (some ⟨b1, o1 + i * 8, none⟩)) w' := fun w' K => by rw [e1]; simp [hil]
   have i2 : ∀ w' K, iaT P T.b v (.int .i64 (j : Nat)) w' K = K (.pointer (some ⟨b2, o2 + j * 8, none⟩)) w' := fun w' K => by rw [e2]; simp [hjl]
   have q1 := k1 1 _ rfl
   have q2 := k2 1 _ rfl
   simp [hjii]
   unfold M.ab.j6
   by_cases he : l[j].id = l[i].id
   ·simp [i1, i2, q1, q2, he]
    refine no _ (f3.dr 1) fun hh => hh.2.2 ?_
    rw [List.mem_map]
    exact ⟨l[j], List.mem_take_iff_getElem.2 ⟨j, by omega, rfl⟩, he⟩
   ·simp [i1, i2, q1, q2, he, hwj]
    refine ⟨⟨_, j + 1, rfl, by omega, fun k hk hkj => ?_, f3.dr 1⟩, by simp [ms, gv]; omega⟩
    by_cases hkj2 : k = j
    ·subst hkj2; exact he
    ·exact hpre k hk (by omega)
  ·have hjii : ¬ (j : Int) < (i : Int) := by omega
   simp [hjii, hwi]
   refine ⟨⟨_, _, i + 1, rfl, by omega, ?_, f3⟩, by simp [ms, gv]; omega⟩
   have hni : l[i].id ∉ (l.take i).map Spn.id := fun hm => by
    obtain ⟨s, hs', hse⟩ := List.mem_map.1 hm
    obtain ⟨k, hk, rfl⟩ := List.mem_take_iff_getElem.1 hs'
    exact hpre k (by omega) (by omega) hse
   rw [hr, abc h1 h2 hni, List.take_add_one, List.map_append, List.getElem?_eq_getElem hil]
   rfl
 ·have hili : ¬ (i : Int) < (l.length : Int) := by omega
  have hr1 : tf tr [] l = true := by rw [hr, List.drop_of_length_le (by omega)]; rfl
  simp [hln, hil]
  unfold M.ab.j0
  have fin := h w1 f1
  unfold rp at fin
  rw [hr1] at fin
  by_cases h0 : 0 < l.length
  ·have h0' : (1 : Int) ≤ l.length := by omega
   by_cases h16 : l.length ≤ 16
   ·have h16' : (l.length : Int) ≤ 16 := by omega
    simp [hln, h0', h16']
    simpa [h0, h16] using fin
   ·have h16' : ¬ (l.length : Int) ≤ 16 := by omega
    simp [hln, h0', h16']
    simpa [h0, h16] using fin
  ·have h0' : ¬ (1 : Int) ≤ l.length := by omega
   simp [hln, h0']
   simpa [h0] using fin
def amo (l : List Int) (i : Nat) : Int := match i with
 | 0 => 0
 | i + 1 => l.getD i 0
def RrI (W : World) (l : List Int) : KL := fun x w1 => ∃ (u : Value) (i : Nat), x = [u, .int .i64 (i : Nat)] ∧ i ≤ l.length ∧ sm 0 l = sm (amo l i) (l.drop i) ∧ Fz W w1
theorem ays {w : World} {v : Value} {l : List Int} (hs : SlU w v l) (hlen : l.length ≤ 1000000) (hid : ∀ m ∈ l, 0 ≤ m) {K : KV} (h : ∀ w', Fz w w' → K (.bool (sm 0 l && (decide (0 < l.length) && decide (l.length ≤ 16)))) w') : gr P F.ee [v] w K := by
 rw [M.bn.fcall]
 apply M.bn.calls
 unfold M.bn
 simp only [ib]
 have hln : ∀ w' K, biT P .len #[T.h] T.c [false] [v] w' K = K (.int .i64 l.length) w' := fun w' K => hs.jb (by kernel_rfl) [false]
 refine ⟨RrI w l, fun x _ => l.length - ms x 1, ⟨_, 0, rfl, Nat.zero_le _, rfl, Fr.refl _ _⟩, ?_⟩
 rintro x w1 ⟨u, i, rfl, hi, hr, f1⟩
 by_cases hil : i < l.length
 ·have hili : (i : Int) < (l.length : Int) := by omega
  have hwi : IntKind.i64.wrap ((i : Int) + 1) = ((i + 1 : Nat) : Int) := by rw [ig]; rfl
  simp [hln, hil]
  unfold M.bn.j2
  have hs1 : SlU w1 v l := hs.fr f1 fun _ _ _ h => h
  obtain ⟨b, o, cap, hv, hb, hc⟩ := afa hs1 hil
  have hia : ∀ w' K, iaT P T.h v (.int .i64 (i : Nat)) w' K = K (.pointer (some ⟨b, o + i, none⟩)) w' := fun w' K => by rw [hv]; simp [hil]
  have hdrop : l.drop i = l[i] :: l.drop (i + 1) := List.drop_eq_getElem_cons hil
  rw [hdrop, sm] at hr
  have hm0 := hid _ (List.getElem_mem hil)
  have no : ¬ amo l i < l[i] → K (.bool false) (dr w1 1) := fun hn => by
   have := h _ (f1.dr 1)
   rw [hr, decide_eq_false hn] at this
   simpa using this
  have yes : amo l i < l[i] → RrI w l [u, .int .i64 (IntKind.i64.wrap ((i : Int) + 1))] (dr w1 1) ∧ l.length - ms [u, .int .i64 (IntKind.i64.wrap ((i : Int) + 1))] 1 < l.length - ms [u, .int .i64 (i : Nat)] 1 := fun hy => by
   rw [hwi]
   refine ⟨⟨_, i + 1, rfl, by omega, ?_, f1.dr 1⟩, by simp [ms, gv]; omega⟩
   rw [hr, decide_eq_true hy, Bool.true_and]
   show _ = sm (l.getD i 0) _
   rw [List.getD_eq_getElem?_getD, List.getElem?_eq_getElem hil]
   rfl
  by_cases hz : l[i] = 0
  ·simp [hia, hc, hz]
   refine no ?_
   rw [hz]
   cases i with
   | zero => simp [amo]
   | succ j =>
    show ¬ l.getD j 0 < 0
    rw [List.getD_eq_getElem?_getD, List.getElem?_eq_getElem (by omega)]
    have := hid _ (List.getElem_mem (show j < l.length by omega))
    simp; exact this
  cases i with
  | zero =>
   have yy := yes (by show 0 < _; omega)
   have hia' : ∀ w' K, iaT P T.h v (.int .i64 0) w' K = K (.pointer (some ⟨b, o + 0, none⟩)) w' := fun w' K => hia w' K
   have hc0 : ic w1 b o = some (.int .u64 l[0]) := hc
   simp [hia', hc0, hz]
   simpa using yy
  | succ j =>
   have hjl : j < l.length := by omega
   obtain ⟨b2, o2, cap2, hv2, hb2, hc2⟩ := afa hs1 hjl
   have hia2 : ∀ w' K, iaT P T.h v (.int .i64 (j : Nat)) w' K = K (.pointer (some ⟨b2, o2 + j, none⟩)) w' := fun w' K => by rw [hv2]; simp [hjl]
   have hwj : IntKind.i64.wrap (((j + 1 : Nat) : Int) - 1) = (j : Int) := by rw [ig]; omega
   have hwj' : IntKind.i64.wrap (j : Int) = (j : Int) := by rw [ig]
   have hpos : (0 : Int) < (j : Int) + 1 := by omega
   have hpos' : (0 : Int) < ((j + 1 : Nat) : Int) := by omega
   have hla : amo l (j + 1) = l[j] := by
    show l.getD j 0 = _
    rw [List.getD_eq_getElem?_getD, List.getElem?_eq_getElem hjl]; rfl
   have hia' : ∀ w' K, iaT P T.h v (.int .i64 ((j : Int) + 1)) w' K = K (.pointer (some ⟨b, o + (j + 1), none⟩)) w' := fun w' K => hia w' K
   by_cases hge : l[j + 1] ≤ l[j]
   ·simp [hia', hc, hz, hpos, hwj', hia2, hc2, hge]
    exact no (by rw [hla]; omega)
   ·have yy := yes (by rw [hla]; omega)
    simp [hia', hc, hz, hpos, hwj', hia2, hc2, hge]
    simpa using yy
 ·have hili : ¬ (i : Int) < (l.length : Int) := by omega
  have hr1 : sm 0 l = true := by rw [hr, List.drop_of_length_le (by omega)]; rfl
  simp [hln, hil]
  unfold M.bn.j0
  have fin := h w1 f1
  rw [hr1] at fin
  by_cases h0 : 0 < l.length
  ·have h0' : (1 : Int) ≤ l.length := by omega
   by_cases h16 : l.length ≤ 16
   ·have h16' : (l.length : Int) ≤ 16 := by omega
    simp [hln, h0', h16']
    simpa [h0, h16] using fin
   ·have h16' : ¬ (l.length : Int) ≤ 16 := by omega
    simp [hln, h0', h16']
    simpa [h0, h16] using fin
  ·have h0' : ¬ (1 : Int) ≤ l.length := by omega
   simp [hln, h0']
   simpa [h0] using fin
def amg (ok : Bool) (jr : Bal) (v : Int) : Bool := (decide (v = 0) || (ro v && !(decide (jr = ir)))) && (if ok = true then !(decide (v = 0)) || decide (jr = ir) else decide (v = 0) && !(decide (jr = ir)))
def nf (p : Pk) (ls : List Spn) (lm : List Mem) (lu : List Int) : Bool :=
 if p.ip = 1 ∨ p.ip = 2 then rp p.tr ls else if p.ip = 3 then aal lm else if p.ip = 4 then decide (0 < p.b.n) else if p.ip = 5 then decide (0 < p.b.n) && amg p.ok p.jr p.v else if p.ip = 6 then decide (0 < p.b.n) && ro p.v else if p.ip = 7 then decide (0 < p.b.n) && (p.ok == decide (p.jr = ir)) else if p.ip = 8 then ro p.v else if p.ip = 9 then decide (0 < p.b.n) && rp p.tr ls else if p.ip = 10 then sm 0 lu && (decide (0 < lu.length) && decide (lu.length ≤ 16)) else false
def aej (p : Pk) (ls : List Spn) (lm : List Mem) (lu : List Int) : Bool := sj p (lx p) ls (px p ls) lm (qc p lm) lu (qd p lu)
def tg (p : Pk) (ls : List Spn) (lm : List Mem) (lu : List Int) : Bool := (aej p ls lm lu && (decide (p.ip = 3) || decide (0 < p.tr))) && nf p ls lm lu
def abo (p : Pk) (ls : List Spn) (lm : List Mem) (lu : List Int) : Int := if tg p ls lm lu = true then 0 else 6
def rm (p : Pk) : Pk := if p.ip = 4 ∨ p.ip = 6 then ⟨if p.v = 0 then 4 else 6, p.tr, p.b, ir, p.v, false, iz, iz, iz⟩ else if p.ip = 5 ∨ p.ip = 7 then ⟨p.ip, p.tr, p.b, p.jr, p.v, p.ok, iz, iz, iz⟩ else lx p
theorem bfg {p : Pk} {ls : List Spn} {lm : List Mem} {lu : List Int} (hr : ya p) (hk : 1 ≤ p.ip ∧ p.ip ≤ 10) : (uh p ls lm lu && sj p (rm p) ls (px p ls) lm (qc p lm) lu (qd p lu)) = tg p ls lm lu := by
 have h1 := hr.tr.1
 have h2 := hr.b.1.1
 have core : (uh p ls lm lu && mw p (rm p)) = ((mw p (lx p) && (decide (p.ip = 3) || decide (0 < p.tr))) && nf p ls lm lu) := by
  obtain ⟨k, tr, b, jr, v, ok, sv, mv, iv⟩ := p
  simp only at hk h1 h2
  have hcase : k = 1 ∨ k = 2 ∨ k = 3 ∨ k = 4 ∨ k = 5 ∨ k = 6 ∨ k = 7 ∨ k = 8 ∨ k = 9 ∨ k = 10 := by omega
  rcases hcase with rfl | rfl | rfl | rfl | rfl | rfl | rfl | rfl | rfl | rfl
  ·simp [uh, nf, rm, lx, mw, ahw]
   cases rp tr ls <;> by_cases ht : 0 < tr <;> by_cases hb : b = ir <;> by_cases hs : jr = ir <;> by_cases hv : v = 0 <;> cases ok <;> simp [ht, hb, hs, hv]
  ·simp [uh, nf, rm, lx, mw, ahw]
   cases rp tr ls <;> by_cases ht : 0 < tr <;> by_cases hb : b = ir <;> by_cases hs : jr = ir <;> by_cases hv : v = 0 <;> cases ok <;> simp [ht, hb, hs, hv]
  ·simp [uh, nf, rm, lx, mw]
   cases aal lm <;> by_cases ht : tr = 0 <;> by_cases hb : b = ir <;> by_cases hs : jr = ir <;> by_cases hv : v = 0 <;> cases ok <;> simp [ht, hb, hs, hv]
  ·simp [uh, nf, rm, lx, mw, asq]
   by_cases ht : 0 < tr <;> by_cases hb : 0 < b.n <;> by_cases hs : jr = ir <;> by_cases hv : v = 0 <;> cases ok <;> simp [ht, hb, hs, hv]
  ·simp [uh, nf, rm, lx, mw, ahk, amg]
   by_cases ht : tr = 0 <;> by_cases hb : b.n = 0 <;> by_cases hs : jr = ir <;> by_cases hv : v = 0 <;> cases ok <;> cases htl : ro v <;> simp [ht, hb, hs, hv, htl] <;> first | omega | (subst hv; simp [ro] at htl) | skip
  ·simp [uh, nf, rm, lx, mw, asq]
   by_cases ht : 0 < tr <;> by_cases hb : 0 < b.n <;> by_cases hs : jr = ir <;> by_cases hv : v = 0 <;> cases ok <;> simp [ht, hb, hs, hv] <;> first | rfl | (simp [ro]; done) | skip
  ·simp [uh, nf, rm, lx, mw, ahk]
   by_cases ht : tr = 0 <;> by_cases hb : b.n = 0 <;> by_cases hs : jr = ir <;> by_cases hv : v = 0 <;> cases ok <;> simp [ht, hb, hs, hv] <;> first | omega | skip
  ·simp [uh, nf, rm, lx, mw, aql]
   by_cases ht : 0 < tr <;> by_cases hb : b = ir <;> by_cases hs : jr = ir <;> cases ok <;> simp [ht, hb, hs]
  ·simp [uh, nf, rm, lx, mw, ajo]
   cases rp tr ls <;> by_cases ht : 0 < tr <;> by_cases hb : 0 < b.n <;> by_cases hs : jr = ir <;> by_cases hv : v = 0 <;> cases ok <;> simp [ht, hb, hs, hv]
  ·simp [uh, nf, rm, lx, mw, amb]
   cases sm 0 lu <;> by_cases ht : 0 < tr <;> by_cases hb : b = ir <;> by_cases hs : jr = ir <;> by_cases hv : v = 0 <;> cases ok <;> simp [ht, hb, hs, hv]
 unfold tg aej sj
 generalize decide (lm = qc p lm) = A
 generalize decide (lu = qd p lu) = B
 generalize td ls (px p ls) = C
 cases A <;> cases B <;> cases C <;> simp <;> simpa using core
theorem xj {p q q' : Pk} (h1 : q.ip = q'.ip) (h2 : q.tr = q'.tr) (h3 : q.b = q'.b) (h4 : q.jr = q'.jr) (h5 : q.v = q'.v) (h6 : q.ok = q'.ok) : mw p q = mw p q' := by
 unfold mw; rw [h1, h2, h3, h4, h5, h6]
theorem bdt {w : World} {p : Pk} {ls : List Spn} {lm : List Mem} {lu : List Int} {t : Value} (ht : ThR w p ls lm lu t) (hk : 1 ≤ p.ip ∧ p.ip ≤ 10) (l1 : ls.length ≤ 1000000) (l2 : lm.length ≤ 1000000) (l3 : lu.length ≤ 1000000) {K : KV}
  (h : ∀ w' q, ql w' q (px p ls) (qc p lm) (qd p lu) → (∀ x, mw x q = mw x (rm p)) → Fz w w' → K (pkA q) w') : gr P F.ax [t] w K := by
 have e0 : ([] : List Spn).length ≤ 1000000 := by simp
 have e1 : ([] : List Mem).length ≤ 1000000 := by simp
 have e2 : ([] : List Int).length ≤ 1000000 := by simp
 cases ht with
 | om v q hs =>
  have hS : px p ls = ls := by unfold px; rw [if_pos (by omega)]
  have hM : qc p lm = [] := by unfold qc; rw [if_neg (by omega)]
  have hU : qd p lu = [] := by unfold qd; rw [if_neg (by omega)]
  rw [hS, hM, hU] at h
  refine anq hs l1 fun w' v' s f => h w' _ ⟨s, Sl.nil, Sl.nil, l1, e1, e2⟩ (fun x => xj ?_ ?_ ?_ ?_ ?_ ?_) f
  all_goals rcases q with q | q <;> simp [rm, lx, q]
 | ahx v q hs =>
  have hS : px p ls = [] := by unfold px; rw [if_neg (by omega)]
  have hM : qc p lm = lm := by unfold qc; rw [if_pos (by omega)]
  have hU : qd p lu = [] := by unfold qd; rw [if_neg (by omega)]
  rw [hS, hM, hU] at h
  refine aza hs l2 fun w' v' s f => h w' ⟨3, 0, ir, ir, 0, false, iz, v', iz⟩ ⟨Sl.nil, s, Sl.nil, e0, l2, e2⟩ (fun x => xj ?_ ?_ ?_ ?_ ?_ ?_) f
  all_goals simp [rm, lx, q]
 | ask q =>
  have hS : px p ls = [] := by unfold px; rw [if_neg (by omega)]
  have hM : qc p lm = [] := by unfold qc; rw [if_neg (by omega)]
  have hU : qd p lu = [] := by unfold qd; rw [if_neg (by omega)]
  rw [hS, hM, hU] at h
  refine ati fun w' f => h w' _ ⟨Sl.nil, Sl.nil, Sl.nil, e0, e1, e2⟩ (fun x => xj ?_ ?_ ?_ ?_ ?_ ?_) f
  all_goals rcases q with q | q <;> simp [rm, biu, q]
 | aaf q =>
  have hS : px p ls = [] := by unfold px; rw [if_neg (by omega)]
  have hM : qc p lm = [] := by unfold qc; rw [if_neg (by omega)]
  have hU : qd p lu = [] := by unfold qd; rw [if_neg (by omega)]
  rw [hS, hM, hU] at h
  refine aoi fun w' f => h w' _ ⟨Sl.nil, Sl.nil, Sl.nil, e0, e1, e2⟩ (fun x => xj ?_ ?_ ?_ ?_ ?_ ?_) f
  all_goals rcases q with q | q <;> simp [rm, q]
 | wg q =>
  have hS : px p ls = [] := by unfold px; rw [if_neg (by omega)]
  have hM : qc p lm = [] := by unfold qc; rw [if_neg (by omega)]
  have hU : qd p lu = [] := by unfold qd; rw [if_neg (by omega)]
  rw [hS, hM, hU] at h
  refine aqb fun w' f => h w' _ ⟨Sl.nil, Sl.nil, Sl.nil, e0, e1, e2⟩ (fun x => xj ?_ ?_ ?_ ?_ ?_ ?_) f
  all_goals simp [rm, lx, q]
 | xu v q hs =>
  have hS : px p ls = ls := by unfold px; rw [if_pos (by omega)]
  have hM : qc p lm = [] := by unfold qc; rw [if_neg (by omega)]
  have hU : qd p lu = [] := by unfold qd; rw [if_neg (by omega)]
  rw [hS, hM, hU] at h
  refine amz hs l1 fun w' v' s f => h w' _ ⟨s, Sl.nil, Sl.nil, l1, e1, e2⟩ (fun x => xj ?_ ?_ ?_ ?_ ?_ ?_) f
  all_goals simp [rm, lx, q]
 | aac v q hs =>
  have hS : px p ls = [] := by unfold px; rw [if_neg (by omega)]
  have hM : qc p lm = [] := by unfold qc; rw [if_neg (by omega)]
  have hU : qd p lu = lu := by unfold qd; rw [if_pos (by omega)]
  rw [hS, hM, hU] at h
  refine aod hs l3 fun w' v' s f => h w' _ ⟨Sl.nil, Sl.nil, s, e0, e1, l3⟩ (fun x => xj ?_ ?_ ?_ ?_ ?_ ?_) f
  all_goals simp [rm, lx, q]
 | none q => exact absurd hk q
theorem bbr {p : Pk} {ls : List Spn} {lm : List Mem} {lu : List Int} (h : ¬ (1 ≤ p.ip ∧ p.ip ≤ 10)) : tg p ls lm lu = false := by
 unfold tg nf
 rw [if_neg (by omega), if_neg (by omega), if_neg (by omega), if_neg (by omega), if_neg (by omega), if_neg (by omega), if_neg (by omega), if_neg (by omega), if_neg (by omega), Bool.and_false]
theorem aiq {w : World} {p : Pk} {ls : List Spn} {lm : List Mem} {lu : List Int} (hp : ql w p ls lm lu) (hr : ya p) {K : KV} (h : ∀ w', Fz w w' → K (.int .i64 (abo p ls lm lu)) w') : gr P F.em [pkA p] w K := by
 rw [M.ej.fcall]
 apply M.ej.calls
 unfold M.ej
 refine St.tt (St.ji w) fun pb w1 S1 => ?_
 have S1' : St w w1 (iq pb (pkC p).toArray T.a :: []) := S1
 have pl := fun K => xf S1' K
 simp [pl]
 refine aph (hp.fr S1.fr) fun w2 t ht _ f2 => ?_
 have S2 := S1'.jt f2
 have S3 := S2.jt ((Fr.refl _ w2).dr 1)
 unfold abo at h
 by_cases hk : 1 ≤ p.ip ∧ p.ip ≤ 10
 case neg =>
  rw [ht.bol hk]
  rw [bbr hk] at h
  simp [blb]
  exact h _ S3.fr
 rw [← bfg hr hk] at h
 simp [ht.eqn hk]
 have ht3 := ht.fr ((Fr.refl _ w2).dr 1)
 refine blc ht3 hk hp.ls hp.lm hp.lu fun w4 f4 => ?_
 have S4 := S3.jt f4
 have pl4 := fun K => xf S4 K
 cases hb : uh p ls lm lu with
 | false =>
  rw [hb] at h
  simp
  exact h _ S4.fr
 | true =>
 rw [hb, Bool.true_and] at h
 simp [pl4]
 refine bdt (ht3.fr f4) hk hp.ls hp.lm hp.lu fun w5 q hq hf f5 => ?_
 have S5 := S4.jt f5
 have pl5 := fun K => xf S5 K
 simp [pl5]
 refine bir (hp.fr S5.fr) hq fun w6 f6 => ?_
 have S6 := S5.jt f6
 have fin := h w6 S6.fr
 have e : sj p q ls (px p ls) lm (qc p lm) lu (qd p lu) = sj p (rm p) ls (px p ls) lm (qc p lm) lu (qd p lu) := by unfold sj; rw [hf p]
 rw [e]
 generalize sj p (rm p) ls (px p ls) lm (qc p lm) lu (qd p lu) = bb at *
 cases bb with
 | true => simp at fin ⊢; exact fin
 | false => simp at fin ⊢; exact fin
theorem bgq {w : World} {p : Pk} {ls : List Spn} {lm : List Mem} {lu : List Int} (hp : ql w p ls lm lu) (hr : ya p) {K : KV} (h1 : tg p ls lm lu = true → ∀ w' t, ThR w' p ls lm lu t → ako w t → Fz w w' → K (.tuple #[t, .int .i64 0]) w') (h0 : tg p ls lm lu = false → ∀ w', Fz w w' → K (.tuple #[.nilIface, .int .i64 6]) w') : gr P F.fj [pkA p] w K := by
 rw [M.ez.fcall]
 apply M.ez.calls
 unfold M.ez
 refine St.tt (St.ji w) fun pb w1 S1 => ?_
 have S1' : St w w1 (iq pb (pkC p).toArray T.a :: []) := S1
 have pl := fun K => xf S1' K
 simp [pl]
 refine aiq (hp.fr S1.fr) hr fun w2 f2 => ?_
 have S2 := S1'.jt f2
 unfold abo
 cases he : tg p ls lm lu with
 | false =>
  simp
  exact h0 he w2 S2.fr
 | true =>
  simp
  have pl2 := fun K => xf S2 K
  simp [pl2]
  refine aph (hp.fr S2.fr) fun w3 t ht ho f3 => ?_
  exact h1 he w3 t ht (ho.mono S2.fr.size) (S2.jt f3).fr
theorem afb {x : Int} (h : 0 ≤ x) : decide (0 < x) = !decide (x = 0) := by
 by_cases hx : x = 0
 ·simp [hx]
 ·have : 0 < x := by omega
  simp [hx, this]
theorem blr {v : Int} : ro v = (decide (1 ≤ v) && decide (v ≤ 3)) := by unfold ro; simp
theorem aqi {w : World} {p : Pk} {ls : List Spn} {lm : List Mem} {lu : List Int} (hp : ql w p ls lm lu) (hr : ya p) (hm : ∀ m ∈ lm, 0 ≤ m.id) (hu : ∀ m ∈ lu, 0 ≤ m) {K : KV} (h : ∀ w', Fz w w' → K (.int .i64 (abo p ls lm lu)) w') : gr P F.dt [pkA p] w K := by
 rw [M.ay.fcall]
 apply M.ay.calls
 unfold M.ay
 refine St.tt (St.ji w) fun pb w1 S1 => ?_
 have S1' : St w w1 (iq pb (pkC p).toArray T.a :: []) := S1
 obtain ⟨_, _, _, c4, _⟩ := ju S1'
 have S1d := S1'.jt ((Fr.refl _ w1).dr 1)
 have pl := fun K => xf S1d K
 simp [c4, bon, wu, pl]
 refine bkz (hp.fr S1d.fr) fun w2 f2 => ?_
 have S2 := S1d.jt f2
 have pl2 := fun K => xf S2 K
 simp [pl2]
 refine bdr (hp.fr S2.fr) (axj (hp.fr S2.fr)) fun w3 f3 => ?_
 have S3 := S2.jt f3
 obtain ⟨c0, c1, c2, c4, c6, c7, c8, c9, c10, _⟩ := ju S3
 have hbn : ic w3 pb 2 = some (.int .u64 p.b.n) := by rw [S3.cell]; rfl
 have hp3 := hp.fr S3.fr
 show _
 have eB : sj p (lx p) ls (px p ls) lm (qc p lm) lu (qd p lu) = aej p ls lm lu := rfl
 rw [eB]
 have h1 := hr.tr.1
 have h2 := hr.b.1.1
 unfold abo tg at h
 rw [afb h1] at h
 have hbo : agf P T.av = true := by kernel_rfl
 -- the wg of its verdict
 have main : ∀ (B : Bool), B = (aej p ls lm lu && (decide (p.ip = 3) || !decide (p.tr = 0))) → ∀ (K0 : KL), (∀ (v0 v1 : Value) (r : List Value) (w4 : World), Fz w w4 → K0 (v0 :: v1 :: .bool (B && nf p ls lm lu) :: r) w4) →
   ∀ t33 x1, t33 = .int .i64 p.ip → x1 = [.bool (decide (p.ip = 1) || decide (p.ip = 2))] → M.ay.j1 x1 (.bool B) (.pointer (some ⟨pb, 0, none⟩)) K0 t33 (.bool (ro p.v)) (.bool (decide (p.jr = ir))) w3 K := by
  intro B eB K0 hK t33 x1 e33 ex
  subst e33 ex
  unfold M.ay.j1
  have fin := fun v0 v1 r => hK v0 v1 r w3 S3.fr
  by_cases q12 : p.ip = 1 ∨ p.ip = 2
  ·have hk : nf p ls lm lu = rp p.tr ls := by unfold nf; rw [if_pos q12]
   rw [hk] at hK fin
   have hd : (decide (p.ip = 1) || decide (p.ip = 2)) = true := by simpa using q12
   rw [hd]
   cases B with
   | false => simp at fin ⊢; exact fin _ _ _
   | true =>
    simp [c1, c8]
    refine agx hp3.s hp.ls fun w4 f4 => ?_
    exact hK _ _ _ w4 (S3.fr.trans f4)
  have n1 : ¬ p.ip = 1 := fun h => q12 (.inl h)
  have n2 : ¬ p.ip = 2 := fun h => q12 (.inr h)
  by_cases q3 : p.ip = 3
  ·have hk : nf p ls lm lu = aal lm := by unfold nf; rw [if_neg q12, if_pos q3]
   rw [hk] at hK fin
   cases B with
   | false => simp [n1, n2, q3] at fin ⊢; exact fin _ _ _
   | true =>
    simp [q3, c9]
    refine aqj hp3.m hp.lm hm fun w4 f4 => ?_
    exact hK _ _ _ w4 (S3.fr.trans f4)
  by_cases q4 : p.ip = 4
  ·have hk : nf p ls lm lu = !decide (p.b.n = 0) := by unfold nf; rw [if_neg q12, if_neg q3, if_pos q4, afb h2]
   rw [hk] at hK fin
   cases B with
   | false => simp [n1, n2, q3, q4] at fin ⊢; exact fin _ _ _
   | true => simp [q4, hbn] at fin ⊢; exact fin _ _ _
  by_cases q5 : p.ip = 5
  ·have hk : nf p ls lm lu = (!decide (p.b.n = 0) && amg p.ok p.jr p.v) := by unfold nf; rw [if_neg q12, if_neg q3, if_neg q4, if_pos q5, afb h2]
   rw [hk] at hK fin
   unfold amg at fin
   cases B with
   | false => cases hok : p.ok <;> simp [n1, n2, q3, q4, q5, c7, hok] at fin ⊢ <;> exact fin _ _ _
   | true =>
    cases hok : p.ok <;> cases htl : ro p.v <;> by_cases hb : p.b.n = 0 <;> by_cases hv : p.v = 0 <;> by_cases hs : p.jr = ir <;> simp [q5, hbn, c7, c6, hok, htl, hb, hv, hs] at fin ⊢ <;> exact fin _ _ _
  by_cases q6 : p.ip = 6
  ·have hk : nf p ls lm lu = (!decide (p.b.n = 0) && ro p.v) := by unfold nf; rw [if_neg q12, if_neg q3, if_neg q4, if_neg q5, if_pos q6, afb h2]
   rw [hk] at hK fin
   cases B with
   | false => simp [n1, n2, q3, q4, q5, q6] at fin ⊢; exact fin _ _ _
   | true => by_cases hb : p.b.n = 0 <;> simp [q6, hbn, hb] at fin ⊢ <;> exact fin _ _ _
  by_cases q7 : p.ip = 7
  ·have hk : nf p ls lm lu = (!decide (p.b.n = 0) && (p.ok == decide (p.jr = ir))) := by unfold nf; rw [if_neg q12, if_neg q3, if_neg q4, if_neg q5, if_neg q6, if_pos q7, afb h2]
   rw [hk] at hK fin
   cases B with
   | false => simp [n1, n2, q3, q4, q5, q6, q7] at fin ⊢; exact fin _ _ _
   | true => by_cases hb : p.b.n = 0 <;> simp [q7, hbn, hb, c7, aga hbo] at fin ⊢ <;> exact fin _ _ _
  by_cases q8 : p.ip = 8
  ·have hk : nf p ls lm lu = ro p.v := by unfold nf; rw [if_neg q12, if_neg q3, if_neg q4, if_neg q5, if_neg q6, if_neg q7, if_pos q8]
   rw [hk] at hK fin
   cases B with
   | false => simp [n1, n2, q3, q4, q5, q6, q7, q8] at fin ⊢; exact fin _ _ _
   | true => simp [q8] at fin ⊢; exact fin _ _ _
  by_cases q9 : p.ip = 9
  ·have hk : nf p ls lm lu = (!decide (p.b.n = 0) && rp p.tr ls) := by unfold nf; rw [if_neg q12, if_neg q3, if_neg q4, if_neg q5, if_neg q6, if_neg q7, if_neg q8, if_pos q9, afb h2]
   rw [hk] at hK fin
   cases B with
   | false => simp [n1, n2, q3, q4, q5, q6, q7, q8, q9] at fin ⊢; exact fin _ _ _
   | true =>
    by_cases hb : p.b.n = 0
    ·simp [q9, hbn, hb] at fin ⊢; exact fin _ _ _
    ·simp [q9, hbn, hb, c1, c8]
     refine agx hp3.s hp.ls fun w4 f4 => ?_
     have fin4 := fun v0 v1 r => hK v0 v1 r w4 (S3.fr.trans f4)
     simp [hb] at fin4 ⊢
     exact fin4 _ _ _
  by_cases q10 : p.ip = 10
  ·have hk : nf p ls lm lu = (sm 0 lu && (decide (0 < lu.length) && decide (lu.length ≤ 16))) := by unfold nf; rw [if_neg q12, if_neg q3, if_neg q4, if_neg q5, if_neg q6, if_neg q7, if_neg q8, if_neg q9, if_pos q10]
   rw [hk] at hK fin
   cases B with
   | false => simp [n1, n2, q3, q4, q5, q6, q7, q8, q9, q10] at fin ⊢; exact fin _ _ _
   | true =>
    simp [q10, c10]
    refine ays hp3.u hp.lu hu fun w4 f4 => ?_
    exact hK _ _ _ w4 (S3.fr.trans f4)
  ·have hk : nf p ls lm lu = false := by unfold nf; rw [if_neg q12, if_neg q3, if_neg q4, if_neg q5, if_neg q6, if_neg q7, if_neg q8, if_neg q9, if_neg q10]
   rw [hk, Bool.and_false] at fin
   simp [n1, n2, q3, q4, q5, q6, q7, q8, q9, q10]
   exact fin _ _ _
 have fin : ∀ w4, Fz w w4 → K (.int .i64 (if (((aej p ls lm lu && (decide (p.ip = 3) || !decide (p.tr = 0))) && nf p ls lm lu) = true) then 0 else 6)) w4 := h
 have m2 := main _ rfl
 have tl : ro p.v = (decide (1 ≤ p.v) && decide (p.v ≤ 3)) := blr
 generalize aej p ls lm lu = E at *
 have m3 := fun e K0 hK t33 x1 a b => main (E && (decide (p.ip = 3) || !decide (p.tr = 0))) e K0 hK t33 x1 a b
 have m4 := m3 rfl
 have tailK : ∀ (X : Bool) (w4 : World), X = ((E && (decide (p.ip = 3) || !decide (p.tr = 0))) && nf p ls lm lu) → Fz w w4 → (unT P .not (.bool X) w4 fun t162 w => ia t162 (K (.int .i64 6) w) (K (.int .i64 0) w)) := fun X w4 e f => by
  have := fin w4 f
  rw [← e] at this
  cases X with
  | true => simp at this ⊢; exact this
  | false => simp at this ⊢; exact this
 have fork : M.ay.j1 [.bool (decide (p.ip = 1) || decide (p.ip = 2))] (.bool (E && (decide (p.ip = 3) || !decide (p.tr = 0)))) (.pointer (some ⟨pb, 0, none⟩)) (fun x0 w => unT P .not (gv x0 2) w fun t162 w => ia t162 (K (.int .i64 6) w) (K (.int .i64 0) w)) (.int .i64 p.ip) (.bool (ro p.v)) (.bool (decide (p.jr = ir))) w3 K :=
  m4 _ (fun v0 v1 r w4 f4 => tailK _ w4 rfl f4) _ _ rfl rfl
 clear main m3 m4 m2
 have tl1 : ∀ {Q : Value → World → Prop}, Q (.bool (ro p.v)) w3 → (ij P .geq T.q (.tmp 25) (.const (.int .i64 1)) (.int .i64 p.v) (.int .i64 1) w3 fun t26 w => gq (isB t26 true) (fun K' => K' (.pointer (some ⟨pb, 6, none⟩)) w) w fun t28 w => gq (isB t26 true) (fun K' => ldT P T.q t28 w K') w fun t29 w => gq (isB t26 true) (fun K' => ij P .leq T.q (.tmp 29) (.const (.int .i64 3)) t29 (.int .i64 3) w K') w fun t30 w => il t26 t30 (.bool false) w Q) := fun {Q} hQ => by
  rw [tl] at hQ
  by_cases v1 : 1 ≤ p.v
  ·by_cases v3 : p.v ≤ 3
   ·simp [v1, v3, c6] at hQ ⊢; exact hQ
   ·simp [v1, v3, c6] at hQ ⊢; exact hQ
  ·simp [v1] at hQ ⊢; exact hQ
 have go : (ij P .geq T.q (.tmp 25) (.const (.int .i64 1)) (.int .i64 p.v) (.int .i64 1) w3 fun t26 w => gq (isB t26 true) (fun K' => K' (.pointer (some ⟨pb, 6, none⟩)) w) w fun t28 w => gq (isB t26 true) (fun K' => ldT P T.q t28 w K') w fun t29 w => gq (isB t26 true) (fun K' => ij P .leq T.q (.tmp 29) (.const (.int .i64 3)) t29 (.int .i64 3) w K') w fun t30 w => il t26 t30 (.bool false) w fun t31 w =>
   ldT P T.c (.pointer (some ⟨pb, 0, none⟩)) w fun t33 w => ij P .eql T.c (.tmp 33) (.const (.int .i64 1)) t33 (.int .i64 1) w fun t35 w =>
   ia t35 (M.ay.j1 [t35] (.bool (E && (decide (p.ip = 3) || !decide (p.tr = 0)))) (.pointer (some ⟨pb, 0, none⟩)) (fun x0 w => unT P .not (gv x0 2) w fun t162 w => ia t162 (K (.int .i64 6) w) (K (.int .i64 0) w)) t33 t31 (.bool (decide (p.jr = ir))) w K)
    (ij P .eql T.c (.tmp 33) (.const (.int .i64 2)) t33 (.int .i64 2) w fun t36 w => M.ay.j1 [t36] (.bool (E && (decide (p.ip = 3) || !decide (p.tr = 0)))) (.pointer (some ⟨pb, 0, none⟩)) (fun x0 w => unT P .not (gv x0 2) w fun t162 w => ia t162 (K (.int .i64 6) w) (K (.int .i64 0) w)) t33 t31 (.bool (decide (p.jr = ir))) w K)) := by
  refine tl1 ?_
  simp [c0]
  by_cases k1 : p.ip = 1
  ·simp [k1] at fork ⊢; exact fork
  ·simp [k1] at fork ⊢; exact fork
 clear fork tl1
 cases E with
 | false =>
  simp [c6] at go ⊢
  exact go
 | true =>
  by_cases k3 : p.ip = 3
  ·simp [c0, c6, k3] at go ⊢
   exact go
  ·simp [c0, c1, c6, k3] at go ⊢
   exact go
structure aix (ls : List Spn) (lm : List Mem) (lu : List Int) : Prop where
 s : ls.length ≤ 40
 m : lm.length ≤ 100
 u : lu.length ≤ 100
 nm : ∀ x ∈ ls, x.name.size ≤ 200 ∧ x.kf.size ≤ 200
theorem aat.aqu {w : World} {p : Pk} {ls : List Spn} {lm : List Mem} {lu : List Int} (h : aat w p ls lm lu) (l : aix ls lm lu) : ql w p ls lm lu := h.rd (by have := l.s; omega) (by have := l.m; omega) (by have := l.u; omega)
def LiI (W : World) (pb : Nat) (p : Pk) (ls : List Spn) : KL := fun x w1 => ∃ (u : Value) (i : Nat), x = [u, .int .i64 (i : Nat)] ∧ i ≤ ls.length ∧ (∀ j (h : j < ls.length), j < i → ls[j].name.size ≤ 200 ∧ ls[j].kf.size ≤ 200) ∧ St W w1 (iq pb (pkC p).toArray T.a :: [])
theorem bek {w : World} {p : Pk} {ls : List Spn} {lm : List Mem} {lu : List Int} (hp : aat w p ls lm lu) {K : KV} (h : ∀ bb w', (bb = true → aix ls lm lu) → Fz w w' → K (.bool bb) w') : gr P F.dn [pkA p] w K := by
 rw [M.bd.fcall]
 apply M.bd.calls
 unfold M.bd
 refine St.tt (St.ji w) fun pb w1 S1 => ?_
 have S1' : St w w1 (iq pb (pkC p).toArray T.a :: []) := S1
 obtain ⟨_, _, _, _, _, _, c8, c9, c10, _⟩ := ju S1'
 have l1 : ∀ w' K, biT P .len #[T.b] T.c [false] [p.sv] w' K = K (.int .i64 ls.length) w' := fun w' K => hp.s.jb (by kernel_rfl) [false]
 have l2 : ∀ w' K, biT P .len #[T.k] T.c [false] [p.mv] w' K = K (.int .i64 lm.length) w' := fun w' K => hp.m.jb (by kernel_rfl) [false]
 have l3 : ∀ w' K, biT P .len #[T.h] T.c [false] [p.iv] w' K = K (.int .i64 lu.length) w' := fun w' K => hp.u.jb (by kernel_rfl) [false]
 have no : ∀ w', Fz w w' → K (.bool false) w' := fun w' f => h false w' (fun h => by cases h) f
 by_cases h1 : 40 < ls.length
 ·have h1' : (40 : Int) < ls.length := by omega
  simp [c8, l1, h1']
  exact no _ S1.fr
 have h1' : ¬ (40 : Int) < ls.length := by omega
 by_cases h2 : 100 < lm.length
 ·have h2' : (100 : Int) < lm.length := by omega
  simp [c8, l1, h1', c9, l2, h2']
  exact no _ S1.fr
 have h2' : ¬ (100 : Int) < lm.length := by omega
 by_cases h3 : 100 < lu.length
 ·have h3' : (100 : Int) < lu.length := by omega
  simp [c8, l1, h1', c9, l2, h2', c10, l3, h3']
  exact no _ S1.fr
 have h3' : ¬ (100 : Int) < lu.length := by omega
 simp [c8, l1, h1', c9, l2, h2', c10, l3, h3']
 refine ⟨LiI w pb p ls, fun x _ => ls.length - ms x 1, ⟨_, 0, rfl, Nat.zero_le _, fun j _ h => by omega, S1'⟩, ?_⟩
 rintro x w2 ⟨u, i, rfl, hi, hpre, S2⟩
 unfold M.bd.j2
 obtain ⟨_, _, _, _, _, _, c8, _⟩ := ju S2
 by_cases hil : i < ls.length
 ·have hili : (i : Int) < (ls.length : Int) := by omega
  have hwi : IntKind.i64.wrap ((i : Int) + 1) = ((i + 1 : Nat) : Int) := by rw [ig]; rfl
  obtain ⟨b, o, cap, hv, _, _, k1⟩ := (hp.fr S2.fr).s.at hil
  have hia : ∀ w' K, iaT P T.b p.sv (.int .i64 (i : Nat)) w' K = K (.pointer (some ⟨b, o + i * 8, none⟩)) w' := fun w' K => by rw [hv]; simp [hil]
  have n6 := k1 6 _ rfl
  have n5 := k1 5 _ rfl
  have lstr : ∀ (s : ByteArray) w' K, biT P .len #[T.ah] T.c [false] [.string s] w' K = K (.int .i64 s.size) w' := fun s w' K => ayg (by kernel_rfl) [false] s w' K
  simp [c8, l1, hil]
  unfold M.bd.j3
  by_cases q1 : 200 < ls[i].name.size
  ·have q1' : (200 : Int) < (ls[i].name.size : Int) := by omega
   simp [c8, hia, n6, lstr, q1']
   exact no _ S2.fr
  have q1' : ¬ (200 : Int) < (ls[i].name.size : Int) := by omega
  by_cases q2 : 200 < ls[i].kf.size
  ·have q2' : (200 : Int) < (ls[i].kf.size : Int) := by omega
   simp [c8, hia, n6, n5, lstr, q1', q2']
   exact no _ S2.fr
  have q2' : ¬ (200 : Int) < (ls[i].kf.size : Int) := by omega
  simp [c8, hia, n6, n5, lstr, q1', q2', hwi]
  refine ⟨⟨_, i + 1, rfl, by omega, fun j hj hlt => ?_, S2⟩, by simp [ms, gv]; omega⟩
  by_cases hji : j = i
  ·subst hji; omega
  ·exact hpre j hj (by omega)
 ·have hili : ¬ (i : Int) < (ls.length : Int) := by omega
  simp [c8, l1, hil]
  refine h true _ (fun _ => ⟨by omega, by omega, by omega, fun x hx => ?_⟩) S2.fr
  obtain ⟨j, hj, rfl⟩ := List.getElem_of_mem hx
  exact hpre j hj (by omega)
section
variable {i : Nat} {g : Nat → Rg} {val jl : Nat → Int} {prop : Nat → Prop} {tk : List (Nat × Nat)}
end
open Go.Eng Go.Proofs.YtfnhoaemapheoaaGreat.Sint
section
variable {s f : Int} {L : Lg} {F : Nat} {D : Dk} {m : adq}
end
theorem bpg (a b c d e : Int) (w : World) (K : KV) : ki P T.be #[(0, .int .u64 a), (1, .int .u64 b), (2, .int .u64 c), (3, .int .u64 d), (4, .int .u64 e)] w K = K (.agg #[.int .u64 a, .int .u64 b, .int .u64 c, .int .u64 d, .int .u64 e]) w := kr
theorem bod (a b c d e : Value) (w : World) (K : KV) : ixT P T.be (.agg #[a, b, c, d, e]) (.int .i64 0) w K = K a w := kr
theorem bou (a b c d e : Value) (w : World) (K : KV) : ixT P T.be (.agg #[a, b, c, d, e]) (.int .i64 1) w K = K b w := kr
theorem bom (a b c d e : Value) (w : World) (K : KV) : ixT P T.be (.agg #[a, b, c, d, e]) (.int .i64 2) w K = K c w := kr
theorem bpa (a b c d e : Value) (w : World) (K : KV) : ixT P T.be (.agg #[a, b, c, d, e]) (.int .i64 3) w K = K d w := kr
theorem bnx (a b c d e : Value) (w : World) (K : KV) : ixT P T.be (.agg #[a, b, c, d, e]) (.int .i64 4) w K = K e w := kr
theorem ags : ∀ l : List Int, (l.flatMap mh).length = l.length * 8
 | [] => rfl
 | x :: l => by rw [List.flatMap_cons, List.length_append, mj, ags l, List.length_cons]; omega
section
variable {w0 w : World} {R : List Asn}
theorem bnh (a b c d e : Int) {i : Nat} (hi : i < 5) (w : World) (K : KV) : ixT P T.be (.agg #[.int .u64 a, .int .u64 b, .int .u64 c, .int .u64 d, .int .u64 e]) (.int .i64 (i : Nat)) w K = K (.int .u64 ([a, b, c, d, e][i]'hi)) w := by
 match i, hi with
 | 0, _ => exact bod _ _ _ _ _ _ _
 | 1, _ => exact bou _ _ _ _ _ _ _
 | 2, _ => exact bom _ _ _ _ _ _ _
 | 3, _ => exact bpa _ _ _ _ _ _ _
 | 4, _ => exact bnx _ _ _ _ _ _ _
end
def aeg (b : Bool) : Int := if b = true then 1 else 0
def xy (s : ByteArray) : List Int := (s.size : Int) :: zi s
def wi (s : Spn) : List Int := [s.iu, s.id, s.ou, s.ji, s.len]
def qe (s : Spn) : List Int := (wi s).flatMap mh ++ [aeg s.ru] ++ xy s.kf ++ xy s.name
theorem ahv {s : Spn} (h : ly s = 0) : s.kf.size ≤ 32 ∧ s.name.size ≤ 32 := by
 unfold ly at h
 split at h
 ·cases h
 ·unfold orK at h
  have hn : ∀ b : ByteArray, qi b = 0 → b.size ≤ 32 := fun b hb => by
   unfold qi at hb
   split at hb
   ·cases hb
   ·rename_i hh
    have := not_or.1 hh
    omega
  by_cases ha : qi s.kf = 0
  ·by_cases hb : qi s.name = 0
   ·exact ⟨hn _ ha, hn _ hb⟩
   ·simp [ha, hb] at h
  ·simp [ha] at h
def P5I (w0 : World) (s : Spn) (l : List Int) (R : List Asn) : KL := fun x w1 => ∃ (u v : Value) (i : Nat), x = [u, v, .int .i64 (i : Nat)] ∧ i ≤ 5 ∧ St w0 w1 (ky v (l ++ ((wi s).take i).flatMap mh) :: R)
def P2I (w0 : World) (s : Spn) (l : List Int) (R : List Asn) : KL := fun x w1 => ∃ (u v : Value) (i : Nat), x = [u, v, .int .i64 (i : Nat)] ∧ i ≤ 2 ∧ St w0 w1 (ky v (l ++ (([s.kf, s.name] : List ByteArray).take i).flatMap xy) :: R)
theorem boq (a b : ByteArray) (w : World) (K : KV) : ki P T.bi #[(0, .string a), (1, .string b)] w K = K (.agg #[.string a, .string b]) w := kr
theorem bof (a b : Value) (w : World) (K : KV) : ixT P T.bi (.agg #[a, b]) (.int .i64 0) w K = K a w := kr
theorem bnz (a b : Value) (w : World) (K : KV) : ixT P T.bi (.agg #[a, b]) (.int .i64 1) w K = K b w := kr
section
variable {w0 w : World} {R : List Asn}
theorem azc (S : St w0 w R) {v : Value} {l : List Int} (hs : ∀ w' L, St w0 w' (L ++ R) → SlB w' v l) (hl : l.length ≤ 10000000) {s : Spn} (hr : ly s = 0) {K : KV} (h : ∀ w' v', St w0 w' (ky v' (l ++ qe s) :: R) → K (.tuple #[v', .int .i64 0]) w') : gr P F.fx [v, ko s] w K := by
 obtain ⟨n1, n2⟩ := ahv hr
 rw [M.ci.fcall]
 apply M.ci.calls
 unfold M.ci
 refine St.tt S fun b w1 S1 => ?_
 have S1' : St w0 w1 (iq b (ja s).toArray T.e :: R) := S1
 have cl : ∀ {w' : World} {L : List Asn}, St w0 w' (iq b (ja s).toArray T.e :: L) → ic w' b 0 = some (.int .u64 s.iu) ∧ ic w' b 1 = some (.int .u64 s.id) ∧ ic w' b 2 = some (.int .u64 s.ou) ∧ ic w' b 3 = some (.int .u64 s.ji) ∧ ic w' b 4 = some (.int .u64 s.len) ∧ ic w' b 5 = some (.string s.kf) ∧ ic w' b 6 = some (.string s.name) ∧ ic w' b 7 = some (.bool s.ru) := fun S' => by
  refine ⟨?_, ?_, ?_, ?_, ?_, ?_, ?_, ?_⟩ <;> rw [S'.cell] <;> rfl
 have sl : ∀ K, ldN P 8 b 0 w1 K = K (ko s) w1 := fun K => S1'.ldA (n := 8) (i := 0) (ja s) rfl rfl K
 simp [sl]
 rw [M.de.fcall]
 refine akk s fun w2 f2 => ?_
 rw [hr]
 have S2 := S1'.jt f2
 simp
 unfold M.ci.j0
 refine xq S2 (hs w2 [_] S2) (by omega) fun w3 v3 S3 => ?_
 obtain ⟨c0, c1, c2, c3, c4, _⟩ := cl S3.swap
 simp [c0, c1, c2, c3, c4, bpg]
 have hl5 : ∀ i, (((wi s).take i).flatMap mh).length ≤ 40 := fun i => by
  rw [ags, List.length_take]
  have : (wi s).length = 5 := rfl
  omega
 refine ⟨P5I w0 s l (iq b (ja s).toArray T.e :: R), fun x _ => 5 - ms x 2, ⟨_, _, 0, rfl, Nat.zero_le _, by simpa using S3⟩, ?_⟩
 rintro x w4 ⟨u, v4, i, rfl, hi, S4⟩
 by_cases hil : i < 5
 ·have hili : (i : Int) < 5 := by omega
  have hwi : IntKind.i64.wrap ((i : Int) + 1) = ((i + 1 : Nat) : Int) := by rw [ig]; rfl
  simp [hili]
  unfold M.ci.j3
  simp [bnh _ _ _ _ _ hil]
  refine agw S4 (by rw [List.length_append]; have := hl5 i; omega) _ fun w5 v5 S5 => ?_
  simp [hwi]
  refine ⟨⟨_, _, i + 1, rfl, by omega, ?_⟩, by simp [ms, gv]; omega⟩
  have e : (((wi s).take (i + 1)).flatMap mh) = (((wi s).take i).flatMap mh) ++ mh ((wi s)[i]'hil) := by
   rw [List.take_add_one, List.getElem?_eq_getElem (show i < (wi s).length from hil), List.flatMap_append]
   show _ ++ ([_] : List Int).flatMap mh = _
   simp only [List.flatMap_cons, List.flatMap_nil, List.append_nil]
   rfl
  rw [e, ← List.append_assoc]
  exact S5
 have hi5 : i = 5 := by omega
 subst hi5
 have e5 : (wi s).take 5 = wi s := rfl
 rw [e5] at S4
 have hl4 : (l ++ (wi s).flatMap mh).length ≤ 10000040 := by
  rw [List.length_append]
  have := hl5 5
  rw [e5] at this
  omega
 obtain ⟨_, _, _, _, _, d5, d6, d7⟩ := cl S4.swap
 have rest : ∀ (fb : Int) (y : List Value), fb = aeg s.ru → gv y 3 = v4 → M.ci.j5 [.int .u8 fb] y (.pointer (some ⟨b, 0, none⟩)) w4 K := fun fb y hfb y3 => by
  unfold M.ci.j5
  rw [y3]
  simp
  have S5 : St w0 (w4.alloc (.cells #[.int .u8 fb] T.ao)) (ky (.slice (some ⟨w4.heap.size, 0, none⟩) 1 1) [fb] :: _) := St.su (l := [fb]) S4 ka rfl (by simp [maxLen])
  refine Go.Eng.qj et.f ka xo S5.swap (l2 := [fb]) (S5.row ka) (by simp at hl4 ⊢; omega) (by decide) fun w6 v6 S6 => ?_
  obtain ⟨_, _, _, _, _, g5, g6, _⟩ := cl S6.up2
  simp [g5, g6, boq]
  have S6d := S6.swap.drop
  refine ⟨P2I w0 s (l ++ (wi s).flatMap mh ++ [fb]) (iq b (ja s).toArray T.e :: R), fun x _ => 2 - ms x 2, ⟨_, _, 0, rfl, Nat.zero_le _, by simpa using S6d⟩, ?_⟩
  rintro x w7 ⟨u7, v7, i, rfl, hi7, S7⟩
  have hsz : ∀ k, k ≤ 2 → ((([s.kf, s.name] : List ByteArray).take k).flatMap xy).length ≤ 66 := fun k hk => by
   match k, hk with
   | 0, _ => simp
   | 1, _ => simp [xy, zq]; omega
   | 2, _ => simp [xy, zq]; omega
  by_cases hil : i < 2
  ·have hili : (i : Int) < 2 := by omega
   have hwi : IntKind.i64.wrap ((i : Int) + 1) = ((i + 1 : Nat) : Int) := by rw [ig]; rfl
   have hix : ∀ w K, ixT P T.bi (.agg #[.string s.kf, .string s.name]) (.int .i64 (i : Nat)) w K = K (.string (([s.kf, s.name] : List ByteArray)[i]'hil)) w := fun w K => by
    match i, hil with
    | 0, _ => exact bof _ _ _ _
    | 1, _ => exact bnz _ _ _ _
   have hs32 : (([s.kf, s.name] : List ByteArray)[i]'hil).size ≤ 32 := by
    match i, hil with
    | 0, _ => exact n1
    | 1, _ => exact n2
   simp [hili]
   unfold M.ci.j8
   have e : ((([s.kf, s.name] : List ByteArray).take (i + 1)).flatMap xy) = ((([s.kf, s.name] : List ByteArray).take i).flatMap xy) ++ xy (([s.kf, s.name] : List ByteArray)[i]'hil) := by
    rw [List.take_add_one, List.getElem?_eq_getElem (show i < ([s.kf, s.name] : List ByteArray).length from hil), List.flatMap_append]
    simp
   have hlen0 := hsz i (by omega)
   simp [hix]
   generalize ([s.kf, s.name] : List ByteArray)[i]'hil = str at *
   have hw8 : IntKind.u8.wrap (str.size : Int) = (str.size : Int) := by
    unfold IntKind.wrap
    simp [IntKind.bits, IntKind.signed]
    omega
   have hcv : ∀ w' K', cvT P T.c T.ao (.int .i64 (str.size : Int)) w' K' = K' (.int .u8 (str.size : Int)) w' := fun w' K' => by
    rw [pj (ks := .i64) (kd := .u8) (by kernel_rfl) (by kernel_rfl), hw8]
   simp [hcv]
   have S8 : St w0 (w7.alloc (.cells #[.int .u8 (str.size : Int)] T.ao)) (ky (.slice (some ⟨w7.heap.size, 0, none⟩) 1 1) [(str.size : Int)] :: _) := St.su (l := [(str.size : Int)]) S7 ka rfl (by simp [maxLen])
   refine Go.Eng.qj et.f ka xo S8.swap (l2 := [(str.size : Int)]) (S8.row ka) (by simp at hlen0 hl4 ⊢; omega) (by decide) fun w9 v9 S9 => ?_
   refine bkf et.f (by kernel_rfl) (by kernel_rfl) (fun _ => rfl) S9 str (by simp at hlen0 hl4 ⊢; omega) fun w10 v10 S10 => ?_
   rw [hwi]
   refine ⟨⟨_, v10, i + 1, rfl, by omega, ?_⟩, by simp [ms, gv]; omega⟩
   rw [e]
   have S11 := S10.swap.drop
   simp only [List.append_assoc] at S11 ⊢
   exact S11
  ·have hi2 : i = 2 := by omega
   subst hi2
   simp
   refine h w7 v7 ?_
   have e2 : l ++ (wi s).flatMap mh ++ [fb] ++ ((([s.kf, s.name] : List ByteArray).take 2).flatMap xy) = l ++ qe s := by
    rw [hfb]
    unfold qe
    simp
   rw [e2] at S7
   exact S7.swap.drop
 cases hf : s.ru with
 | true =>
  rw [hf] at d7
  simp [d7]
  exact rest 1 _ (by rw [hf]; rfl) rfl
 | false =>
  rw [hf] at d7
  simp [d7]
  exact rest 0 _ (by rw [hf]; rfl) rfl
end
theorem bcs (l : List UInt8) (a : ByteArray) : ((l.map fun b => (b.toNat : Int)).foldl (fun r n => r.push (UInt8.ofNat n.toNat)) a).data.toList = a.data.toList ++ l := by
 induction l generalizing a with
 | nil => simp
 | cons x t ih =>
  rw [List.map_cons, List.foldl_cons, ih]
  simp [ByteArray.push]
theorem bbv (s : ByteArray) : aki (zi s) = s := by
 have h := bcs s.data.toList ByteArray.empty
 have h2 : (aki (zi s)).data.toList = s.data.toList := by
  unfold aki zi
  rw [h]
  rfl
 cases s with
 | mk d =>
  have h3 : (aki (zi ⟨d⟩)).data = d := Array.toList_inj.1 h2
  generalize aki (zi ⟨d⟩) = z at *
  cases z with
  | mk e => simp only at h3; rw [h3]
section
variable {w0 w : World} {R X : List Asn}
def Rdv (w0 : World) (R : List Asn) (v : Value) (l : List Int) : Prop := ∀ w' L, St w0 w' (L ++ R) → SlB w' v l
theorem ajn {v : Value} {l : List Int} {L0 : List Asn} (S : St w0 w (L0 ++ R)) (hs : Rdv w0 R v l) {lo hi : Option Value} {i j : Nat} (hlo : lo = none ∧ i = 0 ∨ ∃ k, lo = some (.int k (i : Int))) (hhi : hi = none ∧ j = l.length ∨ ∃ k, hi = some (.int k (j : Int))) (h0 : i ≤ j) (h1 : j ≤ l.length) :
  ∃ v', (∀ w1 K, slT P T.f v lo hi none w1 K = K v' w1) ∧ Rdv w0 R v' ((l.drop i).take (j - i)) := by
 obtain ⟨v', _, _, e1⟩ := (hs w L0 S).sub (P := P) (t := T.f) (by kernel_rfl) (by kernel_rfl) hlo hhi h0 h1
 refine ⟨v', e1, fun w' L S' => ?_⟩
 obtain ⟨v2, s2, _, e2⟩ := (hs w' L S').sub (P := P) (t := T.f) (by kernel_rfl) (by kernel_rfl) hlo hhi h0 h1
 have h3 := e1 w' fun v _ => v = v2
 rw [e2 w'] at h3
 have h4 : v' = v2 := by
  have : (v2 = v2) = (v' = v2) := h3
  rw [← this]
 rw [h4]
 exact s2
abbrev rdr (b : Nat) (v : Value) : Asn := iq b #[v, .int .i64 0] T.aj
theorem aom {b n : Nat} {v : Value} {l : List Int} (S : St w0 w (rdr b v :: (X ++ R))) (hs : Rdv w0 R v l) (hn : n ≤ l.length) {K : KV}
  (h : ∀ w' v1 v2, Rdv w0 R v1 (l.take n) → Rdv w0 R v2 (l.drop n) → St w0 w' (rdr b v2 :: (X ++ R)) → K v1 w') : gr P F.cb [.pointer (some ⟨b, 0, none⟩), .int .i64 (n : Nat)] w K := by
 rw [M.bi.fcall]
 apply M.bi.calls
 unfold M.bi
 have c0 : ic w b 0 = some v := by rw [S.cell]; rfl
 have c1 : ic w b 1 = some (.int .i64 0) := by rw [S.cell]; rfl
 have hlen : ∀ w' K, biT P .len #[T.f] T.c [false] [v] w' K = K (.int .i64 l.length) w' := fun w' K => (hs w (_ :: X) S).jb (by kernel_rfl) [false]
 have hlt : ¬ (l.length : Int) < (n : Int) := by omega
 simp [c0, c1, hlen, hlt]
 unfold M.bi.j0
 simp [c1]
 unfold M.bi.j1
 obtain ⟨v1, e1, r1⟩ := ajn (L0 := rdr b v :: X) S hs (lo := none) (hi := some (.int .i64 (n : Nat))) (i := 0) (j := n) (.inl ⟨rfl, rfl⟩) (.inr ⟨_, rfl⟩) (Nat.zero_le _) hn
 obtain ⟨v2, e2, r2⟩ := ajn (L0 := rdr b v :: X) S hs (lo := some (.int .i64 (n : Nat))) (hi := none) (i := n) (j := l.length) (.inr ⟨_, rfl⟩) (.inl ⟨rfl, rfl⟩) hn (Nat.le_refl _)
 rw [List.drop_zero, Nat.sub_zero] at r1
 rw [List.take_of_length_le (by simp)] at r2
 have hv2 : kq v2 = true := by
  obtain ⟨_, _, e, _⟩ := r2 w (_ :: X) S
  rw [e]; rfl
 have hst : ∀ w' K, stT P T.f (.pointer (some ⟨b, 0, none⟩)) v2 w' K = st1 P b 0 v2 w' K := fun w' K => by
  obtain ⟨a, c, e, _⟩ := r2 w (_ :: X) S
  rw [e]
  simp
 simp [c0, e1, e2, hst]
 exact St.vy S hv2 (by simp) fun w3 S3 => h w3 v1 v2 r1 r2 S3
theorem abp {b : Nat} {v : Value} {x : Int} {r : List Int} (S : St w0 w (rdr b v :: (X ++ R))) (hx : uo x) (hs : Rdv w0 R v (mh x ++ r)) {K : KV}
  (h : ∀ w' v2, Rdv w0 R v2 r → St w0 w' (rdr b v2 :: (X ++ R)) → K (.int .u64 x) w') : gr P F.ba [.pointer (some ⟨b, 0, none⟩)] w K := by
 rw [M.cy.fcall]
 apply M.cy.calls
 unfold M.cy
 refine aom (n := 8) S hs (by rw [List.length_append, mj]; omega) fun w1 v1 v2 r1 r2 S1 => ?_
 rw [List.take_left' (mj x)] at r1
 rw [List.drop_left' (mj x)] at r2
 refine amw (r1 w1 (_ :: X) S1) (by rw [mj]; omega) ?_
 have := akz hx []
 rw [List.append_nil] at this
 rw [this]
 exact h w1 v2 r2 S1
theorem aua {b : Nat} {v : Value} {x lo hi : Int} {r : List Int} (S : St w0 w (rdr b v :: (X ++ R))) (h0 : lo ≤ x) (h1 : x ≤ hi) (hs : Rdv w0 R v (x :: r)) {K : KV}
  (h : ∀ w' v2, Rdv w0 R v2 r → St w0 w' (rdr b v2 :: (X ++ R)) → K (.int .u8 x) w') : gr P F.ci [.pointer (some ⟨b, 0, none⟩), .int .u8 lo, .int .u8 hi] w K := by
 rw [M.dd.fcall]
 apply M.dd.calls
 unfold M.dd
 refine aom (n := 1) S hs (by simp) fun w1 v1 v2 r1 r2 S1 => ?_
 have c1 : ic w1 b 1 = some (.int .i64 0) := by rw [S1.cell]; rfl
 obtain ⟨ab, ao, ac, e1, _, _, hc⟩ := (r1 w1 (_ :: X) S1).at (i := 0) (by simp)
 have hcell : ic w1 ab ao = some (.int .u8 x) := by simpa using hc 0 _ rfl
 have hia : ∀ w' K, iaT P T.f v1 (.int .i64 0) w' K = K (.pointer (some ⟨ab, ao, none⟩)) w' := fun w' K => by rw [e1]; simp
 have n0 : ¬ x < lo := by omega
 have n1 : ¬ hi < x := by omega
 simp [hia, hcell, c1, n0, n1]
 exact h w1 v2 (by simpa using r2) S1
theorem axt {b : Nat} {v : Value} {s : ByteArray} {r : List Int} (S : St w0 w (rdr b v :: (X ++ R))) (h0 : 1 ≤ s.size) (h1 : s.size ≤ 32) (hs : Rdv w0 R v (xy s ++ r)) {K : KV}
  (h : ∀ w' v2, Rdv w0 R v2 r → St w0 w' (rdr b v2 :: (X ++ R)) → K (.string s) w') : gr P F.cr [.pointer (some ⟨b, 0, none⟩)] w K := by
 rw [M.dj.fcall]
 apply M.dj.calls
 unfold M.dj
 refine aua (lo := 1) (hi := 32) (x := (s.size : Int)) (r := zi s ++ r) S (by omega) (by omega) hs fun w1 v1 r1 S1 => ?_
 have c1 : ic w1 b 1 = some (.int .i64 0) := by rw [S1.cell]; rfl
 simp [c1]
 have hcv : ∀ w' K', cvT P T.ao T.c (.int .u8 (s.size : Int)) w' K' = K' (.int .i64 (s.size : Int)) w' := fun w' K' => by
  rw [pj (ks := .u8) (kd := .i64) (by kernel_rfl) (by kernel_rfl), ig]
 simp [hcv]
 refine aom (n := s.size) S1 r1 (by rw [List.length_append, zq]; omega) fun w2 v2 v3 r2 r3 S2 => ?_
 rw [List.take_left' (zq s)] at r2
 rw [List.drop_left' (zq s)] at r3
 rw [bok (by kernel_rfl) (by kernel_rfl) (r2 w2 (_ :: X) S2), bbv]
 exact h w2 v3 r3 S2
end
theorem ber {s : Spn} (h : ly s = 0) : 1 ≤ s.kf.size ∧ 1 ≤ s.name.size := by
 unfold ly at h
 split at h
 ·cases h
 ·unfold orK at h
  have hn : ∀ b : ByteArray, qi b = 0 → 1 ≤ b.size := fun b hb => by
   unfold qi at hb
   split at hb
   ·cases hb
   ·rename_i hh
    have := not_or.1 hh
    omega
  by_cases ha : qi s.kf = 0
  ·by_cases hb : qi s.name = 0
   ·exact ⟨hn _ ha, hn _ hb⟩
   ·simp [ha, hb] at h
  ·simp [ha] at h
section
variable {w0 w : World} {R : List Asn}
abbrev spB (b : Nat) (s : Spn) : Asn := iq b (ja s).toArray T.e
theorem bbm {v : Value} {s : Spn} {r : List Int} (S : St w0 w R) (hs : Rdv w0 R v (qe s ++ r)) (hr : ly s = 0) (hR : wt s) (hl : r.length ≤ 10000000) {K : KV}
  (h : ∀ w' v', St w0 w' (ky v' r :: R) → K (.tuple #[ko s, v', .int .i64 0]) w') : gr P F.fw [v] w K := by
 obtain ⟨n1, n2⟩ := ahv hr
 obtain ⟨m1, m2⟩ := ber hr
 obtain ⟨s0, s1, s2, s3, s4, sv, nm, fl⟩ := s
 simp only at n1 n2 m1 m2
 rw [M.dz.fcall]
 apply M.dz.calls
 unfold M.dz
 have hb : ∀ w' K, ki P T.aj #[(0, v)] w' K = K (.agg #[v, .int .i64 0]) w' := fun w' K => by
  obtain ⟨_, _, e, _⟩ := hs w [] S
  rw [e]
  simp
 simp [hb]
 have S1 : St w0 (w.alloc (.cells #[.int .u64 0, .int .u64 0, .int .u64 0, .int .u64 0, .int .u64 0, .string ⟨#[]⟩, .string ⟨#[]⟩, .bool false] T.e)) (spB w.heap.size ⟨0, 0, 0, 0, 0, ⟨#[]⟩, ⟨#[]⟩, false⟩ :: R) := S.mkB (ja ⟨0, 0, 0, 0, 0, ⟨#[]⟩, ⟨#[]⟩, false⟩).toArray T.e
 have S2 := S1.mkB #[v, .int .i64 0] T.aj
 rw [jz] at S2
 generalize w.heap.size = tb at *
 generalize hrb : tb + 1 = rb at *
 generalize (World.alloc _ (.cells #[v, .int .i64 0] T.aj)) = w2 at *
 have hs0 : Rdv w0 R v (mh s0 ++ (mh s1 ++ (mh s2 ++ (mh s3 ++ (mh s4 ++ (aeg fl :: (xy sv ++ (xy nm ++ r)))))))) := by
  have e : qe ⟨s0, s1, s2, s3, s4, sv, nm, fl⟩ ++ r = mh s0 ++ (mh s1 ++ (mh s2 ++ (mh s3 ++ (mh s4 ++ (aeg fl :: (xy sv ++ (xy nm ++ r))))))) := by
   simp [qe, wi]
  rw [← e]
  exact hs
 refine abp (X := [_]) S2 hR.tr hs0 fun w3 v3 r3 S3 => ?_
 refine abp (X := [_]) S3 hR.id r3 fun w4 v4 r4 S4 => ?_
 refine abp (X := [_]) S4 hR.par r4 fun w5 v5 r5 S5 => ?_
 refine abp (X := [_]) S5 hR.st r5 fun w6 v6 r6 S6 => ?_
 refine abp (X := [_]) S6 hR.ln r6 fun w7 v7 r7 S7 => ?_
 simp
 have S7' : St w0 w7 (spB tb ⟨0, 0, 0, 0, 0, ⟨#[]⟩, ⟨#[]⟩, false⟩ :: rdr rb v7 :: R) := S7.swap
 refine St.put (vs := ja ⟨s0, s1, s2, s3, s4, ⟨#[]⟩, ⟨#[]⟩, false⟩) (cs' := (ja ⟨s0, s1, s2, s3, s4, ⟨#[]⟩, ⟨#[]⟩, false⟩).toArray) S7' (og _) (by simp [ja]) rfl fun w8 S8 => ?_
 refine aua (X := [_]) S8.swap (x := aeg fl) (by unfold aeg; split <;> omega) (by unfold aeg; split <;> omega) r7 fun w9 v9 r9 S9 => ?_
 have hfl : decide (aeg fl = 1) = fl := by cases fl <;> rfl
 simp [hfl]
 refine St.vy S9.swap rfl (by simp [ja]) fun w10 S10 => ?_
 have S10' : St w0 w10 (spB tb ⟨s0, s1, s2, s3, s4, ⟨#[]⟩, ⟨#[]⟩, fl⟩ :: rdr rb v9 :: R) := S10
 refine axt (X := [_]) S10'.swap m1 n1 r9 fun w11 v11 r11 S11 => ?_
 simp
 refine St.vy S11.swap rfl (by simp [ja]) fun w12 S12 => ?_
 have S12' : St w0 w12 (spB tb ⟨s0, s1, s2, s3, s4, sv, ⟨#[]⟩, fl⟩ :: rdr rb v11 :: R) := S12
 refine axt (X := [_]) S12'.swap m2 n2 r11 fun w13 v13 r13 S13 => ?_
 simp
 refine St.vy S13.swap rfl (by simp [ja]) fun w14 S14 => ?_
 have S14' : St w0 w14 (spB tb ⟨s0, s1, s2, s3, s4, sv, nm, fl⟩ :: rdr rb v13 :: R) := S14
 have c1 : ic w14 rb 1 = some (.int .i64 0) := by rw [S14'.swap.cell]; rfl
 have sl : ∀ {w' : World} {L : List Asn}, St w0 w' (spB tb ⟨s0, s1, s2, s3, s4, sv, nm, fl⟩ :: L) → ∀ K, ldN P 8 tb 0 w' K = K (ko ⟨s0, s1, s2, s3, s4, sv, nm, fl⟩) w' := fun S' K => S'.ldA (n := 8) (i := 0) (ja ⟨s0, s1, s2, s3, s4, sv, nm, fl⟩) rfl rfl K
 simp [c1, sl S14']
 rw [M.de.fcall]
 refine akk _ fun w15 f15 => ?_
 rw [hr]
 have S15 := S14'.jt f15
 simp
 refine St.vy S15.swap rfl (by simp) fun w16 S16 => ?_
 have S16' : St w0 w16 (rdr rb v13 :: spB tb ⟨s0, s1, s2, s3, s4, sv, nm, fl⟩ :: R) := S16
 have d1 : ic w16 rb 1 = some (.int .i64 0) := by rw [S16'.cell]; rfl
 unfold M.dz.j0
 simp [d1]
 unfold M.dz.j1
 have S17 := S16'.jt ((Fr.refl _ w16).dr 1)
 have d0 : ic (dr w16 1) rb 0 = some v13 := by rw [S17.cell]; rfl
 simp [sl S17.swap, d0]
 refine xq S17 (r13 _ [_, _] S17) (by omega) fun w18 v18 S18 => ?_
 simp [sl S18.up2]
 have hst : ∀ w' K, stT P T.e (.pointer (some ⟨tb, 0, none⟩)) (ko ⟨s0, s1, s2, s3, s4, sv, nm, fl⟩) w' K = stN P tb 0 (ja ⟨s0, s1, s2, s3, s4, sv, nm, fl⟩) w' K := fun w' K => by
  unfold ko
  simp [ja]
 rw [hst]
 refine St.put (vs := ja ⟨s0, s1, s2, s3, s4, sv, nm, fl⟩) (cs' := (ja ⟨s0, s1, s2, s3, s4, sv, nm, fl⟩).toArray) S18.up2 (og _) (by simp [ja]) rfl fun w19 S19 => ?_
 have hres : ∀ w' K, pp P T.e (.pointer (some ⟨tb, 0, none⟩)) w' K = ldN P 8 tb 0 w' K := fun w' K => kr
 simp [hres, sl S19]
 exact h w19 v18 (S19.drop.swap.drop)
end
end Go.Proofs.YtfnhoaemapheoaaGreat
set_option maxRecDepth 100000
namespace Go.Proofs.YtfnhoaemapheoaaGreat.KeyR
open Go.Eng Go.Sort Go.Proofs.YtfnhoaemapheoaaGreat.Suint64
end Go.Proofs.YtfnhoaemapheoaaGreat.KeyR
set_option maxRecDepth 100000
namespace Go.Proofs.YtfnhoaemapheoaaGreat
open Go.Eng Go.Proofs.YtfnhoaemapheoaaGreat.Sint
def aks (hb p r : Nat) (jj : Bool) : Array Value := #[.pointer (some ⟨hb, 0, none⟩), .pointer (some ⟨p, 0, none⟩), .map (some r), .bool jj]
section
variable {w0 w : World} {R : List Asn} {q hb p r : Nat} {m : adq} {L : Lg} {jj : Bool} {mm : MP}
end
set_option maxRecDepth 100000
def wrF (L : Lg) (D : Dk) (jc : List (List Int)) : (Lg × Dk) × Int :=
 if (th L D jc).2 = 0 then (((th L D jc).1.1, ((th L D jc).1.1.oh (th L D jc).1.2).1), ((th L D jc).1.1.oh (th L D jc).1.2).2) else th L D jc
theorem ase {L : Lg} {D : Dk} {b : List Int} {r : List (List Int)} (h : (L.append D b).2 = 0) : wrF L D (b :: r) = wrF (L.append D b).1.1 (L.append D b).1.2 r := by
 have e : th L D (b :: r) = th (L.append D b).1.1 (L.append D b).1.2 r := by rw [th, if_pos h]
 unfold wrF; rw [e]
theorem bfj {L : Lg} {D : Dk} {b : List Int} {r : List (List Int)} (h : (L.append D b).2 ≠ 0) : wrF L D (b :: r) = L.append D b := by
 have e : th L D (b :: r) = L.append D b := by rw [th, if_neg h]
 unfold wrF; rw [e, if_neg h]
section
variable {w0 w : World} {R : List Asn} {q hb p r : Nat} {m : adq} {L : Lg} {dn : Bool} {mm : MP} {D : Dk} {G : Nat} {s f : Int} {lv : Value} {vs : List SV} {jc : List (List Int)}
end
section
variable {w0 w : World} {R : List Asn} {q hb p r : Nat} {m : adq} {L : Lg} {dn : Bool} {mm : MP} {D D' : Dk} {G : Nat} {s f : Int} {im : Int} {Q' : List Prt}
theorem axa (S : St w0 w R) : St w0 (w.alloc (.map #[] 0)) (jy w.heap.size .u64 [] :: R) := S.add (a := jy w.heap.size .u64 []) ((Fr.refl _ w).alloc _) (B := fun x => x = w.heap.size) ⟨⟨aik w .u64, List.nodup_nil⟩, rfl⟩ fun b hb => by subst hb; rw [jz]; omega
end
section
variable {w0 w : World} {R : List Asn} {q hb : Nat} {m : adq} {L : Lg} {dn : Bool} {D : Dk} {G : Nat} {s f : Int} {p : Pk} {ls : List Spn} {lm : List Mem} {lu : List Int}
end
inductive WrR (s f : Int) (L : Lg) (G : Nat) (D : Dk) (jc : List (List Int)) : (Lg × Dk) × Int → Prop
 | ok (L' : Lg) (D' : Dk) : sd s f L' (jq L'.ii).length D' → jq L'.ii = jq L.ii ++ jc → L'.im = L.im → D'.jf = D.jf → (D.jw = false → D'.jw = false) → WrR s f L G D jc ((L', D'), 0)
 | uq (i : Nat) (L' : Lg) (D' : Dk) : i < jc.length → sd s f L' G D' → jq L'.ii = jq L.ii ++ jc.take i → L'.im = L.im → D'.jf = D.jf → (D.jw = false → D'.jw = false) → WrR s f L G D jc ((L', D'), 9)
 | jj (i : Nat) (L' : Lg) (D' : Dk) (Q : List Prt) : D.jw = true → L'.im = L.im → L'.ii.length ≤ 63 → D'.jj = true → Vir s f Q G D' False → jq Q = jq L.ii ++ jc.take i → D'.jf = D.jf → f + (jq L'.ii).length ≤ f + (jq L.ii).length + jc.length → WrR s f L G D jc ((L', D'), 10)
theorem bjv {s f : Int} {L : Lg} {G : Nat} {D : Dk} {jc : List (List Int)} (g : sd s f L G D) (hl : ∀ b ∈ jc, b.length ≤ 8192) (hn : f + (jq L.ii).length + jc.length ≤ 1000000000000) : WrR s f L G D jc (wrF L D jc) := by
 have ha := bnl jc g hl hn
 unfold wrF
 generalize th L D jc = z at *
 cases ha with
 | ok L' D' g' e1 e2 e3 e4 =>
  obtain ⟨y1, y2, y3, y4, _, y6, _⟩ := aqn g'.vir g'.up
  rw [if_pos rfl, y1]
  exact .ok L' _ ⟨y2, g'.size, y3⟩ e1 e2 (by rw [y6, e3]) fun h => by rw [y4]; exact e4 h
 | uq i L' D' hi g' e1 e2 e3 e4 =>
  rw [if_neg (by simp)]
  exact .uq i L' D' hi g' e1 e2 e3 e4
 | jj i j L' D0 D' Q b1 b2 b3 b4 b5 b6 b7 b8 =>
  rw [if_neg (by simp)]
  refine .jj i L' D' Q b1 b4 b2.vir.len b5 b6 b7 b8 ?_
  rw [b3, List.length_append, List.length_take]
  omega
section
variable {w0 w : World} {R : List Asn} {q hb : Nat} {m : adq} {L : Lg} {dn : Bool} {D : Dk} {s f : Int}
end
section
variable {w0 w : World} {R : List Asn} {v : Value} {m : adq} {p : Pk} {ls : List Spn} {lm : List Mem} {lu : List Int}
end
section
variable {w0 w : World} {R : List Asn} {q hb : Nat} {m : adq} {L : Lg} {dn : Bool}
end
section
variable {w0 w : World} {R : List Asn} {p hb : Nat} {v : Value} {L : Lg} {D : Dk} {s f : Int} {G : Nat} {l : List PB} {ls : List (List Int)} {vs : List SV}
end
theorem avq (jf im : Int) : sd 0 0 ⟨im, []⟩ 0 ⟨jf, 0, false, false, []⟩ :=
 ⟨⟨trivial, by omega, by omega, by simp, by simp [jq], .inl ⟨rfl, rfl, rfl⟩, fun _ => ⟨rfl, rfl⟩, fun q h => by simp at h⟩, fun q h => by simp at h, rfl⟩
section
variable {w0 w : World} {R : List Asn} {q hb : Nat} {m m1 m2 : adq} {L : Lg} {D : Dk} {G : Nat} {s f : Int} {Q : List Prt} {x : Prop} {im : Int}
variable {p : Pk} {ls : List Spn} {lm : List Mem} {lu : List Int} {F0 : Nat}
end
theorem baz {s f : Int} {L : Lg} {G : Nat} {D : Dk} (g : sd s f L G D) (h : L.ii = []) : D.jg = 0 := by
 rcases g.vir.dsc with ⟨_, hf, _⟩ | ⟨Q0, q, _, _, _, hq, _⟩
 ·unfold Dk.jg; rw [hf]; rfl
 ·rw [h] at hq; simp at hq
section
variable {w0 w : World} {R : List Asn} {q hb : Nat} {m : adq} {L : Lg} {D : Dk} {s f : Int} {p : Pk} {ls : List Spn} {lm : List Mem} {lu : List Int} {F0 : Nat}
end
structure bqk where
 ip : Int
 n : Int
 p : Pk
 ls : List Spn
 lm : List Mem
 lu : List Int
 kv : Value
 ke : List Int
section
variable {w0 w w' : World} {R : List Asn} {v : Value} {l : List bqk}
end
section
variable {w0 w w' : World} {L X R : List Asn} {v v' : Value} {m m' : adq}
theorem bdk : ∀ {X : List Asn}, St w0 w (L ++ X) → St w0 w L
 | [], S => by simpa using S
 | a :: X, S => bdk (S.perm List.perm_middle).drop
end
def nn (b : Bal) (l : List Spn) : List Int := mh b.n ++ (mh b.jl ++ l.flatMap qe)
theorem asj (s : ByteArray) : (xy s).length = s.size + 1 := by unfold xy; rw [List.length_cons, zq]
theorem ahl {s : Spn} (h : ly s = 0) : 43 ≤ (qe s).length ∧ (qe s).length ≤ 107 := by
 obtain ⟨n1, n2⟩ := ahv h
 have : ((wi s).flatMap mh).length = 40 := by rw [ags]; rfl
 unfold qe
 rw [List.length_append, List.length_append, List.length_append, asj, asj, this]
 simp
 omega
theorem abh : ∀ {l : List Spn}, (∀ s ∈ l, ly s = 0) → (l.flatMap qe).length ≤ l.length * 107
 | [], _ => by simp
 | s :: t, h => by
  have h1 := (ahl (h s (by simp))).2
  have h2 := abh (l := t) fun x hx => h x (by simp [hx])
  rw [List.flatMap_cons, List.length_append, List.length_cons]
  omega
section
variable {w0 w : World} {R X Y : List Asn}
theorem Rdv.mono {v : Value} {l : List Int} (h : Rdv w0 R v l) (X : List Asn) : Rdv w0 (X ++ R) v l := fun w' L S => h w' (L ++ X) (by rw [List.append_assoc]; exact S)
theorem bke {v : Value} {l : List Int} : Rdv w0 (ky v l :: R) v l := fun w' L S => (S.perm List.perm_middle).row ka
theorem bef {L : List Asn} (S : St w0 w (L ++ (Y ++ R))) : St w0 w (L ++ R) := by
 refine bdk (X := Y) (S.perm ?_)
 rw [List.append_assoc]
 exact List.Perm.append_left _ List.perm_append_comm
def bpe (w0 : World) (b : Bal) (l : List Spn) (R : List Asn) : KL := fun x w1 => ∃ (v : Value) (i : Nat), x = [v, .int .i64 (i : Nat)] ∧ i ≤ l.length ∧ St w0 w1 (ky v (nn b (l.take i)) :: R)
theorem bhn (S : St w0 w R) (b : Bal) {lv : Value} {l : List Spn} (hs : ∀ w' L, St w0 w' (L ++ R) → SlS w' lv l) (hr : ∀ s ∈ l, ly s = 0) (hl : l.length ≤ 1000) {K : KV}
  (h : ∀ w' v', St w0 w' (ky v' (nn b l) :: R) → K v' w') : gr P F.fm [kt b, lv] w K := by
 rw [M.ea.fcall]
 apply M.ea.calls
 unfold M.ea
 refine St.tt S fun bb w1 S1 => ?_
 have S1' : St w0 w1 (iq bb #[.int .u64 b.n, .int .u64 b.jl] T.d :: R) := S1
 obtain ⟨c0, c1, _⟩ := pm S1'
 simp [c0]
 refine agw (l := []) (pw S1') (by simp) _ fun w2 v2 S2 => ?_
 obtain ⟨_, d1, _⟩ := pm S2.swap
 simp [d1]
 refine agw S2 (by simp [mj]) _ fun w3 v3 S3 => ?_
 have hlen : ∀ w' K, biT P .len #[T.b] T.c [false] [lv] w' K = K (.int .i64 l.length) w' := fun w' K => (hs w3 [_, _] S3).jb (by kernel_rfl) [false]
 simp [hlen]
 refine ⟨bpe w0 b l R, fun x _ => l.length - ms x 1, ⟨_, 0, rfl, Nat.zero_le _, by simpa [nn] using S3.swap.drop⟩, ?_⟩
 rintro x w4 ⟨v, i, rfl, hi, S4⟩
 by_cases hil : i < l.length
 ·have hwi : IntKind.i64.wrap ((i : Int) + 1) = ((i + 1 : Nat) : Int) := by rw [ig]; rfl
  simp [hil]
  unfold M.ea.j2
  obtain ⟨ab, ao, cap, hv, _, _, hc⟩ := (hs w4 [_] S4).at hil
  have hia : ∀ w' K, iaT P T.b lv (.int .i64 (i : Nat)) w' K = K (.pointer (some ⟨ab, ao + i * 8, none⟩)) w' := fun w' K => by rw [hv]; simp [hil]
  have hld : ∀ K, ldN P 8 ab (ao + i * 8) w4 K = K (ko l[i]) w4 := fun K => po (ja l[i]) 8 rfl hc K
  simp [hia, hld]
  have S5 : St w0 (w4.alloc (.cells #[.int .u64 0, .int .u64 0, .int .u64 0, .int .u64 0, .int .u64 0, .string ⟨#[]⟩, .string ⟨#[]⟩, .bool false] T.e)) (spB w4.heap.size ⟨0, 0, 0, 0, 0, ⟨#[]⟩, ⟨#[]⟩, false⟩ :: _) := S4.mkB (ja ⟨0, 0, 0, 0, 0, ⟨#[]⟩, ⟨#[]⟩, false⟩).toArray T.e
  generalize w4.heap.size = tb at *
  generalize w4.alloc _ = w5 at *
  have hst : ∀ w' K, stT P T.e (.pointer (some ⟨tb, 0, none⟩)) (ko l[i]) w' K = stN P tb 0 (ja l[i]) w' K := fun w' K => by
   unfold ko
   simp [ja]
  rw [hst]
  refine St.put (vs := ja l[i]) (cs' := (ja l[i]).toArray) S5 (og _) (by simp [ja]) rfl fun w6 S6 => ?_
  have sl : ∀ K, ldN P 8 tb 0 w6 K = K (ko l[i]) w6 := fun K => S6.ldA (n := 8) (i := 0) (ja l[i]) rfl rfl K
  simp [sl]
  have hri := hr _ (List.getElem_mem hil)
  have hle : (nn b (l.take i)).length ≤ 10000000 := by
   have := abh (l := l.take i) fun s hs => hr s (List.mem_of_mem_take hs)
   have h2 : (l.take i).length ≤ 1000 := by rw [List.length_take]; omega
   unfold nn
   rw [List.length_append, List.length_append, mj, mj]
   have : (l.take i).length * 107 ≤ 1000 * 107 := Nat.mul_le_mul_right _ h2
   omega
  refine azc S6.drop (v := v) (l := nn b (l.take i)) (fun w' L S' => (S'.perm List.perm_middle).row ka) hle hri fun w7 v7 S7 => ?_
  simp [hwi]
  refine ⟨⟨v7, i + 1, rfl, by omega, ?_⟩, by simp [ms, gv]; omega⟩
  have e : nn b (l.take (i + 1)) = nn b (l.take i) ++ qe l[i] := by
   rw [List.take_add_one, List.getElem?_eq_getElem hil]
   unfold nn
   simp only [Option.toList, List.flatMap_append, List.flatMap_cons, List.flatMap_nil, List.append_nil, List.append_assoc]
  rw [e]
  exact S7.swap.drop
 ·have hie : i = l.length := by omega
  subst hie
  rw [List.take_length] at S4
  simp
  exact h w4 v S4
abbrev lh (v : Value) (l : List Spn) : Asn := nq T.e 8 ja v l
def bnk (w0 : World) (b : Bal) (l : List Spn) (tb : Nat) (R : List Asn) : KL := fun x w1 => ∃ (i : Nat) (Y : List Asn), i ≤ l.length ∧ Rdv w0 (Y ++ R) (gv x 5) ((l.drop i).flatMap qe) ∧ St w0 w1 (lh (gv x 3) (l.take i) :: iq tb #[.int .u64 b.n, .int .u64 b.jl] T.d :: (Y ++ R))
def slN (v : Value) : Nat := match v with
 | .slice _ n _ => n
 | _ => 0
theorem bfv (S : St w0 w R) {v : Value} {b : Bal} {l : List Spn} (hv : Rdv w0 R v (nn b l)) (hb : b.rng) (hne : l ≠ []) (hr : ∀ s ∈ l, ly s = 0 ∧ wt s) (htr : ∀ s ∈ l, ∀ s' ∈ l, s.iu = s'.iu) (hl : l.length ≤ 1000) {K : KV}
  (h : ∀ w' v', St w0 w' (lh v' l :: R) → K (.tuple #[kt b, v', .bool true]) w') : gr P F.fk [v] w K := by
 rw [M.ch.fcall]
 apply M.ch.calls
 unfold M.ch
 have hlen : ∀ w' K, biT P .len #[T.f] T.c [false] [v] w' K = K (.int .i64 (nn b l).length) w' := fun w' K => (hv w [] S).jb (by kernel_rfl) [false]
 have h16 : ¬ ((nn b l).length : Int) ≤ 16 := by
  unfold nn
  rw [List.length_append, List.length_append, mj, mj]
  cases l with
  | nil => exact absurd rfl hne
  | cons s t =>
   have := (ahl (hr s (by simp)).1).1
   rw [List.flatMap_cons, List.length_append]
   omega
 simp [hlen, h16]
 have S1 : St w0 (w.alloc (.cells #[.int .u64 0, .int .u64 0] T.d)) (iq w.heap.size #[.int .u64 0, .int .u64 0] T.d :: R) := S.mkB _ _
 generalize w.heap.size = tb at *
 generalize w.alloc _ = w1 at *
 unfold M.ch.j0
 have S2 := S1.jt ((Fr.refl _ w1).dr 1)
 have hlb : 16 ≤ (nn b l).length := by omega
 obtain ⟨v8, e8, r8⟩ := ajn (L0 := [_]) S2 hv (lo := some (.int .i64 (8 : Nat))) (hi := none) (i := 8) (j := (nn b l).length) (.inr ⟨_, rfl⟩) (.inl ⟨rfl, rfl⟩) (by omega) (Nat.le_refl _)
 obtain ⟨v16, e16, r16⟩ := ajn (L0 := [_]) S2 hv (lo := some (.int .i64 (16 : Nat))) (hi := none) (i := 16) (j := (nn b l).length) (.inr ⟨_, rfl⟩) (.inl ⟨rfl, rfl⟩) (by omega) (Nat.le_refl _)
 rw [List.take_of_length_le (by simp)] at r8 r16
 have d8 : (nn b l).drop 8 = mh b.jl ++ l.flatMap qe := by unfold nn; exact List.drop_left' (mj _)
 have d16 : (nn b l).drop 16 = l.flatMap qe := by
  have : (nn b l).drop 16 = ((nn b l).drop 8).drop 8 := by rw [List.drop_drop]
  rw [this, d8]
  exact List.drop_left' (mj _)
 rw [d8] at r8
 rw [d16] at r16
 have e8' : ∀ w1 K, slT P T.f v (some (.int .i64 8)) none none w1 K = K v8 w1 := e8
 have e16' : ∀ w1 K, slT P T.f v (some (.int .i64 16)) none none w1 K = K v16 w1 := e16
 simp [e8']
 refine amw (hv _ [_] S2) (by omega) ?_
 refine amw (r8 _ [_] S2) (by rw [List.length_append, mj]; omega) ?_
 have u1 : alc (nn b l) = b.n := by unfold nn; exact akz hb.1 _
 have u2 : alc (mh b.jl ++ l.flatMap qe) = b.jl := akz hb.2 _
 rw [u1, u2]
 simp
 refine St.put (vs := [.int .u64 b.n, .int .u64 b.jl]) (cs' := #[.int .u64 b.n, .int .u64 b.jl]) S2 (by simp [kq]) (by simp) rfl fun w3 S3 => ?_
 simp [e16']
 refine ⟨bnk w0 b l tb R, fun x _ => l.length - slN (gv x 3), ⟨0, [], Nat.zero_le _, by simpa using r16, by simpa using Go.Eng.pw S3⟩, ?_⟩
 rintro x w4 ⟨i, Y, hi, hrv, S4⟩
 have hsn : slN (gv x 3) = i := by
  obtain ⟨_, _, e, _⟩ := S4.row lk
  rw [e]
  show (l.take i).length = i
  rw [List.length_take]
  omega
 unfold M.ch.j2
 have hrv4 := hrv w4 [_, _] S4
 have blen : ∀ w' K, biT P .len #[T.f] T.c [false] [gv x 5] w' K = K (.int .i64 ((l.drop i).flatMap qe).length) w' := fun w' K => hrv4.jb (by kernel_rfl) [false]
 by_cases hil : i < l.length
 case neg =>
  have hie : i = l.length := by omega
  subst hie
  rw [List.take_length] at S4
  obtain ⟨_, _, bl⟩ := pm S4.swap
  have e0 : ((l.drop l.length).flatMap qe).length = 0 := by simp
  have hst : ∀ w' K, stT P T.d (.pointer (some ⟨tb, 0, none⟩)) (kt b) w' K = stN P tb 0 [.int .u64 b.n, .int .u64 b.jl] w' K := fun w' K => by
   unfold kt
   simp
  rw [e0] at blen
  simp [blen, bl, hst]
  refine St.put (vs := [.int .u64 b.n, .int .u64 b.jl]) (cs' := #[.int .u64 b.n, .int .u64 b.jl]) S4.swap (by simp [kq]) (by simp) rfl fun w5 S5 => ?_
  obtain ⟨_, _, bl5⟩ := pm S5
  have hres : ∀ w' K, pp P T.d (.pointer (some ⟨tb, 0, none⟩)) w' K = ldN P 2 tb 0 w' K := fun w' K => kr
  simp [hres, bl5]
  exact h w5 _ (bef (L := [_]) (Y := Y) S5.drop)
 have hcons : l.drop i = l[i] :: l.drop (i + 1) := List.drop_eq_getElem_cons hil
 obtain ⟨hri, hRi⟩ := hr _ (List.getElem_mem hil)
 rw [hcons, List.flatMap_cons] at hrv blen
 have hpos : (0 : Int) < ((qe l[i] ++ (l.drop (i + 1)).flatMap qe).length : Int) := by
  have := (ahl hri).1
  rw [List.length_append]
  omega
 generalize (qe l[i] ++ (l.drop (i + 1)).flatMap qe).length = N at hpos blen
 have hpn : 0 < N := by omega
 simp [blen, hpn]
 unfold M.ch.j3
 have hrl : ((l.drop (i + 1)).flatMap qe).length ≤ 10000000 := by
  have h1 := abh (l := l.drop (i + 1)) fun s hs => (hr s (List.mem_of_mem_drop hs)).1
  have h2 : (l.drop (i + 1)).length ≤ 1000 := by rw [List.length_drop]; omega
  have : (l.drop (i + 1)).length * 107 ≤ 1000 * 107 := Nat.mul_le_mul_right _ h2
  omega
 refine bbm S4 (hrv.mono [_, _]) hri hRi hrl fun w5 v5 S5 => ?_
 simp
 have S6 : St w0 (w5.alloc (.cells #[.int .u64 0, .int .u64 0, .int .u64 0, .int .u64 0, .int .u64 0, .string ⟨#[]⟩, .string ⟨#[]⟩, .bool false] T.e)) (spB w5.heap.size ⟨0, 0, 0, 0, 0, ⟨#[]⟩, ⟨#[]⟩, false⟩ :: _) := S5.mkB (ja ⟨0, 0, 0, 0, 0, ⟨#[]⟩, ⟨#[]⟩, false⟩).toArray T.e
 generalize w5.heap.size = sb at *
 generalize w5.alloc _ = w6 at *
 have hst : ∀ w' K, stT P T.e (.pointer (some ⟨sb, 0, none⟩)) (ko l[i]) w' K = stN P sb 0 (ja l[i]) w' K := fun w' K => by
  unfold ko
  simp [ja]
 rw [hst]
 refine St.put (vs := ja l[i]) (cs' := (ja l[i]).toArray) S6 (og _) (by simp [ja]) rfl fun w7 S7 => ?_
 have S8 := S7.jt ((Fr.refl _ w7).dr 1)
 have sl : ∀ {w' : World} {L : List Asn}, St w0 w' (spB sb l[i] :: L) → ∀ K, ldN P 8 sb 0 w' K = K (ko l[i]) w' := fun S' K => S'.ldA (n := 8) (i := 0) (ja l[i]) rfl rfl K
 have ct : ic (dr w7 1) sb 0 = some (.int .u64 l[i].iu) := by rw [S8.cell]; rfl
 have lvlen : ∀ w' K, biT P .len #[T.b] T.c [false] [gv x 3] w' K = K (.int .i64 (l.take i).length) w' := fun w' K => (S8.up2.row lk).jb (by kernel_rfl) [false]
 rw [List.length_take, Nat.min_eq_left hi] at lvlen
 have ss : ∀ (x4 : List Value) w', gv x4 0 = gv x 3 → St w0 w' (spB sb l[i] :: ky v5 ((l.drop (i + 1)).flatMap qe) :: lh (gv x 3) (l.take i) :: iq tb #[.int .u64 b.n, .int .u64 b.jl] T.d :: (Y ++ R)) → biT P .append #[T.b, T.b] T.b [false, false] [gv x4 0, .slice (some ⟨w'.heap.size, 0, none⟩) 1 1] (w'.alloc (.cells (ja l[i]).toArray T.e)) fun t49 w => (fun x' w' => bnk w0 b l tb R x' w' ∧ l.length - slN (gv x' 3) < l.length - slN (gv x 3)) [.pointer (some ⟨sb, 0, none⟩), v5, .int .i64 0, t49, gv x4 1, v5] w := fun x4 w' x40 S' => by
  have S9 : St w0 (w'.alloc (.cells (ja l[i]).toArray T.e)) (lh (.slice (some ⟨w'.heap.size, 0, none⟩) 1 1) [l[i]] :: _) := St.su (l := [l[i]]) S' lk (by simp) (by simp [maxLen])
  rw [x40]
  refine Go.Eng.qj et.b lk og S9.up3 (l2 := [l[i]]) (S9.row lk) (by simp; omega) (by decide) fun w10 v10 S10 => ?_
  have e : l.take (i + 1) = l.take i ++ [l[i]] := by rw [List.take_add_one, List.getElem?_eq_getElem hil]; rfl
  rw [← e] at S10
  have S11 : St w0 w10 (lh v10 (l.take (i + 1)) :: ky v5 ((l.drop (i + 1)).flatMap qe) :: iq tb #[.int .u64 b.n, .int .u64 b.jl] T.d :: (Y ++ R)) := S10.swap.drop.swap.drop
  have S12 : St w0 w10 ([lh v10 (l.take (i + 1)), iq tb #[.int .u64 b.n, .int .u64 b.jl] T.d, ky v5 ((l.drop (i + 1)).flatMap qe)] ++ (Y ++ R)) := S11.tail (.swap _ _ _)
  refine ⟨⟨i + 1, [ky v5 ((l.drop (i + 1)).flatMap qe)], by omega, bke, bef S12⟩, ?_⟩
  have h10 : slN v10 = i + 1 := by
   obtain ⟨_, _, e2, _⟩ := S11.row lk
   rw [e2]
   show (l.take (i + 1)).length = i + 1
   rw [List.length_take]
   omega
  show l.length - slN v10 < _
  rw [h10, hsn]
  omega
 have hbs : ∀ w' K, bsT P T.b 1 #[(0, ko l[i])] w' K = K (.slice (some ⟨w'.heap.size, 0, none⟩) 1 1) (w'.alloc (.cells (ja l[i]).toArray T.e)) := fun w' K => by
  unfold ko
  simp [ja]
 by_cases hi0 : i = 0
 ·simp [lvlen, hi0]
  simp only [sl S8]
  rw [hbs]
  exact ss [gv x 3, gv x 4] (dr w7 1) rfl S8
 ·have hip : 0 < i := by omega
  have hl0 : 0 < (l.take i).length := by rw [List.length_take]; omega
  obtain ⟨ab, ao, cap, hv0, _, _, hc⟩ := (S8.up2.row lk).at (i := 0) hl0
  have hle : (l.take i).length = i := by rw [List.length_take]; omega
  have hia0 : ∀ w' K, iaT P T.b (gv x 3) (.int .i64 0) w' K = K (.pointer (some ⟨ab, ao, none⟩)) w' := fun w' K => by
   rw [hv0, abe (by simp) (by omega) (by omega)]
   simp
  have htt : (l.take i)[0].iu = l[i].iu := by
   rw [List.getElem_take]
   exact htr _ (List.getElem_mem _) _ (List.getElem_mem _)
  have c0 : ic (dr w7 1) ab ao = some (.int .u64 l[i].iu) := by
   have := hc 0 (.int .u64 (l.take i)[0].iu) rfl
   rw [htt] at this
   simpa using this
  simp [lvlen, hip, hia0, c0, ct]
  simp only [sl S8]
  rw [hbs]
  exact ss [gv x 3, gv x 4] (dr w7 1) rfl S8
end
def xz (b : Bal) : List Value := [.int .u64 b.n, .int .u64 b.jl]
theorem zr (b : Bal) : (xz b).length = 2 := rfl
theorem bbp (b : Bal) : ∀ u ∈ xz b, kq u = true := fun u hu => by
 simp only [xz, List.mem_cons, List.not_mem_nil, or_false] at hu
 rcases hu with rfl | rfl <;> rfl
def qu (a : Bal) (l : List Bal) : Bal := l.foldl (fun a x => if a.wy x = true then x else a) a
section
variable {w0 w : World} {R : List Asn}
abbrev baB (b : Nat) (x : Bal) : Asn := iq b #[.int .u64 x.n, .int .u64 x.jl] T.d
theorem acd {b : Nat} {x y : Bal} (S : St w0 w (baB b x :: R)) {K : KV} (h : ∀ w', St w0 w' (baB b y :: R) → K undef w') : stT P T.d (.pointer (some ⟨b, 0, none⟩)) (kt y) w K := by
 unfold kt
 simp
 exact St.put (vs := [.int .u64 y.n, .int .u64 y.jl]) (cs' := #[.int .u64 y.n, .int .u64 y.jl]) S (by simp [kq]) (by simp) rfl h
theorem aeh (S : St w0 w R) : St w0 (w.alloc (.cells #[.int .u64 0, .int .u64 0] T.d)) (baB w.heap.size ir :: R) := S.mkB #[.int .u64 0, .int .u64 0] T.d
def GrI (w0 : World) (a : Bal) (l : List Bal) (tb : Nat) (R : List Asn) : KL := fun x w1 => ∃ (i : Nat), x = [.int .i64 (i : Nat)] ∧ i ≤ l.length ∧ St w0 w1 (baB tb (qu a (l.take i)) :: R)
theorem awc (S : St w0 w R) {v : Value} {l : List Bal} (hs : ∀ w' L, St w0 w' (L ++ R) → Sl w' 2 xz v l) (hl : l.length ≤ 1000000) (a : Bal) {K : KV} (h : ∀ w', St w0 w' R → K (kt (qu a l)) w') : gr P F.et [kt a, v] w K := by
 rw [M.cn.fcall]
 apply M.cn.calls
 unfold M.cn
 refine St.tt S fun tb w1 S1 => ?_
 have S1' : St w0 w1 (baB tb a :: R) := S1
 simp
 have S2 := aeh S1'
 generalize w1.heap.size = rb at *
 generalize w1.alloc _ = w2 at *
 have hlen : ∀ w' K, biT P .len #[T.al] T.c [false] [v] w' K = K (.int .i64 l.length) w' := fun w' K => (hs w2 [_, _] S2).jb (by kernel_rfl) [false]
 simp [hlen]
 refine ⟨GrI w0 a l tb (baB rb ir :: R), fun x _ => l.length - ms x 0, ⟨0, rfl, Nat.zero_le _, S2.swap⟩, ?_⟩
 rintro x w3 ⟨i, rfl, hi, S3⟩
 by_cases hil : i < l.length
 ·have hwi : IntKind.i64.wrap ((i : Int) + 1) = ((i + 1 : Nat) : Int) := by rw [ig]; rfl
  simp [hil]
  unfold M.cn.j2
  obtain ⟨ab, ao, cap, hv, _, _, hc⟩ := (hs w3 [_, _] S3).at hil
  have hia : ∀ w' K, iaT P T.al v (.int .i64 (i : Nat)) w' K = K (.pointer (some ⟨ab, ao + i * 2, none⟩)) w' := fun w' K => by
   rw [hv, abe (by kernel_rfl) (by omega) (by omega), show szE P T.al = 2 from by kernel_rfl]
   simp
  have hld : ∀ K, ldN P 2 ab (ao + i * 2) w3 K = K (kt l[i]) w3 := fun K => po (xz l[i]) 2 rfl hc K
  have e : qu a (l.take (i + 1)) = if (qu a (l.take i)).wy l[i] = true then l[i] else qu a (l.take i) := by
   rw [List.take_add_one, List.getElem?_eq_getElem hil]
   unfold qu
   rw [List.foldl_append]
   rfl
  simp [hia, hld]
  have S4 := aeh S3
  generalize w3.heap.size = qb at *
  generalize w3.alloc _ = w4 at *
  refine acd (y := l[i]) S4 fun w5 S5 => ?_
  obtain ⟨_, _, b1⟩ := pm S5
  obtain ⟨_, _, b2⟩ := pm S5.swap
  simp [b1, b2]
  refine bcq _ _ fun w6 f6 => ?_
  have S6 := S5.jt f6
  obtain ⟨_, _, d1⟩ := pm S6
  simp
  rw [bgl]
  have fin : ∀ w', St w0 w' (baB tb (qu a (l.take (i + 1))) :: baB rb ir :: R) → GrI w0 a l tb (baB rb ir :: R) [.int .i64 ((i + 1 : Nat) : Int)] w' ∧ l.length - ms [.int .i64 ((i + 1 : Nat) : Int)] 0 < l.length - ms [.int .i64 (i : Nat)] 0 := fun w' S' => ⟨⟨i + 1, rfl, by omega, S'⟩, by simp [ms, gv]; omega⟩
  cases hb : (qu a (l.take i)).wy l[i] with
  | true =>
   rw [hb] at e
   simp only [if_true] at e
   simp [d1]
   refine acd (y := l[i]) S6.swap fun w7 S7 => ?_
   rw [hwi]
   refine fin w7 ?_
   rw [e]
   exact S7.swap.drop
  | false =>
   rw [hb] at e
   simp only [Bool.false_eq_true, if_false] at e
   simp
   rw [hwi]
   refine fin w6 ?_
   rw [e]
   exact S6.drop
 ·have hie : i = l.length := by omega
  subst hie
  rw [List.take_length] at S3
  obtain ⟨_, _, b1⟩ := pm S3
  simp [b1]
  refine acd (y := qu a l) S3.swap fun w5 S5 => ?_
  obtain ⟨_, _, b2⟩ := pm S5
  have hres : ∀ w' K, pp P T.d (.pointer (some ⟨rb, 0, none⟩)) w' K = ldN P 2 rb 0 w' K := fun w' K => kr
  simp [hres, b2]
  exact h w5 S5.drop.drop
theorem bnp (S : St w0 w R) {v : Value} {l : List Bal} (hs : ∀ w' L, St w0 w' (L ++ R) → Sl w' 2 xz v l) (hl : l.length ≤ 1000000) {K : KV} (h : ∀ w', St w0 w' R → K (kt (qu ir l)) w') : gr P F.fl [v] w K := by
 rw [M.fb.fcall]
 apply M.fb.calls
 unfold M.fb
 simp
 have S2 := aeh S
 generalize w.heap.size = rb at *
 generalize w.alloc _ = w2 at *
 refine awc (a := ir) S2 (fun w' L S' => hs w' (L ++ [_]) (by simpa using S')) hl fun w3 S3 => ?_
 refine acd (y := qu ir l) S3 fun w5 S5 => ?_
 obtain ⟨_, _, b2⟩ := pm S5
 have hres : ∀ w' K, pp P T.d (.pointer (some ⟨rb, 0, none⟩)) w' K = ldN P 2 rb 0 w' K := fun w' K => kr
 simp [hres, b2]
 exact h w5 S5.drop
end
def vk (tr : Int) (v : Value) : Pk := ⟨10, tr, ir, ir, 0, false, iz, iz, v⟩
theorem bhm {tr : Int} {v : Value} (h : uo tr) : ya (vk tr v) := ⟨h, ⟨by show (0 : Int) ≤ 0 ∧ (0 : Int) < _; omega, by show (0 : Int) ≤ 0 ∧ (0 : Int) < _; omega⟩, ⟨by show (0 : Int) ≤ 0 ∧ (0 : Int) < _; omega, by show (0 : Int) ≤ 0 ∧ (0 : Int) < _; omega⟩⟩
theorem agm {w : World} {tr : Int} {v : Value} {l : List Int} (h : SlU w v l) : ∀ u ∈ pkC (vk tr v), kq u = true := by
 obtain ⟨_, _, e, _⟩ := h
 unfold vk pkC
 rw [e]
 exact ue (b := ir) (s := ir)
theorem ami {w : World} {tr : Int} {v : Value} {l : List Int} (hs : SlU w v l) (hlen : l.length ≤ 1000000) {K : KV} (h : ∀ w' v', SlU w' v' l → (∀ b, v'.ownBlock = some b → w.heap.size ≤ b) → Fz w w' → K (pkA ⟨10, tr, ir, ir, 0, false, iz, iz, v'⟩) w') : gr P F.ax [.iface T.o (.agg #[.int .u64 tr, v])] w K := by
 rw [M.n.fcall]
 apply M.n.calls
 unfold M.n
 obtain ⟨a, c, hv, _⟩ := id hs
 rw [hv]
 simp [aau, zn, adu, aam, abz, xe]
 have S0 := afi w
 have z0 : (w.alloc (.cells #[.int .i64 0, .int .u64 0, .int .u64 0, .int .u64 0, .int .u64 0, .int .u64 0, .int .i64 0, .bool false, .slice none 0 0, .slice none 0 0, .slice none 0 0] T.a)).heap.size = w.heap.size + 1 := jz _ _
 generalize w.alloc (.cells #[.int .i64 0, .int .u64 0, .int .u64 0, .int .u64 0, .int .u64 0, .int .u64 0, .int .i64 0, .bool false, .slice none 0 0, .slice none 0 0, .slice none 0 0] T.a) = w1 at *
 have S1 := act S0 #[.int .u64 0, .slice none 0 0] T.o
 rw [z0] at S1
 generalize w.heap.size = pb at *
 generalize pb + 1 = ob at *
 refine km (vs := [Value.int .u64 tr, .slice a l.length c]) S1.blk rfl (by simp [kq]) fun w2 b2 f2 => ?_
 have S2 := S1.ni f2 b2
 have thC : ∀ {W : World} {R : List Asn}, St w W (iq ob [Value.int .u64 tr, .slice a l.length c].toArray T.o :: R) → ic W ob 0 = some (.int .u64 tr) ∧ ic W ob 1 = some (.slice a l.length c) := fun {W R} S' => by
  have hh := S'.blk
  exact ⟨by rw [ie hh]; rfl, by rw [ie hh]; rfl⟩
 have hpl : pb < w2.heap.size := (Array.getElem?_eq_some_iff.1 S2.swap.blk).1
 have fd : Fz w2 (dr w2 1) := (Fr.refl _ w2).dr 1
 have Sd := S2.jt fd
 obtain ⟨c0, c1⟩ := thC S2
 obtain ⟨e0, e1⟩ := thC Sd
 simp [c0, c1, e0, e1]
 rw [← hv]
 refine ahm ((hs.fr Sd.fr fun _ _ _ h => h)) hlen fun w3 v3 s3 n3 f3 => ?_
 obtain ⟨a3, c3, hv3, _⟩ := id s3
 have S3 := Sd.jt f3
 obtain ⟨g0, g1⟩ := thC S3
 have hnn : ∀ b, v3.ownBlock = some b → b ≠ pb := fun b hb => by
  have := n3 b hb
  have := fd.size
  omega
 have hge : ∀ b, v3.ownBlock = some b → pb ≤ b := fun b hb => by
  have := n3 b hb
  have := fd.size
  omega
 rw [hv3] at s3 hnn hge ⊢
 simp [g0, g1]
 refine km (vs := pkC ⟨10, tr, ir, ir, 0, false, iz, iz, .slice a3 l.length c3⟩) S3.swap.blk rfl ue fun w4 b4 f4 => ?_
 have S4 := S3.swap.ni f4 b4
 have s4 : SlU w4 (.slice a3 l.length c3) l := s3.fr f4 fun b hb _ => hnn b hb
 rw [ye S4]
 have e : pkA ⟨10, tr, ir, ir, 0, false, iz, iz, .slice a3 l.length c3⟩ = .agg #[.int .i64 10, .int .u64 tr, .int .u64 0, .int .u64 0, .int .u64 0, .int .u64 0, .int .i64 0, .bool false, .slice none 0 0, .slice none 0 0, .slice a3 l.length c3] := rfl
 rw [e]
 simp
 refine km (vs := pkC ⟨10, tr, ir, ir, 0, false, iz, iz, .slice a3 l.length c3⟩) S4.blk rfl ue fun w5 b5 f5 => ?_
 have S5 := S4.ni f5 b5
 rw [aad S5]
 exact ⟨rfl, h w5 _ (s4.fr f5 fun b hb _ => hnn b hb) hge S5.fr⟩
theorem awd {w : World} {tr : Int} {v : Value} {l : List Int} (hs : SlU w v l) (hl : l.length ≤ 1000000) (ht : uo tr) (hr : ∀ v', tg (vk tr v') [] [] l = true) {K : KV}
  (h : ∀ w' v', SlU w' v' l → (∀ b, v'.ownBlock = some b → w.heap.size ≤ b) → Fz w w' → K (.tuple #[pkA (vk tr v'), .int .i64 0]) w') : gr P F.ey [.iface T.o (.agg #[.int .u64 tr, v])] w K := by
 rw [M.eg.fcall]
 apply M.eg.calls
 unfold M.eg
 simp
 have S1 := agb (St.ji w)
 generalize w.heap.size = tb at *
 generalize w.alloc _ = w1 at *
 have htb : tb < w1.heap.size := (Array.getElem?_eq_some_iff.1 S1.blk).1
 refine ami (hs.fr S1.fr fun _ _ _ h => h) hl fun w2 v2 s2 o2 f2 => ?_
 have S2 := S1.jt f2
 have S3 := agb (St.ji w2)
 generalize w2.heap.size = rb at *
 generalize w2.alloc _ = w3 at *
 have hst : ∀ b w' K, stT P T.a (.pointer (some ⟨b, 0, none⟩)) (pkA (vk tr v2)) w' K = stN P b 0 (pkC (vk tr v2)) w' K := fun b w' K => aii _ _ _ _
 show stT P T.a (.pointer (some ⟨rb, 0, none⟩)) (pkA (vk tr v2)) w3 _
 rw [hst]
 refine als (q := vk tr v2) S3 rfl (agm s2) fun w4 S4 => ?_
 have s4 := s2.fr S4.fr fun _ _ _ h => h
 have pl := fun K => xf S4 K
 simp [pl]
 refine aiq ⟨Sl.nil, Sl.nil, s4, by simp, by simp, hl⟩ (bhm ht) fun w5 f5 => ?_
 have er : abo (vk tr v2) [] [] l = 0 := by unfold abo; rw [hr]; rfl
 rw [er]
 have S5 := S4.jt f5
 have s5 := s4.fr f5 fun _ _ _ h => h
 have pl5 := fun K => xf S5 K
 simp [pl5]
 rw [hst]
 have S6 : St w w5 (iq tb (pkC pkZ).toArray T.a :: []) := S2.jt S5.fr
 refine km (vs := pkC (vk tr v2)) S6.blk rfl (agm s5) fun w6 b6 f6 => ?_
 have S7 := S6.ni f6 b6
 have s6 : SlU w6 v2 l := s5.fr f6 fun b hb _ => by
  have := o2 b hb
  omega
 rw [aad S7]
 exact ⟨rfl, h w6 v2 s6 (fun b hb => Nat.le_trans (Nat.le_of_lt htb) (o2 b hb)) S7.fr⟩
section
variable {w0 w : World} {R : List Asn} {q hb p r : Nat} {L : Lg} {dn : Bool} {D : Dk} {G : Nat} {s f : Int} {lv : Value} {l : List Spn} {b : Bal}
abbrev lc (q hb p r : Nat) (dn : Bool) : Asn := iq q (aks hb p r dn) T.ak
theorem ub (S : St w0 w (lc q hb p r dn :: R)) : ic w q 0 = some (.pointer (some ⟨hb, 0, none⟩)) ∧ ic w q 1 = some (jx p) ∧ ic w q 2 = some (.map (some r)) ∧ ic w q 3 = some (.bool dn) :=
 ⟨by rw [S.cell]; rfl, by rw [S.cell]; rfl, by rw [S.cell]; rfl, by rw [S.cell]; rfl⟩
theorem ayf {k : Int} {x1 : List Value} (S : St w0 w (lc q hb p r dn :: R)) (hx : gv x1 0 = .int .i64 k) {K : KV} (h : ∀ w', St w0 w' (lc q hb p r (dn || decide (k = 10)) :: R) → K (.int .i64 k) w') : M.ae.j1 (jx q) x1 w K := by
 obtain ⟨_, _, _, c3⟩ := ub S
 unfold M.ae.j1 jx
 rw [hx]
 cases dn with
 | true =>
  simp [c3]
  exact S.vy rfl (by simp [aks]) fun w' S' => h w' S'
 | false =>
  by_cases hk : k = 10
  ·subst hk
   simp [c3]
   exact S.vy rfl (by simp [aks]) fun w' S' => h w' S'
  ·simp [c3, hk]
   refine S.vy rfl (by simp [aks]) fun w' S' => h w' ?_
   simp only [hk, decide_false, Bool.false_or]
   exact S'
theorem azo (S : St w0 w R) (hs : SlS w lv []) {a0 : Value} {K : KV} (h : ∀ w', St w0 w' R → K (.int .i64 0) w') : gr P F.bu [a0, kt b, lv] w K := by
 rw [M.ae.fcall]
 apply M.ae.calls
 unfold M.ae
 refine St.tt S fun bb w1 S1 => ?_
 have hlen : ∀ w' K, biT P .len #[T.b] T.c [false] [lv] w' K = K (.int .i64 0) w' := fun w' K => hs.jb (by kernel_rfl) [false]
 simp [hlen]
 exact h w1 S1.drop
theorem beg (S : St w0 w (lc q hb p r dn :: nb p hb L :: iy hb D :: R)) (hs : ∀ w' L', St w0 w' (L' ++ R) → SlS w' lv l) (hne : l ≠ []) (hr : ∀ s ∈ l, ly s = 0) (hl : l.length ≤ 60) (hg : sd s f L G D) (hn : f + (jq L.ii).length + 1 ≤ 1000000000000) {K : KV}
  (h : ∀ w', St w0 w' (lc q hb p r (dn || decide ((wrF L D [nn b l]).2 = 10)) :: nb p hb (wrF L D [nn b l]).1.1 :: iy hb (wrF L D [nn b l]).1.2 :: R) → K (.int .i64 (wrF L D [nn b l]).2) w') : gr P F.bu [jx q, kt b, lv] w K := by
 rw [M.ae.fcall]
 apply M.ae.calls
 unfold M.ae
 refine St.tt S fun bb w1 S1 => ?_
 have S1' : St w0 w1 (iq bb #[.int .u64 b.n, .int .u64 b.jl] T.d :: lc q hb p r dn :: nb p hb L :: iy hb D :: R) := S1
 have hlen : ∀ w' K, biT P .len #[T.b] T.c [false] [lv] w' K = K (.int .i64 l.length) w' := fun w' K => (hs w1 [_, _, _, _] S1').jb (by kernel_rfl) [false]
 have hz : ¬ (l.length : Int) = 0 := fun hz => hne (List.eq_nil_of_length_eq_zero (by omega))
 simp [hlen, hne]
 unfold M.ae.j0 jx
 have S2 := S1'.jt ((Fr.refl _ w1).dr 1)
 obtain ⟨_, c1, _, _⟩ := ub S2.swap
 obtain ⟨_, _, bl⟩ := pm S2
 simp [c1, bl]
 refine bhn S2 b (fun w' L' S' => hs w' (L' ++ [_, _, _, _]) (by simpa using S')) hr (by omega) fun w3 v3 S3 => ?_
 obtain ⟨_, d1, _, _⟩ := ub S3.up2
 simp [d1]
 have hrec : (nn b l).length ≤ 8192 := by
  have := abh hr
  unfold nn
  rw [List.length_append, List.length_append, mj, mj]
  omega
 have S4 : St w0 w3 (nb p hb L :: iy hb D :: lc q hb p r dn :: ky v3 (nn b l) :: iq bb #[.int .u64 b.n, .int .u64 b.jl] T.d :: R) := (S3.up4.up4).tail (.cons _ (List.perm_middle (l₁ := [_, _])))
 refine baa (av := v3) (rec := nn b l) S4 (bne S4.swap hg) (by omega) (fun w' L' S' => ?_) fun w5 S5 => ?_
 ·have S6 : St w0 w' ((L' ++ [lc q hb p r dn]) ++ (ky v3 (nn b l) :: iq bb #[.int .u64 b.n, .int .u64 b.jl] T.d :: R)) := by simpa using S'
  exact (S6.perm List.perm_middle).row ka
 have ha := bgd (b := nn b l) hg hn
 by_cases h0 : (L.append D (nn b l)).2 = 0
 ·rw [ase h0] at h
  have e0 : ∀ Li Di, wrF Li Di [] = ((Li, (Li.oh Di).1), (Li.oh Di).2) := fun Li Di => by unfold wrF th; simp
  rw [e0] at h
  generalize L.append D (nn b l) = z at *
  cases ha with
  | amt => simp at h0
  | uq => simp at h0
  | jj => simp at h0
  | ok L' D' g' e1 =>
   obtain ⟨_, f1, _, _⟩ := ub S5.up2
   simp [f1]
   refine arf S5 (by have := g'.vir.len; show L'.ii.length ≤ 1000000; omega) fun w6 S6 => ?_
   exact ayf S6.up2 rfl fun w7 S7 => h w7 (S7.up3.drop.up3.drop)
 ·rw [bfj h0] at h
  simp [h0]
  exact ayf S5.up2 rfl fun w7 S7 => h w7 (S7.up3.drop.up3.drop)
end
def xv (x y : Spn) : Int := orK [tj x.ji y.ji, tj x.id y.id]
theorem bcw {w : World} (x y : Spn) {K : KV} (h : ∀ w', Fz w w' → K (.int .i64 (xv x y)) w') : gr P F.ef [ko x, ko y] w K := by
 rw [M.fc.fcall]
 apply M.fc.calls
 unfold M.fc
 refine St.tt (St.ji w) fun b1 w1 S1 => ?_
 refine St.tt S1 fun b2 w2 S2 => ?_
 have S3 : St w (dr w2 1) (spB b2 y :: spB b1 x :: []) := S2.jt ((Fr.refl _ w2).dr 1)
 have x3 : ic (dr w2 1) b1 3 = some (.int .u64 x.ji) := by rw [S3.swap.cell]; rfl
 have x1 : ic (dr w2 1) b1 1 = some (.int .u64 x.id) := by rw [S3.swap.cell]; rfl
 have y3 : ic (dr w2 1) b2 3 = some (.int .u64 y.ji) := by rw [S3.cell]; rfl
 have y1 : ic (dr w2 1) b2 1 = some (.int .u64 y.id) := by rw [S3.cell]; rfl
 simp [x3, x1, y3, y1]
 refine aay _ _ ?_
 simp [x3, x1, y3, y1]
 refine aay _ _ ?_
 simp
 have S4 := S3.mkB #[.int .i64 (tj x.ji y.ji), .int .i64 (tj x.id y.id)] T.c
 rw [show (dr w2 1).heap.size = w2.heap.size from rfl] at S4
 have hsl : Sl ((dr w2 1).alloc (.cells #[.int .i64 (tj x.ji y.ji), .int .i64 (tj x.id y.id)] T.c)) 1 zh (.slice (some ⟨w2.heap.size, 0, none⟩) 2 2) [tj x.ji y.ji, tj x.id y.id] := by
  have hh := S4.blk
  refine ⟨some ⟨w2.heap.size, 0, none⟩, 2, rfl, by simp, by simp [maxLen], fun i z hz => ⟨w2.heap.size, 0, rfl, qa hh, fun j u hj => ?_⟩⟩
  rw [ie hh]
  match i, j with
  | 0, 0 => simp [zh] at hz hj ⊢; rw [hz]; exact hj
  | 1, 0 => simp [zh] at hz hj ⊢; rw [hz]; exact hj
  | i + 2, _ => simp at hz
  | _, j + 1 => simp [zh] at hj
 rw [M.ds.fcall]
 exact bdu hsl (by simp) (h _ S4.fr)
def anm (w0 : World) (R : List Asn) (fv : Value) (pf : Spn → Bool) : Prop := ∀ w' L x (K : KV), St w0 w' (L ++ R) → (∀ w'', Fz w' w'' → K (.bool (pf x)) w'') → nr P fv [ko x] w' K
section
variable {w0 w : World} {R : List Asn} {v fv : Value} {l : List Spn} {pf : Spn → Bool}
def bpk (w0 : World) (l : List Spn) (pf : Spn → Bool) (R : List Asn) : KL := fun x w1 => ∃ (i : Nat), gv x 2 = .int .i64 (i : Nat) ∧ i ≤ l.length ∧ (∀ j (h : j < l.length), j < i → pf l[j] = false) ∧ St w0 w1 R
theorem bfd (S : St w0 w R) (hs : ∀ w' L, St w0 w' (L ++ R) → SlS w' v l) (hf : anm w0 R fv pf) (hl : l.length ≤ 1000000) {K : KV}
  (hno : (∀ x ∈ l, pf x = false) → ∀ w', St w0 w' R → K (.int .i64 (-1)) w')
  (hyes : ∀ i (hi : i < l.length), pf l[i] = true → (∀ j (h : j < l.length), j < i → pf l[j] = false) → ∀ w', St w0 w' R → K (.int .i64 (i : Nat)) w') : gr P F.bb [v, fv] w K := by
 rw [M.v.fcall]
 apply M.v.calls
 unfold M.v
 have hlen : ∀ w' K, biT P .len #[T.b] T.c [false] [v] w' K = K (.int .i64 l.length) w' := fun w' K => (hs w [] S).jb (by kernel_rfl) [false]
 simp [hlen]
 refine ⟨bpk w0 l pf R, fun x _ => l.length - ms x 2, ⟨0, rfl, Nat.zero_le _, fun j _ h => by omega, S⟩, ?_⟩
 rintro x w1 ⟨i, e2, hi, hpre, S1⟩
 rw [e2]
 by_cases hil : i < l.length
 ·have hwi : IntKind.i64.wrap ((i : Int) + 1) = ((i + 1 : Nat) : Int) := by rw [ig]; rfl
  simp [hil]
  unfold M.v.j2
  rw [e2]
  obtain ⟨ab, ao, cap, hv, _, _, hc⟩ := (hs w1 [] S1).at hil
  have hia : ∀ w' K, iaT P T.b v (.int .i64 (i : Nat)) w' K = K (.pointer (some ⟨ab, ao + i * 8, none⟩)) w' := fun w' K => by rw [hv]; simp [hil]
  have hld : ∀ K, ldN P 8 ab (ao + i * 8) w1 K = K (ko l[i]) w1 := fun K => po (ja l[i]) 8 rfl hc K
  simp [hia, hld]
  refine hf w1 [] l[i] _ S1 fun w2 f2 => ?_
  have S2 := S1.jt f2
  cases hp : pf l[i] with
  | true =>
   simp
   exact hyes i hil hp hpre w2 S2
  | false =>
   simp
   rw [hwi]
   refine ⟨⟨i + 1, rfl, by omega, fun j h hj => ?_, S2⟩, ?_⟩
   ·by_cases hji : j = i
    ·subst hji; exact hp
    ·exact hpre j h (by omega)
   ·have : ms x 2 = i := by unfold ms; rw [e2]; simp
    rw [this]
    simp [ms, gv]; omega
 ·have hie : i = l.length := by omega
  subst hie
  simp
  refine hno (fun y hy => ?_) w1 S1
  obtain ⟨j, hj, rfl⟩ := List.getElem_of_mem hy
  exact hpre j hj hj
end
open Go.Eng
def leS (x y : Spn) : Prop := x.ji < y.ji ∨ (x.ji = y.ji ∧ x.id ≤ y.id)
theorem vu {x y : Spn} : xv x y < 0 ↔ ¬ leS y x := by
 unfold xv orK tj leS
 by_cases h1 : x.ji < y.ji
 ·have h2 : ¬ y.ji < x.ji := by omega
  simp [h1, h2]
  omega
 ·by_cases h2 : y.ji < x.ji
  ·simp [h1, h2]
  ·have h3 : y.ji = x.ji := by omega
   by_cases h4 : x.id < y.id
   ·simp [h3, h4]
   ·by_cases h5 : y.id < x.id
    ·simp [h3, h4, h5] <;> omega
    ·simp [h3, h4, h5] <;> omega
theorem leS.refl (x : Spn) : leS x x := .inr ⟨rfl, Int.le_refl _⟩
theorem leS.trans {x y z : Spn} (h : leS x y) (h' : leS y z) : leS x z := by unfold leS at *; omega
theorem leS.of {x y : Spn} (h : ¬ leS y x) : leS x y := by unfold leS at *; omega
abbrev oy (l : List Spn) : Prop := l.Pairwise leS
theorem oy.le {l : List Spn} (h : oy l) {i j : Nat} (hij : i ≤ j) (hj : j < l.length) : leS (l[i]'(by omega)) l[j] := by
 by_cases he : i = j
 ·subst he; exact leS.refl _
 ·exact List.pairwise_iff_getElem.1 h i j (by omega) hj (by omega)
theorem apr {l l' : List Spn} (hp : l.Perm l') (h1 : oy l) (h2 : oy l') (hn : ∀ x ∈ l, ∀ y ∈ l, x.id = y.id → x = y) : l = l' :=
 List.Perm.eq_of_pairwise (fun a b ha hb h1 h2 => hn a ha b (hp.mem_iff.2 hb) (by unfold leS at h1 h2; omega)) h1 h2 hp
theorem ali {A B : List Spn} (hA : oy A) (hB : oy B) {s t : Nat} (hs : s ≤ A.length) (h : s = 0 ∨ t = B.length ∨ ∃ (h1 : s - 1 < A.length) (h2 : t < B.length), leS A[s - 1] B[t]) : ∀ x ∈ A.take s, ∀ y ∈ B.drop t, leS x y := by
 intro x hx y hy
 obtain ⟨i, hi, rfl⟩ := List.mem_iff_getElem.1 hx
 obtain ⟨j, hj, rfl⟩ := List.mem_iff_getElem.1 hy
 simp only [List.length_take, List.length_drop] at hi hj
 rw [List.getElem_take, List.getElem_drop]
 rcases h with h | h | ⟨h1, h2, h3⟩
 ·omega
 ·omega
 ·exact ((hA.le (i := i) (j := s - 1) (by omega) h1).trans h3).trans (hB.le (i := t) (j := t + j) (by omega) (by omega))
theorem akf {A B C1 C2 : List Spn} (hA : oy A) (hB : oy B) {s t : Nat} (hs : s ≤ A.length) (ht : t ≤ B.length)
  (h1 : s = 0 ∨ t = B.length ∨ ∃ (h1 : s - 1 < A.length) (h2 : t < B.length), leS A[s - 1] B[t])
  (h2 : t = 0 ∨ s = A.length ∨ ∃ (h1 : t - 1 < B.length) (h2 : s < A.length), leS B[t - 1] A[s])
  (c1 : oy C1) (p1 : C1.Perm (A.take s ++ B.take t)) (c2 : oy C2) (p2 : C2.Perm (A.drop s ++ B.drop t)) : oy (C1 ++ C2) ∧ (C1 ++ C2).Perm (A ++ B) := by
 have k1 := ali hA hB hs h1
 have k2 := ali hB hA ht h2
 refine ⟨List.pairwise_append.2 ⟨c1, c2, fun x hx y hy => ?_⟩, ?_⟩
 ·have hx' := List.mem_append.1 (p1.mem_iff.1 hx)
  have hy' := List.mem_append.1 (p2.mem_iff.1 hy)
  have dA : A = A.take s ++ A.drop s := (List.take_append_drop s A).symm
  have dB : B = B.take t ++ B.drop t := (List.take_append_drop t B).symm
  rw [dA] at hA
  rw [dB] at hB
  rcases hx' with hx' | hx' <;> rcases hy' with hy' | hy'
  ·exact (List.pairwise_append.1 hA).2.2 x hx' y hy'
  ·exact k1 x hx' y hy'
  ·exact k2 x hx' y hy'
  ·exact (List.pairwise_append.1 hB).2.2 x hx' y hy'
 ·refine (p1.append p2).trans ?_
  have e : (A.take s ++ B.take t ++ (A.drop s ++ B.drop t)).Perm (A.take s ++ A.drop s ++ (B.take t ++ B.drop t)) := by
   simp only [List.append_assoc]
   refine List.Perm.append_left _ ?_
   rw [← List.append_assoc, ← List.append_assoc]
   exact List.Perm.append_right _ List.perm_append_comm
  rwa [List.take_append_drop, List.take_append_drop] at e
theorem aky {B : List Spn} {x : Spn} {i : Nat} (hB : oy B) (hi : i ≤ B.length) (h1 : i = 0 ∨ ∃ h : i - 1 < B.length, leS B[i - 1] x) (h2 : i = B.length ∨ ∃ h : i < B.length, leS x B[i]) : oy (B.take i ++ x :: B.drop i) := by
 have h := akf (A := B) (B := [x]) (C1 := B.take i) (C2 := x :: B.drop i) (s := i) (t := 0) hB (by simp) hi (by simp) (by
  rcases h1 with h | ⟨h, hl⟩
  ·exact .inl h
  ·exact .inr (.inr ⟨h, by simp, by simpa using hl⟩)) (.inl rfl) (hB.sublist (List.take_sublist _ _)) (by simp) ?_ (by simpa using (List.perm_append_comm (l₁ := [x]) (l₂ := B.drop i)))
 ·exact h.1
 ·refine List.pairwise_cons.2 ⟨fun y hy => ?_, hB.sublist (List.drop_sublist _ _)⟩
  obtain ⟨j, hj, rfl⟩ := List.mem_iff_getElem.1 hy
  simp only [List.length_drop] at hj
  rw [List.getElem_drop]
  rcases h2 with h | ⟨h, hl⟩
  ·omega
  ·exact hl.trans (hB.le (i := i) (j := i + j) (by omega) (by omega))
theorem aku (B : List Spn) (x : Spn) (i : Nat) : (B.take i ++ x :: B.drop i).Perm (x :: B) := by
 have := List.perm_middle (l₁ := B.take i) (a := x) (l₂ := B.drop i)
 rwa [List.take_append_drop] at this
def azg (l : List Spn) (i j : Nat) (hi : i < l.length) (hj : j < l.length) : List Spn := (l.set i l[j]).set j l[i]
theorem axd (P Q R : List Spn) (x y : Spn) {l : List Spn} {i j : Nat} (hl : l = P ++ x :: (Q ++ y :: R)) (hi : i = P.length) (hj : j = P.length + 1 + Q.length) (h1 : i < l.length) (h2 : j < l.length) : azg l i j h1 h2 = P ++ y :: (Q ++ x :: R) := by
 subst hl hi hj
 have e1 : (P ++ x :: (Q ++ y :: R))[P.length]'h1 = x := by simp
 have e2 : (P ++ x :: (Q ++ y :: R))[P.length + 1 + Q.length]'h2 = y := by
  rw [List.getElem_append_right (by omega)]
  have : P.length + 1 + Q.length - P.length = Q.length + 1 := by omega
  simp [this]
 unfold azg
 rw [e1, e2]
 have : (P ++ x :: (Q ++ y :: R)).set P.length y = P ++ y :: (Q ++ y :: R) := by simp
 rw [this]
 rw [List.set_append_right _ _ (by omega)]
 have : P.length + 1 + Q.length - P.length = Q.length + 1 := by omega
 rw [this]
 simp
abbrev EnS := Bal × Spn
def isE (t : Int) (e : EnS) : Bool := decide (e.2.iu = t)
def un (es : List EnS) (x : Spn) : Bool := es.any fun e => decide (e.2.iu = x.iu) && decide (e.2.id = x.id)
def na (b : Bal) (es : List EnS) (x : Spn) : List EnS := if un es x = true then es else es ++ [(b, x)]
def nh (es : List EnS) (t : Int) : List Spn := (es.filter (isE t)).map (·.2)
def wx (es : List EnS) (t : Int) : List Bal := (es.filter (isE t)).map (·.1)
def bOf (es : List EnS) (t : Int) : Bal := qu ir (wx es t)
def yz (l : List Int) (t : Int) : List Int := if t ∈ l then l else l ++ [t]
def mq (es : List EnS) : List Int := es.foldl (fun l e => yz l e.2.iu) []
theorem alb (es : List EnS) (e : EnS) : mq (es ++ [e]) = yz (mq es) e.2.iu := by unfold mq; rw [List.foldl_append]; rfl
theorem alf {l : List Int} {t x : Int} : x ∈ yz l t ↔ x ∈ l ∨ x = t := by
 unfold yz
 split
 ·exact ⟨.inl, fun h => h.elim id fun h => by rw [h]; assumption⟩
 ·simp
theorem bar {l : List Int} (h : l.Nodup) (t : Int) : (yz l t).Nodup := by
 unfold yz
 split
 ·exact h
 ·rename_i hn
  rw [List.nodup_append]
  exact ⟨h, by simp, fun a ha b hb => by simp at hb; subst hb; exact fun e => hn (e ▸ ha)⟩
theorem ajc {es : List EnS} {t : Int} : t ∈ mq es ↔ ∃ e ∈ es, e.2.iu = t := by
 have h : ∀ (es : List EnS) (l : List Int), t ∈ es.foldl (fun l e => yz l e.2.iu) l ↔ t ∈ l ∨ ∃ e ∈ es, e.2.iu = t := by
  intro es
  induction es with
  | nil => simp
  | cons a r ih =>
   intro l
   rw [List.foldl_cons, ih, alf]
   simp only [List.mem_cons, exists_eq_or_imp, or_assoc]
   rw [show (t = a.2.iu) = (a.2.iu = t) from propext ⟨Eq.symm, Eq.symm⟩]
 have := h es []
 simpa [mq] using this
theorem abm (es : List EnS) : (mq es).Nodup := by
 have h : ∀ (es : List EnS) (l : List Int), l.Nodup → (es.foldl (fun l e => yz l e.2.iu) l).Nodup := by
  intro es
  induction es with
  | nil => exact fun l h => h
  | cons a r ih => exact fun l h => ih _ (bar h _)
 exact h es [] (by simp)
theorem agr (es : List EnS) (b : Bal) (x : Spn) (t : Int) : nh (es ++ [(b, x)]) t = if x.iu = t then nh es t ++ [x] else nh es t := by
 unfold nh
 rw [List.filter_append, List.map_append]
 split <;> rename_i h <;> simp [isE, h]
theorem akw (es : List EnS) (b : Bal) (x : Spn) (t : Int) : wx (es ++ [(b, x)]) t = if x.iu = t then wx es t ++ [b] else wx es t := by
 unfold wx
 rw [List.filter_append, List.map_append]
 split <;> rename_i h <;> simp [isE, h]
theorem app (a : Bal) (l : List Bal) (b : Bal) : qu a (l ++ [b]) = if (qu a l).wy b = true then b else qu a l := by unfold qu; rw [List.foldl_append]; rfl
theorem bkk {l : List Bal} (h : ∀ b ∈ l, b.rng) : ∀ {a : Bal}, a.rng → (qu a l).rng := by
 induction l with
 | nil => exact fun h => h
 | cons x r ih =>
  intro a ha
  show (qu (if a.wy x = true then x else a) r).rng
  refine ih (fun b hb => h b (List.mem_cons_of_mem _ hb)) ?_
  split
  ·exact h x (by simp)
  ·exact ha
theorem bph : ir.rng := by unfold Bal.rng ir uo; simp
theorem blp {a b : Bal} (ha : a.rng) : qu ir [a, b] = if a.wy b = true then b else a := by
 have h : (if ir.wy a = true then a else ir) = a := by
  by_cases hl : ir.wy a = true
  ·rw [if_pos hl]
  ·rw [if_neg hl]
   have h1 := ha
   obtain ⟨n, d⟩ := a
   unfold Bal.rng uo at h1
   unfold Bal.wy ir at hl
   simp at hl h1
   unfold ir
   congr 1 <;> omega
 show (if (if ir.wy a = true then a else ir).wy b = true then b else (if ir.wy a = true then a else ir)) = _
 rw [h]
theorem atl {es : List EnS} (hr : ∀ e ∈ es, e.1.rng) (b : Bal) (x : Spn) : bOf (es ++ [(b, x)]) x.iu = qu ir [bOf es x.iu, b] := by
 have h1 : (bOf es x.iu).rng := bkk (fun y hy => by
  unfold wx at hy
  obtain ⟨e, he, rfl⟩ := List.mem_map.1 hy
  exact hr e (List.mem_filter.1 he).1) bph
 rw [blp h1]
 unfold bOf
 rw [akw, if_pos rfl, app]
theorem bet {es : List EnS} (b : Bal) (x : Spn) {t : Int} (h : x.iu ≠ t) : bOf (es ++ [(b, x)]) t = bOf es t := by
 unfold bOf
 rw [akw, if_neg h]
theorem ajh {es : List EnS} {t : Int} {x : Spn} : x ∈ nh es t ↔ ∃ b, (b, x) ∈ es ∧ x.iu = t := by
 unfold nh
 constructor
 ·intro h
  obtain ⟨e, he, rfl⟩ := List.mem_map.1 h
  have := List.mem_filter.1 he
  exact ⟨e.1, this.1, by simpa [isE] using this.2⟩
 ·rintro ⟨b, h, ht⟩
  exact List.mem_map.2 ⟨(b, x), List.mem_filter.2 ⟨h, by simpa [isE] using ht⟩, rfl⟩
theorem agv {es : List EnS} {t : Int} (h : t ∉ mq es) : nh es t = [] := by
 rw [List.eq_nil_iff_forall_not_mem]
 intro x hx
 obtain ⟨b, hb, ht⟩ := ajh.1 hx
 exact h (ajc.2 ⟨_, hb, ht⟩)
theorem arh {es : List EnS} {t : Int} (h : t ∉ mq es) : wx es t = [] := by
 unfold wx
 rw [List.map_eq_nil_iff, List.filter_eq_nil_iff]
 intro e he hi
 exact h (ajc.2 ⟨e, he, by simpa [isE] using hi⟩)
def qf (l : List Spn) : MP := l.map fun s => (s.id, ko s)
theorem atg {α : Type} (f : α → Int) (g : α → Value) (l : List α) (k : Int) : mn (l.map fun s => (f s, g s)) k = (l.find? fun s => decide (f s = k)).map g := by
 induction l with
 | nil => rfl
 | cons a r ih =>
  show (if f a = k then some (g a) else mn (r.map fun s => (f s, g s)) k) = _
  rw [List.find?_cons]
  by_cases h : f a = k
  ·simp [h]
  ·rw [if_neg h, ih]; simp [h]
theorem aqz {m : MP} {k : Int} {v : Value} (h : mn m k = none) : tu m k v = m ++ [(k, v)] := by
 induction m with
 | nil => rfl
 | cons a r ih =>
  obtain ⟨y, u⟩ := a
  have h' : (if y = k then some u else mn r k) = none := h
  by_cases hy : y = k
  ·rw [if_pos hy] at h'; cases h'
  ·rw [if_neg hy] at h'
   show (if y = k then (k, v) :: r else (y, u) :: tu r k v) = _
   rw [if_neg hy, ih h']
   rfl
theorem aoq {es : List EnS} {x : Spn} : un es x = (nh es x.iu).any fun s => decide (s.id = x.id) := by
 unfold un nh
 rw [List.any_map, List.any_filter]
 rfl
theorem ary (es : List EnS) (x : Spn) : (mn (qf (nh es x.iu)) x.id).isSome = un es x := by
 unfold qf
 rw [atg (fun s : Spn => s.id) ko, aoq, Option.isSome_map, Bool.eq_iff_iff, List.find?_isSome, List.any_eq_true]
abbrev WrM := Bal × List Spn
structure okM (m : WrM) : Prop where
 b : m.1.rng
 ne : m.2 ≠ []
 ok : ∀ s ∈ m.2, ly s = 0 ∧ wt s
 tr : ∀ s ∈ m.2, ∀ s' ∈ m.2, s.iu = s'.iu
 len : m.2.length ≤ 16
def pz (m : WrM) : List Int := nn m.1 m.2
def afw (es : List EnS) (m : WrM) : List EnS := m.2.foldl (na m.1) es
def jk (ms : List WrM) : List EnS := ms.foldl afw []
theorem apf (ms : List WrM) (m : WrM) : jk (ms ++ [m]) = afw (jk ms) m := by unfold jk; rw [List.foldl_append]; rfl
theorem arl {m : WrM} (h : okM m) : (pz m).length ≤ 1728 := by
 have h1 := abh fun s hs => (h.ok s hs).1
 have h2 := h.len
 unfold pz nn
 rw [List.length_append, List.length_append, mj, mj]
 omega
structure SI (s f : Int) (L : Lg) (D : Dk) (ms : List WrM) : Prop where
 aaq : sd s f L ms.length D
 jc : jq L.ii = ms.map pz
 ok : ∀ m ∈ ms, okM m
theorem SI.len {s f : Int} {L : Lg} {D : Dk} {ms : List WrM} (h : SI s f L D ms) : (jq L.ii).length = ms.length := by rw [h.jc, List.length_map]
inductive aqv (s f im B : Int) (arm : Bool) (jf : Int) (ms : List WrM) (m : WrM) : Int → List WrM → Bool → Lg → Dk → Prop
 | ok (L : Lg) (D : Dk) : SI s f L D (ms ++ [m]) → L.im = im → f + (jq L.ii).length ≤ B → (arm = false → D.jw = false) → D.jf = jf → aqv s f im B arm jf ms m 0 (ms ++ [m]) false L D
 | uq (L : Lg) (D : Dk) : SI s f L D ms → L.im = im → f + (jq L.ii).length ≤ B → (arm = false → D.jw = false) → D.jf = jf → aqv s f im B arm jf ms m 9 ms false L D
 | jj (L : Lg) (D : Dk) (Q : List Prt) (X : List WrM) : arm = true → D.jj = true → Vir s f Q ms.length D False → jq Q = X.map pz → (X = ms ∨ X = ms ++ [m]) → f + (jq Q).length ≤ B → D.jf = jf → L.im = im → f + (jq L.ii).length ≤ B → aqv s f im B arm jf ms m 10 ms true L D
theorem awl {s f B : Int} {L : Lg} {D : Dk} {ms : List WrM} {m : WrM} (I : SI s f L D ms) (hm : okM m) (hB : f + (jq L.ii).length + 1 ≤ B) (hB2 : B ≤ 1000000000000) :
  aqv s f L.im B D.jw D.jf ms m (wrF L D [pz m]).2 (if (wrF L D [pz m]).2 = 0 then ms ++ [m] else ms) (decide ((wrF L D [pz m]).2 = 10)) (wrF L D [pz m]).1.1 (wrF L D [pz m]).1.2 := by
 have hl := arl hm
 have hw := bjv (jc := [pz m]) I.aaq (fun b hb => by rw [List.mem_singleton.1 hb]; omega) (by simp; omega)
 have hok : ∀ x ∈ ms ++ [m], okM x := fun x hx => by
  rcases List.mem_append.1 hx with hx | hx
  ·exact I.ok x hx
  ·rw [List.mem_singleton.1 hx]; exact hm
 generalize wrF L D [pz m] = z at *
 cases hw with
 | ok L' D' g e1 e2 e3 e4 =>
  have e5 : jq L'.ii = (ms ++ [m]).map pz := by rw [e1, I.jc]; simp
  refine .ok L' D' ⟨?_, e5, hok⟩ e2 (by rw [e1, List.length_append, List.length_singleton]; omega) e4 e3
  have : (ms ++ [m]).length = (jq L'.ii).length := by rw [e5, List.length_map]
  rw [this]; exact g
 | uq i L' D' hi g e1 e2 e3 e4 =>
  have hi0 : i = 0 := by simpa using hi
  rw [hi0, List.take_zero, List.append_nil] at e1
  exact .uq L' D' ⟨g, by rw [e1]; exact I.jc, I.ok⟩ e2 (by rw [e1]; omega) e4 e3
 | jj i L' D' Q b1 b2 b3 b4 b5 b6 b7 b8 =>
  have hb : f + (jq Q).length ≤ B := by rw [b6, List.length_append, List.length_take, List.length_singleton]; omega
  have hb8 : f + (jq L'.ii).length ≤ B := by simp at b8; omega
  cases i with
  | zero => exact .jj L' D' Q ms b1 b4 b5 (by rw [b6, I.jc]; simp) (.inl rfl) hb b7 b2 hb8
  | succ i => exact .jj L' D' Q (ms ++ [m]) b1 b4 b5 (by rw [b6, I.jc, List.take_of_length_le (by simp)]; simp) (.inr rfl) hb b7 b2 hb8
theorem amn {tr : Int} : ∀ {l : List Spn} {met : List Int}, tf tr met l = true → (∀ s ∈ l, ly s = 0 ∧ s.iu = tr ∧ s.id ∉ met) ∧ (l.map Spn.id).Nodup
 | [], _, _ => ⟨fun s hs => by simp at hs, by simp⟩
 | s :: r, met, h => by
  rw [tf] at h
  simp only [Bool.and_eq_true, decide_eq_true_eq, Bool.not_eq_true', decide_eq_false_iff_not] at h
  obtain ⟨⟨h1, h2, h3⟩, h4⟩ := h
  obtain ⟨k1, k2⟩ := amn h4
  refine ⟨fun x hx => ?_, ?_⟩
  ·rcases List.mem_cons.1 hx with rfl | hx
   ·exact ⟨h1, h2, h3⟩
   ·have := k1 x hx
    exact ⟨this.1, this.2.1, fun hm => this.2.2 (List.mem_append_left _ hm)⟩
  ·rw [List.map_cons, List.nodup_cons]
   refine ⟨fun hm => ?_, k2⟩
   obtain ⟨x, hx, he⟩ := List.mem_map.1 hm
   exact (k1 x hx).2.2 (List.mem_append_right _ (by rw [he]; simp))
structure WrP (p : Pk) (ls : List Spn) : Prop where
 tr : 0 < p.tr
 bn : 0 < p.b.n
 ok : ∀ s ∈ ls, ly s = 0 ∧ s.iu = p.tr
 ids : (ls.map Spn.id).Nodup
 ne : ls ≠ []
 len : ls.length ≤ 16
def wrE (p : Pk) (ls : List Spn) (lm : List Mem) (lu : List Int) : Bool := decide (p.ip = 9) && tg p ls lm lu
theorem acv {p : Pk} {ls : List Spn} {lm : List Mem} {lu : List Int} (h : wrE p ls lm lu = true) : p.ip = 9 ∧ WrP p ls := by
 unfold wrE at h
 simp only [Bool.and_eq_true, decide_eq_true_eq] at h
 obtain ⟨hk, h⟩ := h
 unfold tg nf rp at h
 simp [hk] at h
 obtain ⟨⟨_, htr⟩, hb, hs, h1, h2⟩ := h
 obtain ⟨k1, k2⟩ := amn hs
 exact ⟨hk, htr, hb, fun s hs => ⟨(k1 s hs).1, (k1 s hs).2.1⟩, k2, fun e => by rw [e] at h1; simp at h1, h2⟩
def kg (es : List EnS) (l : List Spn) : List Spn := l.filter fun x => !un es x
theorem biy (es : List EnS) (b : Bal) (y x : Spn) : un (es ++ [(b, y)]) x = (un es x || (decide (y.iu = x.iu) && decide (y.id = x.id))) := by
 unfold un; rw [List.any_append]; simp
theorem aly (b : Bal) : ∀ {l : List Spn} {es : List EnS}, (l.map Spn.id).Nodup → (∀ x ∈ l, un es x = false) → l.foldl (na b) es = es ++ l.map fun x => (b, x)
 | [], es, _, _ => by simp
 | x :: r, es, hn, hx => by
  rw [List.map_cons, List.nodup_cons] at hn
  have h0 := hx x (by simp)
  rw [List.foldl_cons]
  have e1 : na b es x = es ++ [(b, x)] := by unfold na; rw [h0]; simp
  rw [e1, aly b hn.2 fun y hy => ?_]
  ·simp
  ·rw [biy, hx y (List.mem_cons_of_mem _ hy)]
   have : x.id ≠ y.id := fun e => hn.1 (List.mem_map.2 ⟨y, hy, e.symm⟩)
   simp [this]
theorem azb {b : Bal} {l : List Spn} {es : List EnS} (hn : (l.map Spn.id).Nodup) : (kg es l).foldl (na b) es = es ++ (kg es l).map fun x => (b, x) :=
 aly b (((List.filter_sublist).map _).nodup hn) fun x hx => by simpa using (List.mem_filter.1 hx).2
def yb (es : List EnS) : Prop := es.Pairwise fun a b => ¬ (a.2.iu = b.2.iu ∧ a.2.id = b.2.id)
theorem bhb {es : List EnS} (h : yb es) (b : Bal) (x : Spn) : yb (na b es x) := by
 unfold na
 split
 ·exact h
 ·rename_i hn
  unfold yb
  rw [List.pairwise_append]
  refine ⟨h, by simp, fun a ha c hc => ?_⟩
  rw [List.mem_singleton.1 hc]
  rintro ⟨h1, h2⟩
  refine hn ?_
  unfold un
  rw [List.any_eq_true]
  exact ⟨a, ha, by simp [h1, h2]⟩
theorem aox (b : Bal) : ∀ {l : List Spn} {es : List EnS}, yb es → yb (l.foldl (na b) es)
 | [], _, h => h
 | x :: r, _, h => aox b (l := r) (bhb h b x)
theorem aed : ∀ (ms : List WrM), yb (jk ms) := by
 have h : ∀ (ms : List WrM) (es : List EnS), yb es → yb (ms.foldl afw es) := by
  intro ms
  induction ms with
  | nil => exact fun _ h => h
  | cons m r ih => exact fun es h => ih _ (aox m.1 h)
 exact fun ms => h ms [] List.Pairwise.nil
theorem bit {es : List EnS} (h : yb es) (t : Int) : ∀ x ∈ nh es t, ∀ y ∈ nh es t, x.id = y.id → x = y := by
 have hp : (nh es t).Pairwise fun x y => x.id ≠ y.id := by
  unfold nh
  rw [List.pairwise_map]
  refine (List.Pairwise.filter _ h).imp_of_mem fun {a b} ha hb hab he => hab ⟨?_, he⟩
  have h1 := (List.mem_filter.1 ha).2
  have h2 := (List.mem_filter.1 hb).2
  simp only [isE, decide_eq_true_eq] at h1 h2
  rw [h1, h2]
 intro x hx y hy he
 have hnd : ((nh es t).map Spn.id).Nodup := by
  rw [List.nodup_iff_pairwise_ne, List.pairwise_map]
  exact hp
 exact yw hnd hx hy he
structure wo (es : List EnS) : Prop where
 rng : ∀ e ∈ es, e.1.rng ∧ ly e.2 = 0 ∧ wt e.2
theorem afv {b : Bal} (hb : b.rng) : ∀ {l : List Spn} {es : List EnS}, (∀ s ∈ l, ly s = 0 ∧ wt s) → wo es → wo (l.foldl (na b) es)
 | [], _, _, h => h
 | x :: r, es, hl, h => afv hb (l := r) (fun s hs => hl s (List.mem_cons_of_mem _ hs)) (by
   unfold na
   split
   ·exact h
   ·refine ⟨fun e he => ?_⟩
    rcases List.mem_append.1 he with he | he
    ·exact h.rng e he
    ·rw [List.mem_singleton.1 he]
     exact ⟨hb, hl x (by simp)⟩)
theorem acx {ms : List WrM} (h : ∀ m ∈ ms, okM m) : wo (jk ms) := by
 have g : ∀ (ms : List WrM) (es : List EnS), (∀ m ∈ ms, okM m) → wo es → wo (ms.foldl afw es) := by
  intro ms
  induction ms with
  | nil => exact fun _ _ h => h
  | cons m r ih => exact fun es hm h => ih _ (fun x hx => hm x (List.mem_cons_of_mem _ hx)) (afv (hm m (by simp)).b (hm m (by simp)).ok h)
 exact g ms [] h ⟨fun e he => by simp at he⟩
theorem adt {ms : List WrM} (h : ∀ m ∈ ms, okM m) : (jk ms).length ≤ 16 * ms.length := by
 have f : ∀ (b : Bal) (l : List Spn) (es : List EnS), (l.foldl (na b) es).length ≤ es.length + l.length := by
  intro b l
  induction l with
  | nil => simp
  | cons x r ih =>
   intro es
   rw [List.foldl_cons]
   have h1 := ih (na b es x)
   have h2 : (na b es x).length ≤ es.length + 1 := by unfold na; split <;> simp
   simp only [List.length_cons]; omega
 have g : ∀ (ms : List WrM) (es : List EnS), (∀ m ∈ ms, okM m) → (ms.foldl afw es).length ≤ es.length + 16 * ms.length := by
  intro ms
  induction ms with
  | nil => simp
  | cons m r ih =>
   intro es hm
   rw [List.foldl_cons]
   have h1 := ih (afw es m) fun x hx => hm x (List.mem_cons_of_mem _ hx)
   have h2 := f m.1 m.2 es
   have h3 := (hm m (by simp)).len
   unfold afw at h1 ⊢
   simp only [List.length_cons]; omega
 have := g ms [] h
 rw [List.length_nil, Nat.zero_add] at this
 exact this
end Go.Proofs.YtfnhoaemapheoaaGreat
