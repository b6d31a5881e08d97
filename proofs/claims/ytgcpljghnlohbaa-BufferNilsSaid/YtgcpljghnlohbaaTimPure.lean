/-
  Plain facts on binary heaps of items, told as functions from places. No condition.
-/
namespace Go.Eng

/-- An item: its block, its key, when it is due. -/
structure It where
  p : Nat
  k : Int
  a : Int
  deriving DecidableEq
def lessI (x y : It) : Bool := decide (x.a < y.a) || (decide (x.a = y.a) && decide (x.k < y.k))
def le (x y : It) : Prop := x.a < y.a ∨ (x.a = y.a ∧ x.k ≤ y.k)
theorem lessI_iff (x y : It) : lessI x y = true ↔ ¬ le y x := by
  simp only [lessI, le, Bool.or_eq_true, Bool.and_eq_true, decide_eq_true_eq]; omega
theorem lessI_false (x y : It) : lessI x y = false ↔ le y x := by
  rw [← Bool.not_eq_true, lessI_iff]; unfold le; omega
theorem le_trans {x y z : It} (h : le x y) (h' : le y z) : le x z := by unfold le at *; omega
theorem le_refl (x : It) : le x x := by unfold le; omega
theorem le_of_not {x y : It} (h : ¬ le x y) : le y x := by unfold le at *; omega

def par (c : Nat) : Nat := (c - 1) / 2
theorem par_lt {c : Nat} (h : 0 < c) : par c < c := by unfold par; omega
def sw (A : Nat → It) (i j : Nat) : Nat → It := fun c => if c = j then A i else if c = i then A j else A c

def HeapN (A : Nat → It) (n : Nat) : Prop := ∀ c, 0 < c → c < n → le (A (par c)) (A c)
structure UpInv (A : Nat → It) (n j : Nat) : Prop where
  ok : ∀ c, 0 < c → c < n → c ≠ j → le (A (par c)) (A c)
  up : ∀ c, 0 < c → c < n → par c = j → 0 < j → le (A (par j)) (A c)
structure DInv (A : Nat → It) (n i0 k : Nat) : Prop where
  ok : ∀ c, 0 < c → c < n → par c ≠ k → (c = i0 ∧ k = i0) ∨ le (A (par c)) (A c)
  up : ∀ c, 0 < c → c < n → par c = k → 0 < k → le (A (par k)) (A c)

theorem up_step {A : Nat → It} {n j : Nat} (h : UpInv A n j) (hj : 0 < j) (hjn : j < n) (hl : ¬ le (A (par j)) (A j)) : UpInv (sw A (par j) j) n (par j) := by
  have hp := par_lt hj
  have hle := le_of_not hl
  refine ⟨fun c h0 hc hne => ?_, fun c h0 hc hpc hi => ?_⟩
  · have hpc := par_lt h0
    by_cases hcj : c = j
    · subst hcj
      simp only [sw, if_neg (Nat.ne_of_lt hp), if_true]
      exact hle
    · simp only [sw, if_neg hcj, if_neg hne]
      by_cases h1 : par c = j
      · rw [if_pos h1]; exact h.up c h0 hc h1 hj
      · rw [if_neg h1]
        by_cases h2 : par c = par j
        · rw [if_pos h2]
          have := h.ok c h0 hc hcj
          rw [h2] at this
          exact le_trans hle this
        · rw [if_neg h2]; exact h.ok c h0 hc hcj
  · have hpp := par_lt hi
    have hok := h.ok (par j) hi (Nat.lt_trans hp hjn) (Nat.ne_of_lt hp)
    have e1 : sw A (par j) j (par (par j)) = A (par (par j)) := by simp only [sw]; rw [if_neg (by omega), if_neg (by omega)]
    rw [e1]
    by_cases hcj : c = j
    · subst hcj; simp only [sw, if_true]; exact hok
    · have hlt := par_lt h0
      simp only [sw, if_neg hcj]
      rw [if_neg (by omega)]
      have := h.ok c h0 hc hcj
      rw [hpc] at this
      exact le_trans hok this
theorem up_done {A : Nat → It} {n j : Nat} (h : UpInv A n j) (hl : j = 0 ∨ le (A (par j)) (A j)) : HeapN A n := by
  intro c h0 hc
  by_cases hcj : c = j
  · subst hcj; exact hl.resolve_left (by omega)
  · exact h.ok c h0 hc hcj

theorem down_step {A : Nat → It} {n i0 k j : Nat} (h : DInv A n i0 k) (h0j : 0 < j) (hjn : j < n) (hp : par j = k) (hi : i0 ≤ k) (hmin : ∀ c, 0 < c → c < n → par c = k → le (A j) (A c)) (hl : ¬ le (A k) (A j)) : DInv (sw A k j) n i0 j := by
  have hkj := par_lt h0j
  rw [hp] at hkj
  have hle := le_of_not hl
  refine ⟨fun c h0 hc hne => .inr ?_, fun c h0 hc hpc _ => ?_⟩
  · have hpc := par_lt h0
    by_cases hcj : c = j
    · subst hcj
      simp only [sw, hp, if_neg (Nat.ne_of_lt hkj), if_true]
      exact hle
    · simp only [sw, if_neg hcj, if_neg hne]
      by_cases h1 : par c = k
      · rw [if_pos h1, if_neg (by omega)]; exact hmin c h0 hc h1
      · rw [if_neg h1]
        by_cases h2 : c = k
        · subst h2; rw [if_pos rfl]; exact h.up j h0j hjn hp h0
        · rw [if_neg h2]
          rcases h.ok c h0 hc h1 with h3 | h3
          · omega
          · exact h3
  · have hlt := par_lt h0
    have e1 : sw A k j (par j) = A j := by simp [sw, hp, Nat.ne_of_lt hkj]
    have e2 : sw A k j c = A c := by simp only [sw]; rw [if_neg (by omega), if_neg (by omega)]
    rw [e1, e2]
    rcases h.ok c h0 hc (by omega) with h3 | h3
    · omega
    · rw [hpc] at h3; exact h3
theorem down_heap {A : Nat → It} {n i0 k : Nat} (h : DInv A n i0 k) (hd : ∀ c, 0 < c → c < n → par c = k → le (A k) (A c)) (hk : i0 < k) : HeapN A n := by
  intro c h0 hc
  by_cases hpc : par c = k
  · have := hd c h0 hc hpc; rw [hpc]; exact this
  · rcases h.ok c h0 hc hpc with h3 | h3
    · omega
    · exact h3
theorem down_up {A : Nat → It} {n i0 : Nat} (h : DInv A n i0 i0) (hd : ∀ c, 0 < c → c < n → par c = i0 → le (A i0) (A c)) : UpInv A n i0 := by
  refine ⟨fun c h0 hc hne => ?_, h.up⟩
  by_cases hpc : par c = i0
  · have := hd c h0 hc hpc; rw [hpc]; exact this
  · rcases h.ok c h0 hc hpc with h3 | h3
    · omega
    · exact h3
theorem broken_set {A B : Nat → It} {n i : Nat} (h : HeapN A n) (hin : i < n) (hB : ∀ c, c ≠ i → B c = A c) : DInv B n i i := by
  refine ⟨fun c h0 hc hpc => ?_, fun c h0 hc hpc hi => ?_⟩
  · by_cases hci : c = i
    · exact .inl ⟨hci, rfl⟩
    · rw [hB c hci, hB _ hpc]; exact .inr (h c h0 hc)
  · have := par_lt h0
    have := par_lt hi
    rw [hB c (by omega), hB _ (by omega)]
    have h1 := h c h0 hc
    rw [hpc] at h1
    exact le_trans (h i hi hin) h1
theorem broken_last {A : Nat → It} {n i : Nat} (h : HeapN A (n + 1)) (hin : i < n) : DInv (sw A i n) n i i := by
  have h' : HeapN A n := fun c h0 hc => h c h0 (by omega)
  refine ⟨fun c h0 hc hpc => ?_, fun c h0 hc hpc hi => ?_⟩
  · have := par_lt h0
    by_cases hci : c = i
    · exact .inl ⟨hci, rfl⟩
    · simp only [sw]
      rw [if_neg (by omega), if_neg hpc, if_neg (by omega), if_neg hci]; exact .inr (h' c h0 hc)
  · have := par_lt h0
    have := par_lt hi
    simp only [sw]
    rw [if_neg (by omega), if_neg (by omega), if_neg (by omega), if_neg (by omega)]
    have h1 := h' c h0 hc
    rw [hpc] at h1
    exact le_trans (h' i hi hin) h1
/-- The first one is due first. -/
theorem heap_min {A : Nat → It} {n : Nat} (h : HeapN A n) : ∀ c, c < n → le (A 0) (A c) := by
  intro c
  induction c using Nat.strongRecOn with
  | _ c ih =>
    intro hc
    by_cases h0 : c = 0
    · subst h0; exact le_refl _
    · have hp := par_lt (c := c) (by omega)
      exact le_trans (ih (par c) hp (by omega)) (h c (by omega) hc)

def At (its : List It) (i : Nat) : It := its.getD i ⟨0, 0, 0⟩
def swapI (its : List It) (i j : Nat) (x y : It) : List It := (its.set i y).set j x
theorem At_some {its : List It} {i : Nat} {x : It} (h : its[i]? = some x) : At its i = x := by simp [At, h]
theorem at_some {its : List It} {i : Nat} (h : i < its.length) : its[i]? = some (At its i) := by simp [At, h]
theorem At_swap {its : List It} {i j : Nat} (hi : i < its.length) (hj : j < its.length) (c : Nat) : At (swapI its i j (At its i) (At its j)) c = sw (At its) i j c := by
  simp only [At, swapI, sw, List.getD_eq_getElem?_getD, List.getElem?_set, List.length_set]
  by_cases h1 : c = j
  · subst h1; simp [hj]
  · rw [if_neg (Ne.symm h1), if_neg h1]
    by_cases h2 : c = i
    · subst h2; simp [hi]
    · rw [if_neg (Ne.symm h2), if_neg h2]
theorem At_swap_fun {its : List It} {i j : Nat} (hi : i < its.length) (hj : j < its.length) : At (swapI its i j (At its i) (At its j)) = sw (At its) i j := funext (At_swap hi hj)
theorem swapI_len (its : List It) (i j : Nat) (x y : It) : (swapI its i j x y).length = its.length := by simp [swapI]
theorem swapI_perm {its : List It} {i j : Nat} (hi : i < its.length) (hj : j < its.length) : (swapI its i j (At its i) (At its j)).Perm its := by
  have e1 : At its i = its[i] := by simp [At, hi]
  have e2 : At its j = its[j] := by simp [At, hj]
  rw [e1, e2]
  exact List.set_set_perm hi hj
end Go.Eng
