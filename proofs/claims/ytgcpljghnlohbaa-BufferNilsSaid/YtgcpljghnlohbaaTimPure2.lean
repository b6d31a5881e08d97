/-
  Plain facts on what a heap of timers has: pairs of a key and a time, each key once. No condition.
-/
import Derived.Test.YtgcpljghnlohbaaTimPure
namespace Go.Eng

abbrev CT := List (Int × Int)
def cdel (c : CT) (k : Int) : CT := c.filter fun p => !decide (p.1 = k)
def cset (c : CT) (k a : Int) : CT := (k, a) :: cdel c k
def cget : CT → Int → Option Int
  | [], _ => none
  | (y, a) :: c, k => if y = k then some a else cget c k
def ckeys (c : CT) : List Int := c.map (·.1)
def leP (p q : Int × Int) : Bool := decide (p.2 < q.2) || (decide (p.2 = q.2) && decide (p.1 ≤ q.1))
def srt (c : CT) : CT := c.mergeSort leP

theorem leP_trans (a b c : Int × Int) : leP a b = true → leP b c = true → leP a c = true := by
  simp only [leP, Bool.or_eq_true, Bool.and_eq_true, decide_eq_true_eq]; omega
theorem leP_total (a b : Int × Int) : (leP a b || leP b a) = true := by
  simp only [leP, Bool.or_eq_true, Bool.and_eq_true, decide_eq_true_eq]; omega
theorem leP_anti {a b : Int × Int} (h : leP a b = true) (h' : leP b a = true) : a = b := by
  simp only [leP, Bool.or_eq_true, Bool.and_eq_true, decide_eq_true_eq] at h h'
  obtain ⟨a1, a2⟩ := a
  obtain ⟨b1, b2⟩ := b
  simp only at h h'
  have e1 : a2 = b2 := by omega
  have e2 : a1 = b1 := by omega
  rw [e1, e2]
theorem srt_perm (c : CT) : (srt c).Perm c := List.mergeSort_perm c leP
theorem srt_pw (c : CT) : (srt c).Pairwise (fun a b => leP a b = true) := List.pairwise_mergeSort leP_trans leP_total c
theorem sorted_eq {l l' : CT} (h : l.Perm l') (h1 : l.Pairwise (fun a b => leP a b = true)) (h2 : l'.Pairwise (fun a b => leP a b = true)) : l = l' :=
  List.Perm.eq_of_pairwise (fun _ _ _ _ ha hb => leP_anti ha hb) h1 h2 h
theorem srt_congr {c c' : CT} (h : c.Perm c') : srt c = srt c' := sorted_eq ((srt_perm c).trans (h.trans (srt_perm c').symm)) (srt_pw c) (srt_pw c')

theorem cget_none_iff (c : CT) (k : Int) : cget c k = none ↔ k ∉ ckeys c := by
  induction c with
  | nil => simp [cget, ckeys]
  | cons p c ih =>
    obtain ⟨y, a⟩ := p
    simp only [cget, ckeys, List.map_cons, List.mem_cons, not_or] at ih ⊢
    by_cases hy : y = k
    · simp [hy]
    · simp [hy, ih, Ne.symm hy]
theorem cget_mem {c : CT} {k a : Int} (h : cget c k = some a) : (k, a) ∈ c := by
  induction c with
  | nil => simp [cget] at h
  | cons p c ih =>
    obtain ⟨y, b⟩ := p
    simp only [cget] at h
    split at h
    · rename_i hy; subst hy; cases h; exact List.mem_cons_self ..
    · exact List.mem_cons_of_mem _ (ih h)
theorem cget_of_mem {c : CT} (hn : (ckeys c).Nodup) {k a : Int} (h : (k, a) ∈ c) : cget c k = some a := by
  induction c with
  | nil => cases h
  | cons p c ih =>
    obtain ⟨y, b⟩ := p
    simp only [ckeys, List.map_cons, List.nodup_cons] at hn
    simp only [cget]
    rcases List.mem_cons.1 h with h | h
    · cases h; simp
    · split
      · rename_i hy; subst hy
        exact absurd (List.mem_map.2 ⟨_, h, rfl⟩) hn.1
      · exact ih hn.2 h
theorem cget_perm {c c' : CT} (hn : (ckeys c).Nodup) (h : c.Perm c') (k : Int) : cget c k = cget c' k := by
  have hn' : (ckeys c').Nodup := ((h.map _).nodup_iff).1 hn
  cases hc : cget c k with
  | none =>
    symm
    rw [cget_none_iff] at hc ⊢
    exact fun hk => hc (((h.map (·.1)).mem_iff).2 hk)
  | some a => exact (cget_of_mem hn' (h.mem_iff.1 (cget_mem hc))).symm
theorem cdel_keys (c : CT) (k : Int) : ckeys (cdel c k) = (ckeys c).filter fun x => !decide (x = k) := by
  unfold ckeys cdel
  rw [List.filter_map]
  rfl
theorem cdel_nodup {c : CT} (h : (ckeys c).Nodup) (k : Int) : (ckeys (cdel c k)).Nodup := by rw [cdel_keys]; exact h.filter _
theorem cdel_not_mem (c : CT) (k : Int) : k ∉ ckeys (cdel c k) := by rw [cdel_keys]; simp
theorem cset_nodup {c : CT} (h : (ckeys c).Nodup) (k a : Int) : (ckeys (cset c k a)).Nodup := by
  unfold cset ckeys
  rw [List.map_cons, List.nodup_cons]
  exact ⟨cdel_not_mem c k, cdel_nodup h k⟩
theorem cget_cdel_ne (c : CT) {k x : Int} (h : x ≠ k) : cget (cdel c k) x = cget c x := by
  induction c with
  | nil => rfl
  | cons p c ih =>
    obtain ⟨y, a⟩ := p
    by_cases hy : y = k
    · subst hy
      simp only [cdel, List.filter_cons, decide_true, Bool.not_true, Bool.false_eq_true, if_false, cget, if_neg (Ne.symm h)]
      exact ih
    · simp only [cdel, List.filter_cons, decide_eq_false hy, Bool.not_false, if_true, cget]
      split
      · rfl
      · exact ih
theorem cget_cdel_same (c : CT) (k : Int) : cget (cdel c k) k = none := (cget_none_iff _ _).2 (cdel_not_mem c k)
theorem cget_cset (c : CT) (k a x : Int) : cget (cset c k a) x = if k = x then some a else cget c x := by
  simp only [cset, cget]
  split
  · rfl
  · rename_i h; exact cget_cdel_ne c (Ne.symm h)
theorem cdel_none {c : CT} {k : Int} (h : k ∉ ckeys c) : cdel c k = c := by
  unfold cdel
  rw [List.filter_eq_self]
  intro p hp
  simp only [Bool.not_eq_true', decide_eq_false_iff_not]
  exact fun he => h (List.mem_map.2 ⟨p, hp, he⟩)
theorem cdel_perm {c c' : CT} (h : c.Perm c') (k : Int) : (cdel c k).Perm (cdel c' k) := h.filter _
theorem cset_perm {c c' : CT} (h : c.Perm c') (k a : Int) : (cset c k a).Perm (cset c' k a) := (cdel_perm h k).cons _
/-- The pair of one key is told anew. -/
theorem set_perm {c : CT} (hn : (ckeys c).Nodup) {i : Nat} {k a b : Int} (hi : c[i]? = some (k, a)) : (c.set i (k, b)).Perm (cset c k b) := by
  induction c generalizing i with
  | nil => simp at hi
  | cons p c ih =>
    simp only [ckeys, List.map_cons, List.nodup_cons] at hn
    cases i with
    | zero =>
      simp at hi
      subst hi
      simp only [List.set_cons_zero, cset]
      have : cdel ((k, a) :: c) k = c := by
        unfold cdel
        rw [List.filter_cons]
        simp only [decide_true, Bool.not_true, Bool.false_eq_true, if_false]
        exact cdel_none hn.1
      rw [this]
    | succ i =>
      have hi' : c[i]? = some (k, a) := by simpa using hi
      have hpk : p.1 ≠ k := fun h => hn.1 (by rw [h]; exact List.mem_map.2 ⟨_, List.mem_of_getElem? hi', rfl⟩)
      simp only [List.set_cons_succ]
      have h1 := (ih hn.2 hi').cons p
      refine h1.trans ?_
      have : cset (p :: c) k b = (k, b) :: p :: cdel c k := by
        unfold cset cdel
        rw [List.filter_cons]
        simp [hpk]
      rw [this]
      exact List.Perm.swap _ _ _
theorem del_perm {c : CT} (hn : (ckeys c).Nodup) {l : CT} {k a : Int} (h : ((k, a) :: l).Perm c) : l.Perm (cdel c k) := by
  have hn' : (ckeys ((k, a) :: l)).Nodup := ((h.map _).nodup_iff).2 hn
  simp only [ckeys, List.map_cons, List.nodup_cons] at hn'
  have h1 := cdel_perm h k
  have : cdel ((k, a) :: l) k = l := by
    unfold cdel
    rw [List.filter_cons]
    simp only [decide_true, Bool.not_true, Bool.false_eq_true, if_false]
    exact cdel_none hn'.1
  rw [this] at h1
  exact h1

theorem map_set_same {α β : Type} {f : α → β} {l : List α} {i : Nat} {t t' : α} (hi : l[i]? = some t) (hf : f t' = f t) : (l.set i t').map f = l.map f := by
  rw [List.map_set]
  refine List.ext_getElem? fun j => ?_
  rw [List.getElem?_set]
  have hil := (List.getElem?_eq_some_iff.1 hi).1
  split
  · rename_i hij; subst hij
    rw [List.length_map, if_pos hil, List.getElem?_map, hi, hf]; rfl
  · rfl
/-- What is due at a time, and what is not. -/
def cdue (c : CT) (now : Int) : List Int := ((srt c).filter fun p => decide (p.2 ≤ now)).map (·.1)
def crest (c : CT) (now : Int) : CT := c.filter fun p => decide (now < p.2)

theorem srt_cons_min {c : CT} {p : Int × Int} {l : CT} (h : (p :: l).Perm c) (hm : ∀ q ∈ l, leP p q = true) : srt c = p :: srt l := by
  refine sorted_eq ((srt_perm c).trans (h.symm.trans ((srt_perm l).symm.cons p))) (srt_pw c) ?_
  refine List.Pairwise.cons (fun q hq => hm q ((srt_perm l).mem_iff.1 hq)) (srt_pw l)
/-- The first one is due: it is told first. -/
theorem cdue_step {c : CT} {p : Int × Int} {l : CT} {now : Int} (h : (p :: l).Perm c) (hm : ∀ q ∈ l, leP p q = true) (hd : p.2 ≤ now) : cdue c now = p.1 :: cdue l now := by
  unfold cdue
  rw [srt_cons_min h hm, List.filter_cons, if_pos (by simpa using hd)]
  rfl
theorem cdue_none {c : CT} {now : Int} (h : ∀ q ∈ c, now < q.2) : cdue c now = [] := by
  unfold cdue
  rw [List.filter_eq_nil_iff.2]
  · rfl
  · intro q hq
    have := h q ((srt_perm c).mem_iff.1 hq)
    simp; omega
theorem crest_step {p : Int × Int} {l c : CT} {now : Int} (h : (p :: l).Perm c) (hd : p.2 ≤ now) : (crest l now).Perm (crest c now) := by
  have := h.filter fun q => decide (now < q.2)
  rw [List.filter_cons, if_neg (by simp; omega)] at this
  exact this
theorem crest_all {c : CT} {now : Int} (h : ∀ q ∈ c, now < q.2) : crest c now = c := by
  unfold crest
  rw [List.filter_eq_self]
  intro q hq; simpa using h q hq
theorem cdue_congr {c c' : CT} (h : c.Perm c') (now : Int) : cdue c now = cdue c' now := by unfold cdue; rw [srt_congr h]
end Go.Eng
