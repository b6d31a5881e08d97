/-
  Plain facts on binary heaps of items, told as functions from places. No condition.
  The heap of timers: the parts of a line, and what its methods do to them. No condition.
  The library's heap over a line: up, down. No condition.
  The library's heap over a line: Push, Pop, Fix, Remove. No condition.
  Plain facts on what a heap of timers has: pairs of a key and a time, each key once. No condition.
  The Heap of timers: Set, Del, At, Len, Next, told over what it has. No condition.
  The Heap of timers: a new one, Set, Del, Pop; and what a nil one says. No condition.
  The Heap of timers: Pop; and what a nil one says. No condition.
  Names of spans: which are right. No condition.
  Spans: what is right, their cells. No condition.
  A buffer of traces: what it is in memory. No condition.
  A buffer of traces: does a trace have a span? No condition.
  A buffer of traces: Put. No condition.
  A buffer of traces: Put, whole. No condition.
-/
import Derived.Test.YtkjhekflgghbdaaFacts
import Derived.Test.YtkjhekflgghbdaaM
import Derived.Test.YtkjhekflgghbdaaZEngSimp
namespace Go.Eng

/-- An item: its block, its key, when it is due. -/
structure It where
  p : Nat
  k : Int
  a : Int
  deriving DecidableEq
def lessI (x y : It) : Bool := decide (x.a < y.a) || (decide (x.a = y.a) && decide (x.k < y.k))
def le (x y : It) : Prop := x.a < y.a ∨ (x.a = y.a ∧ x.k ≤ y.k)
theorem lessI_iff (x y : It) : lessI x y = true ↔ ¬ le y x := by
  simp only [lessI, le, Bool.or_eq_true, Bool.and_eq_true, decide_eq_true_eq]; omega
theorem lessI_false (x y : It) : lessI x y = false ↔ le y x := by
  rw [← Bool.not_eq_true, lessI_iff]; unfold le; omega
theorem le_trans {x y z : It} (h : le x y) (h' : le y z) : le x z := by unfold le at *; omega
theorem le_refl (x : It) : le x x := by unfold le; omega
theorem le_of_not {x y : It} (h : ¬ le x y) : le y x := by unfold le at *; omega

def par (c : Nat) : Nat := (c - 1) / 2
theorem par_lt {c : Nat} (h : 0 < c) : par c < c := by unfold par; omega
def sw (A : Nat → It) (i j : Nat) : Nat → It := fun c => if c = j then A i else if c = i then A j else A c

def HeapN (A : Nat → It) (n : Nat) : Prop := ∀ c, 0 < c → c < n → le (A (par c)) (A c)
structure UpInv (A : Nat → It) (n j : Nat) : Prop where
  ok : ∀ c, 0 < c → c < n → c ≠ j → le (A (par c)) (A c)
  up : ∀ c, 0 < c → c < n → par c = j → 0 < j → le (A (par j)) (A c)
structure DInv (A : Nat → It) (n i0 k : Nat) : Prop where
  ok : ∀ c, 0 < c → c < n → par c ≠ k → (c = i0 ∧ k = i0) ∨ le (A (par c)) (A c)
  up : ∀ c, 0 < c → c < n → par c = k → 0 < k → le (A (par k)) (A c)

theorem up_step {A : Nat → It} {n j : Nat} (h : UpInv A n j) (hj : 0 < j) (hjn : j < n) (hl : ¬ le (A (par j)) (A j)) : UpInv (sw A (par j) j) n (par j) := by
  have hp := par_lt hj
  have hle := le_of_not hl
  refine ⟨fun c h0 hc hne => ?_, fun c h0 hc hpc hi => ?_⟩
  · have hpc := par_lt h0
    by_cases hcj : c = j
    · subst hcj
      simp only [sw, if_neg (Nat.ne_of_lt hp), if_true]
      exact hle
    · simp only [sw, if_neg hcj, if_neg hne]
      by_cases h1 : par c = j
      · rw [if_pos h1]; exact h.up c h0 hc h1 hj
      · rw [if_neg h1]
        by_cases h2 : par c = par j
        · rw [if_pos h2]
          have := h.ok c h0 hc hcj
          rw [h2] at this
          exact le_trans hle this
        · rw [if_neg h2]; exact h.ok c h0 hc hcj
  · have hpp := par_lt hi
    have hok := h.ok (par j) hi (Nat.lt_trans hp hjn) (Nat.ne_of_lt hp)
    have e1 : sw A (par j) j (par (par j)) = A (par (par j)) := by simp only [sw]; rw [if_neg (by omega), if_neg (by omega)]
    rw [e1]
    by_cases hcj : c = j
    · subst hcj; simp only [sw, if_true]; exact hok
    · have hlt := par_lt h0
      simp only [sw, if_neg hcj]
      rw [if_neg (by omega)]
      have := h.ok c h0 hc hcj
      rw [hpc] at this
      exact le_trans hok this
theorem up_done {A : Nat → It} {n j : Nat} (h : UpInv A n j) (hl : j = 0 ∨ le (A (par j)) (A j)) : HeapN A n := by
  intro c h0 hc
  by_cases hcj : c = j
  · subst hcj; exact hl.resolve_left (by omega)
  · exact h.ok c h0 hc hcj

theorem down_step {A : Nat → It} {n i0 k j : Nat} (h : DInv A n i0 k) (h0j : 0 < j) (hjn : j < n) (hp : par j = k) (hi : i0 ≤ k) (hmin : ∀ c, 0 < c → c < n → par c = k → le (A j) (A c)) (hl : ¬ le (A k) (A j)) : DInv (sw A k j) n i0 j := by
  have hkj := par_lt h0j
  rw [hp] at hkj
  have hle := le_of_not hl
  refine ⟨fun c h0 hc hne => .inr ?_, fun c h0 hc hpc _ => ?_⟩
  · have hpc := par_lt h0
    by_cases hcj : c = j
    · subst hcj
      simp only [sw, hp, if_neg (Nat.ne_of_lt hkj), if_true]
      exact hle
    · simp only [sw, if_neg hcj, if_neg hne]
      by_cases h1 : par c = k
      · rw [if_pos h1, if_neg (by omega)]; exact hmin c h0 hc h1
      · rw [if_neg h1]
        by_cases h2 : c = k
        · subst h2; rw [if_pos rfl]; exact h.up j h0j hjn hp h0
        · rw [if_neg h2]
          rcases h.ok c h0 hc h1 with h3 | h3
          · omega
          · exact h3
  · have hlt := par_lt h0
    have e1 : sw A k j (par j) = A j := by simp [sw, hp, Nat.ne_of_lt hkj]
    have e2 : sw A k j c = A c := by simp only [sw]; rw [if_neg (by omega), if_neg (by omega)]
    rw [e1, e2]
    rcases h.ok c h0 hc (by omega) with h3 | h3
    · omega
    · rw [hpc] at h3; exact h3
theorem down_heap {A : Nat → It} {n i0 k : Nat} (h : DInv A n i0 k) (hd : ∀ c, 0 < c → c < n → par c = k → le (A k) (A c)) (hk : i0 < k) : HeapN A n := by
  intro c h0 hc
  by_cases hpc : par c = k
  · have := hd c h0 hc hpc; rw [hpc]; exact this
  · rcases h.ok c h0 hc hpc with h3 | h3
    · omega
    · exact h3
theorem down_up {A : Nat → It} {n i0 : Nat} (h : DInv A n i0 i0) (hd : ∀ c, 0 < c → c < n → par c = i0 → le (A i0) (A c)) : UpInv A n i0 := by
  refine ⟨fun c h0 hc hne => ?_, h.up⟩
  by_cases hpc : par c = i0
  · have := hd c h0 hc hpc; rw [hpc]; exact this
  · rcases h.ok c h0 hc hpc with h3 | h3
    · omega
    · exact h3
theorem broken_set {A B : Nat → It} {n i : Nat} (h : HeapN A n) (hin : i < n) (hB : ∀ c, c ≠ i → B c = A c) : DInv B n i i := by
  refine ⟨fun c h0 hc hpc => ?_, fun c h0 hc hpc hi => ?_⟩
  · by_cases hci : c = i
    · exact .inl ⟨hci, rfl⟩
    · rw [hB c hci, hB _ hpc]; exact .inr (h c h0 hc)
  · have := par_lt h0
    have := par_lt hi
    rw [hB c (by omega), hB _ (by omega)]
    have h1 := h c h0 hc
    rw [hpc] at h1
    exact le_trans (h i hi hin) h1
theorem broken_last {A : Nat → It} {n i : Nat} (h : HeapN A (n + 1)) (hin : i < n) : DInv (sw A i n) n i i := by
  have h' : HeapN A n := fun c h0 hc => h c h0 (by omega)
  refine ⟨fun c h0 hc hpc => ?_, fun c h0 hc hpc hi => ?_⟩
  · have := par_lt h0
    by_cases hci : c = i
    · exact .inl ⟨hci, rfl⟩
    · simp only [sw]
      rw [if_neg (by omega), if_neg hpc, if_neg (by omega), if_neg hci]; exact .inr (h' c h0 hc)
  · have := par_lt h0
    have := par_lt hi
    simp only [sw]
    rw [if_neg (by omega), if_neg (by omega), if_neg (by omega), if_neg (by omega)]
    have h1 := h' c h0 hc
    rw [hpc] at h1
    exact le_trans (h' i hi hin) h1
/-- The first one is due first. -/
theorem heap_min {A : Nat → It} {n : Nat} (h : HeapN A n) : ∀ c, c < n → le (A 0) (A c) := by
  intro c
  induction c using Nat.strongRecOn with
  | _ c ih =>
    intro hc
    by_cases h0 : c = 0
    · subst h0; exact le_refl _
    · have hp := par_lt (c := c) (by omega)
      exact le_trans (ih (par c) hp (by omega)) (h c (by omega) hc)

def At (its : List It) (i : Nat) : It := its.getD i ⟨0, 0, 0⟩
def swapI (its : List It) (i j : Nat) (x y : It) : List It := (its.set i y).set j x
theorem At_some {its : List It} {i : Nat} {x : It} (h : its[i]? = some x) : At its i = x := by simp [At, h]
theorem at_some {its : List It} {i : Nat} (h : i < its.length) : its[i]? = some (At its i) := by simp [At, h]
theorem At_swap {its : List It} {i j : Nat} (hi : i < its.length) (hj : j < its.length) (c : Nat) : At (swapI its i j (At its i) (At its j)) c = sw (At its) i j c := by
  simp only [At, swapI, sw, List.getD_eq_getElem?_getD, List.getElem?_set, List.length_set]
  by_cases h1 : c = j
  · subst h1; simp [hj]
  · rw [if_neg (Ne.symm h1), if_neg h1]
    by_cases h2 : c = i
    · subst h2; simp [hi]
    · rw [if_neg (Ne.symm h2), if_neg h2]
theorem At_swap_fun {its : List It} {i j : Nat} (hi : i < its.length) (hj : j < its.length) : At (swapI its i j (At its i) (At its j)) = sw (At its) i j := funext (At_swap hi hj)
theorem swapI_len (its : List It) (i j : Nat) (x y : It) : (swapI its i j x y).length = its.length := by simp [swapI]
theorem swapI_perm {its : List It} {i j : Nat} (hi : i < its.length) (hj : j < its.length) : (swapI its i j (At its i) (At its j)).Perm its := by
  have e1 : At its i = its[i] := by simp [At, hi]
  have e2 : At its j = its[j] := by simp [At, hj]
  rw [e1, e2]
  exact List.set_set_perm hi hj
end Go.Eng
set_option maxRecDepth 100000
namespace Go.Proofs.Ytkjhekflgghbdaa
open Go.Eng


def _root_.Go.Eng.It.ptr (t : It) : Value := .pointer (some ⟨t.p, 0, none⟩)

def itemAt (w : World) (t : It) (i : Nat) : Prop := w.heap[t.p]? = some (.cells #[.int .u64 t.k, .int .u64 t.a, .int .i64 i] T.timers_item (0, 0))

theorem less_ok {w : World} {g n cap i j pi pj : Nat} {x y : It} (hi : i < n) (hj : j < n) (ci : cellOf w g i = some x.ptr) (cj : cellOf w g j = some y.ptr) (hx : itemAt w x pi) (hy : itemAt w y pj) {K : KV}
    (h : K (.bool (lessI x y)) (dr w 1)) : callT P F.timers_line_Less [.slice (some ⟨g, 0, none⟩) n cap, .int .i64 i, .int .i64 j] w K := by
  apply M.timers_line_Less.calls
  unfold M.timers_line_Less
  unfold itemAt at hx hy
  obtain ⟨hx0, hx1, hx2⟩ := cells3 hx
  obtain ⟨hy0, hy1, hy2⟩ := cells3 hy
  have hi' : (i : Int) < n := by omega
  have hj' : (j : Int) < n := by omega
  have e1 : x.ptr = .pointer (some ⟨x.p, 0, none⟩) := rfl
  have e2 : y.ptr = .pointer (some ⟨y.p, 0, none⟩) := rfl
  unfold lessI at h
  clear hx hy
  by_cases h1 : x.a < y.a
  · simp [*] at h ⊢
    exact h
  · by_cases h2 : x.a = y.a
    · simp [*] at h ⊢
      exact h
    · simp [*] at h ⊢
      exact h

/-- The block in which a heap lies: its element's type, and what stands behind the heap's own two cells. -/
class HE where
  e : TypeId
  rest : List Value
  n1 : e ≠ T.p_timers_item
  n2 : e ≠ T.timers_item
variable [HE]
def hbk (v mv : Value) : Obj := .cells (v :: mv :: HE.rest).toArray HE.e (0, 0)
theorem cellsH {w : World} {b : Nat} {x y : Value} (h : w.heap[b]? = some (hbk x y)) : cellOf w b 0 = some x ∧ cellOf w b 1 = some y := ⟨by rw [cellOf_of h]; rfl, by rw [cellOf_of h]; rfl⟩
theorem hbk_set0 {w : World} {b : Nat} {x y v : Value} (h : w.heap[b]? = some (hbk x y)) : (w.setCell ⟨b, 0, none⟩ v).heap[b]? = some (hbk v y) := by
  rw [setCell_at h]; rfl
theorem hbk_set1 {w : World} {b : Nat} {x y v : Value} (h : w.heap[b]? = some (hbk x y)) : (w.setCell ⟨b, 1, none⟩ v).heap[b]? = some (hbk x v) := by
  rw [setCell_at h]; rfl

/-- A line: its slice's value v (with whatever stands beside it in the Heap's block), its items. -/
structure HL (w : World) (hb : Nat) (v mv : Value) (its : List It) : Prop where
  blk : w.heap[hb]? = some (hbk v mv)
  row : w.ownsRow 0 T.p_timers_item 1 v its.length (its.map It.ptr)
  itm : ∀ i t, its[i]? = some t → itemAt w t i

omit [HE] in
theorem itemAt_inj {w : World} {t u : It} {i j : Nat} (h : itemAt w t i) (h' : itemAt w u j) (hp : t.p = u.p) : i = j := by
  unfold itemAt at h h'
  rw [hp, h'] at h
  simp at h
  omega

def fpL (v : Value) (its : List It) (b : Nat) : Prop := v.ownBlock = some b ∨ ∃ t ∈ its, t.p = b

theorem swap_ok {w : World} {hb i j : Nat} {v mv : Value} {its : List It} {x y : It} (H : HL w hb v mv its) (hi : its[i]? = some x) (hj : its[j]? = some y) (hij : i ≠ j) {K : KV}
    (h : ∀ w', HL w' hb v mv (swapI its i j x y) → Fr (fpL v its) w w' → K (.tuple #[]) w') : callT P F.timers_line_Swap [v, .int .i64 i, .int .i64 j] w K := by
  have hil : i < its.length := (List.getElem?_eq_some_iff.1 hi).1
  have hjl : j < its.length := (List.getElem?_eq_some_iff.1 hj).1
  obtain ⟨g, cap, cur, hv, _, hgb, hnc, _, hcs, _⟩ := row_form H.row (by omega)
  have hg : v.ownBlock = some g := by rw [hv]; rfl
  have hx := H.itm i x hi
  have hy := H.itm j y hj
  have hpn : x.p ≠ y.p := fun h => hij (itemAt_inj hx hy h)
  have ci := row_cell H.row hg (i := i) (x := x.ptr) (by simp [hi])
  have cj := row_cell H.row hg (i := j) (x := y.ptr) (by simp [hj])
  have fz := row_frz H.row hg
  have gx : g ≠ x.p := ne_of_elem hgb hx (by first | decide | exact HE.n1 | exact HE.n2 | exact HE.n1.symm | exact HE.n2.symm)
  have gy : g ≠ y.p := ne_of_elem hgb hy (by first | decide | exact HE.n1 | exact HE.n2 | exact HE.n1.symm | exact HE.n2.symm)
  have hbg : hb ≠ g := ne_of_elem H.blk hgb (by first | decide | exact HE.n1 | exact HE.n2 | exact HE.n1.symm | exact HE.n2.symm)
  have hbx : hb ≠ x.p := ne_of_elem H.blk hx (by first | decide | exact HE.n1 | exact HE.n2 | exact HE.n1.symm | exact HE.n2.symm)
  have hby : hb ≠ y.p := ne_of_elem H.blk hy (by first | decide | exact HE.n1 | exact HE.n2 | exact HE.n1.symm | exact HE.n2.symm)
  obtain ⟨hx0, hx1, hx2⟩ := cells3 hx
  obtain ⟨hy0, hy1, hy2⟩ := cells3 hy
  have fx := frzOf_of hx 2
  have fy := frzOf_of hy 2
  have hi' : (i : Int) < its.length := by omega
  have hj' : (j : Int) < its.length := by omega
  have e1 : x.ptr = .pointer (some ⟨x.p, 0, none⟩) := rfl
  have e2 : y.ptr = .pointer (some ⟨y.p, 0, none⟩) := rfl
  have hji : j ≠ i := hij.symm
  apply M.timers_line_Swap.calls
  unfold M.timers_line_Swap
  subst hv
  simp [*, cellOf_setCell, frzOf_setCell]
  apply h
  · have r1 : (dr w 1).ownsRow 0 T.p_timers_item 1 (.slice (some ⟨g, 0, none⟩) its.length cap) its.length (its.map It.ptr) := row_keep H.row fun _ _ => rfl
    have r2 := row_set (row_set r1 (g := g) rfl i y.ptr) (g := g) rfl j x.ptr
    refine ⟨?_, ?_, ?_⟩
    · rw [setCell_ne hbx.symm, setCell_ne hby.symm]
      show (World.setCell _ _ _).heap[hb]? = _
      rw [setCell_ne hbg.symm, setCell_ne hbg.symm]
      exact H.blk
    · have hl : (swapI its i j x y).length = its.length := by simp [swapI]
      have hm : (swapI its i j x y).map It.ptr = (((its.map It.ptr).set i y.ptr).set j x.ptr) := by simp [swapI, List.map_set]
      rw [hl, hm]
      refine row_keep r2 fun g' hg' => ?_
      cases hg'
      rw [setCell_ne gx.symm, setCell_ne gy.symm]
      rfl
    · intro k t hk
      unfold itemAt
      simp only [swapI] at hk
      rw [List.getElem?_set] at hk
      by_cases hkj : j = k
      · subst hkj
        rw [if_pos rfl, if_pos (by simpa using hjl)] at hk
        cases hk
        have : (World.setCell (dr (World.setCell (World.setCell (dr w 1) ⟨g, i, none⟩ (.pointer (some ⟨y.p, 0, none⟩))) ⟨g, j, none⟩ (.pointer (some ⟨x.p, 0, none⟩))) 1) ⟨y.p, 2, none⟩ (.int .i64 i)).heap[x.p]? = some (.cells #[.int .u64 x.k, .int .u64 x.a, .int .i64 (i : Nat)] T.timers_item (0, 0)) := by
          rw [setCell_ne hpn.symm]
          show (World.setCell _ _ _).heap[x.p]? = _
          rw [setCell_ne gx, setCell_ne gx]
          exact hx
        rw [setCell_at this]
        rfl
      · rw [if_neg hkj, List.getElem?_set] at hk
        by_cases hki : i = k
        · subst hki
          rw [if_pos rfl, if_pos hil] at hk
          cases hk
          rw [setCell_ne hpn]
          have : (dr (World.setCell (World.setCell (dr w 1) ⟨g, i, none⟩ (.pointer (some ⟨y.p, 0, none⟩))) ⟨g, j, none⟩ (.pointer (some ⟨x.p, 0, none⟩))) 1).heap[y.p]? = some (.cells #[.int .u64 y.k, .int .u64 y.a, .int .i64 (j : Nat)] T.timers_item (0, 0)) := by
            show (World.setCell _ _ _).heap[y.p]? = _
            rw [setCell_ne gy, setCell_ne gy]
            exact hy
          rw [setCell_at this]
          rfl
        · rw [if_neg hki] at hk
          have ht := H.itm k t hk
          have n1 : x.p ≠ t.p := fun h => hki (itemAt_inj hx ht h)
          have n2 : y.p ≠ t.p := fun h => hkj (itemAt_inj hy ht h)
          have n3 : g ≠ t.p := ne_of_elem hgb ht (by first | decide | exact HE.n1 | exact HE.n2 | exact HE.n1.symm | exact HE.n2.symm)
          rw [setCell_ne n1, setCell_ne n2]
          show (World.setCell _ _ _).heap[t.p]? = _
          rw [setCell_ne n3, setCell_ne n3]
          exact ht
  · have mx : x ∈ its := List.mem_of_getElem? hi
    have my : y ∈ its := List.mem_of_getElem? hj
    exact ((((((Fr.refl _ w).dr 1).setCell (.inl (.inl rfl)) _ _).setCell (.inl (.inl rfl)) _ _).dr 1).setCell (.inl (.inr ⟨y, my, rfl⟩)) _ _).setCell (.inl (.inr ⟨x, mx, rfl⟩)) _ _

/-- (*line).Len, Less, Swap, asked through the interface value. -/
theorem inv_len {w : World} {hb : Nat} {v mv : Value} {its : List It} (H : HL w hb v mv its) (K : KV) (h : K (.int .i64 its.length) w) :
    invokeT P (.iface T.p_timers_line (.pointer (some ⟨hb, 0, none⟩))) "Len" [] w K := by
  obtain ⟨h0, _⟩ := cellsH H.blk
  rw [inv_val (f := F.timers_line_Len) (by simp) h0, M.timers_line_Len.fcall]
  apply M.timers_line_Len.calls
  unfold M.timers_line_Len
  rcases H.row.2 with ⟨rfl, hn⟩ | ⟨g, cap, cur, rfl, _⟩
  · simp [hn] at h ⊢; exact h
  · simp; exact h
theorem inv_less {w : World} {hb i j : Nat} {v mv : Value} {its : List It} {x y : It} (H : HL w hb v mv its) (hi : its[i]? = some x) (hj : its[j]? = some y) (K : KV) (h : K (.bool (lessI x y)) (dr w 1)) :
    invokeT P (.iface T.p_timers_line (.pointer (some ⟨hb, 0, none⟩))) "Less" [.int .i64 i, .int .i64 j] w K := by
  obtain ⟨h0, _⟩ := cellsH H.blk
  have hil : i < its.length := (List.getElem?_eq_some_iff.1 hi).1
  have hjl : j < its.length := (List.getElem?_eq_some_iff.1 hj).1
  rw [inv_val (f := F.timers_line_Less) (by simp) h0, M.timers_line_Less.fcall]
  obtain ⟨g, cap, cur, hv, _, hgb, _⟩ := row_form H.row (by omega)
  have hg : v.ownBlock = some g := by rw [hv]; rfl
  have ci := row_cell H.row hg (i := i) (x := x.ptr) (by simp [hi])
  have cj := row_cell H.row hg (i := j) (x := y.ptr) (by simp [hj])
  rw [hv]
  exact less_ok hil hjl ci cj (H.itm i x hi) (H.itm j y hj) h
theorem inv_swap {w : World} {hb i j : Nat} {v mv : Value} {its : List It} {x y : It} (H : HL w hb v mv its) (hi : its[i]? = some x) (hj : its[j]? = some y) (hij : i ≠ j) (K : KV)
    (h : ∀ w', HL w' hb v mv (swapI its i j x y) → Fr (fpL v its) w w' → K (.tuple #[]) w') :
    invokeT P (.iface T.p_timers_line (.pointer (some ⟨hb, 0, none⟩))) "Swap" [.int .i64 i, .int .i64 j] w K := by
  obtain ⟨h0, _⟩ := cellsH H.blk
  rw [inv_val (f := F.timers_line_Swap) (by simp) h0, M.timers_line_Swap.fcall]
  exact swap_ok H hi hj hij h
theorem HL.dr {w : World} {hb : Nat} {v mv : Value} {its : List It} (H : HL w hb v mv its) (n : Nat) : HL (dr w n) hb v mv its := ⟨H.blk, row_keep H.row fun _ _ => rfl, H.itm⟩
end Go.Proofs.Ytkjhekflgghbdaa
set_option maxRecDepth 100000
namespace Go.Proofs.Ytkjhekflgghbdaa
open Go.Eng
variable [HE]

def lineI (hb : Nat) : Value := .iface T.p_timers_line (.pointer (some ⟨hb, 0, none⟩))

omit [HE] in
/-- What may have turned of a line's memory, the line's block itself aside. -/
theorem fpL_perm {v : Value} {its its' : List It} (h : its'.Perm its) {b : Nat} (hf : fpL v its' b) : fpL v its b := by
  rcases hf with h' | ⟨t, ht, hp⟩
  · exact .inl h'
  · exact .inr ⟨t, h.mem_iff.1 ht, hp⟩

def UpI (w : World) (hb : Nat) (v mv : Value) (its : List It) (n : Nat) : KL := fun x w1 => ∃ j1 its1, x = [gv x 0, .int .i64 (j1 : Nat)] ∧ HL w1 hb v mv its1 ∧ its1.Perm its ∧ its1.length = its.length ∧ j1 < n ∧ UpInv (At its1) n j1 ∧ (∀ c, n ≤ c → At its1 c = At its c) ∧ Fr (fpL v its) w w1
theorem up_ok {w : World} {hb j : Nat} {v mv : Value} {its : List It} (H : HL w hb v mv its) (hj : j < its.length) (hlen : its.length ≤ 140737488355328) {n : Nat} (hn : n ≤ its.length) (hjn : j < n) (hU : UpInv (At its) n j) {K : KV}
    (h : ∀ w' its', HL w' hb v mv its' → its'.Perm its → its'.length = its.length → HeapN (At its') n → (∀ c, n ≤ c → At its' c = At its c) → Fr (fpL v its) w w' → K (.tuple #[]) w') :
    callT P F.heap_up [lineI hb, .int .i64 j] w K := by
  apply M.heap_up.calls
  unfold M.heap_up
  refine ⟨UpI w hb v mv its n, fun x _ => ms x 1, ⟨j, its, rfl, H, List.Perm.refl _, rfl, hjn, hU, fun _ _ => rfl, Fr.refl _ _⟩, ?_⟩
  rintro x w1 ⟨j1, its1, hx, H1, hp1, hl1, hjn1, hU1, hc1, hf1⟩
  rw [hx]
  unfold M.heap_up.j0
  have e1 : IntKind.i64.wrap ((j1 : Int) - 1) = (j1 : Int) - 1 := wrap_id (by omega) (by omega)
  have e2 : IntKind.i64.wrap (((j1 : Int) - 1).tdiv 2) = ((par j1 : Nat) : Int) := by
    unfold par
    by_cases h0 : j1 = 0
    · subst h0; decide
    · have : ((j1 : Int) - 1).tdiv 2 = (((j1 - 1) / 2 : Nat) : Int) := by
        rw [show (j1 : Int) - 1 = ((j1 - 1 : Nat) : Int) from by omega]
        rfl
      rw [this]; exact wrap_id (by omega) (by omega)
  by_cases h0 : j1 = 0
  · have e3 : ((par j1 : Nat) : Int) = (j1 : Int) := by subst h0; rfl
    simp [e1, e2, e3]
    exact h w1 its1 H1 hp1 hl1 (up_done hU1 (.inl h0)) hc1 hf1
  · have hpl := par_lt (c := j1) (by omega)
    have e3 : ¬ ((par j1 : Nat) : Int) = (j1 : Int) := by omega
    have g1 := at_some (its := its1) (i := j1) (by omega)
    have g2 := at_some (its := its1) (i := par j1) (by omega)
    by_cases hl : lessI (At its1 j1) (At its1 (par j1)) = true
    · simp [e1, e2, e3]
      refine inv_less H1 g1 g2 _ ?_
      simp [hl]
      refine inv_swap (H1.dr 1) g2 g1 (by omega) _ fun w2 H2 hf2 => ?_
      have hl' := (lessI_iff _ _).1 hl
      have b1 : par j1 < its1.length := by omega
      have b2 : j1 < its1.length := by omega
      refine ⟨⟨par j1, swapI its1 (par j1) j1 (At its1 (par j1)) (At its1 j1), rfl, H2, (swapI_perm b1 b2).trans hp1, by rw [swapI_len]; exact hl1, by omega, ?_, fun c hc => ?_, ?_⟩, ?_⟩
      · rw [At_swap_fun (by omega) (by omega)]
        exact up_step hU1 (by omega) hjn1 hl'
      · rw [At_swap (by omega) (by omega), ← hc1 c hc]
        simp only [sw]; rw [if_neg (by omega), if_neg (by omega)]
      · exact (hf1.dr 1).trans' hf2 fun b _ hb' => fpL_perm hp1 hb'
      · simp [ms, gv]; omega
    · have hl2 : lessI (At its1 j1) (At its1 (par j1)) = false := by simpa using hl
      simp [e1, e2, e3]
      refine inv_less H1 g1 g2 _ ?_
      simp [hl2]
      exact h _ its1 (H1.dr 1) hp1 hl1 (up_done hU1 (.inr ((lessI_false _ _).1 hl2))) hc1 (hf1.dr 1)

def DnI (w : World) (hb : Nat) (v mv : Value) (its : List It) (n i0 : Nat) : KL := fun x w1 => ∃ k its1, x = [gv x 0, gv x 1, gv x 2, .int .i64 (k : Nat)] ∧ HL w1 hb v mv its1 ∧ its1.Perm its ∧ its1.length = its.length ∧ k < n ∧ i0 ≤ k ∧ DInv (At its1) n i0 k ∧ (∀ c, n ≤ c → At its1 c = At its c) ∧ Fr (fpL v its) w w1

omit [HE] in
/-- The children of a place. -/
theorem par_cases {c k : Nat} (h0 : 0 < c) (h : par c = k) : c = 2 * k + 1 ∨ c = 2 * k + 2 := by unfold par at h; omega

theorem down_ok {w : World} {hb i0 n : Nat} {v mv : Value} {its : List It} (H : HL w hb v mv its) (hlen : its.length ≤ 140737488355328) (hn : n ≤ its.length) (hi : i0 < n) (hD : DInv (At its) n i0 i0) {K : KV}
    (h : ∀ w' its' b, HL w' hb v mv its' → its'.Perm its → its'.length = its.length → (b = true → HeapN (At its') n) → (b = false → UpInv (At its') n i0) → (∀ c, n ≤ c → At its' c = At its c) → Fr (fpL v its) w w' → K (.bool b) w') :
    callT P F.heap_down [lineI hb, .int .i64 i0, .int .i64 n] w K := by
  apply M.heap_down.calls
  unfold M.heap_down
  simp only [joinT_eq]
  refine ⟨DnI w hb v mv its n i0, fun x _ => n - ms x 3, ⟨i0, its, rfl, H, List.Perm.refl _, rfl, hi, Nat.le_refl _, hD, fun _ _ => rfl, Fr.refl _ _⟩, ?_⟩
  rintro x w1 ⟨k, its1, hx, H1, hp1, hl1, hkn, hik, hD1, hc1, hf1⟩
  rw [hx]
  have fin : ∀ (w2 : World) (K' : KV), HL w2 hb v mv its1 → Fr (fpL v its) w w2 → (∀ c, 0 < c → c < n → par c = k → le (At its1 k) (At its1 c)) → K (.bool (decide (i0 < k))) w2 := fun w2 _ H2 hf2 hd => by
    refine h w2 its1 _ H2 hp1 hl1 (fun hb => down_heap hD1 hd (by simpa using hb)) (fun hb => ?_) hc1 hf2
    have : k = i0 := by simp at hb; omega
    subst this
    exact down_up hD1 hd
  unfold M.heap_down.j1
  have e1 : IntKind.i64.wrap (2 * (k : Int)) = 2 * (k : Int) := wrap_id (by omega) (by omega)
  have e2 : IntKind.i64.wrap (2 * (k : Int) + 1) = 2 * (k : Int) + 1 := wrap_id (by omega) (by omega)
  have e3 : IntKind.i64.wrap (2 * (k : Int) + 1 + 1) = 2 * (k : Int) + 2 := by rw [wrap_id (by omega) (by omega)]; omega
  by_cases h1 : (n : Int) ≤ 2 * (k : Int) + 1
  · simp [e1, e2, h1]
    exact fin w1 K H1 hf1 fun c h0 hc hpc => by rcases par_cases h0 hpc with h | h <;> omega
  · have h1' : ¬ (2 * (k : Int) + 1 < 0) := by omega
    simp [e1, e2, h1, h1']
    -- what is done once the lesser child is known
    have go : ∀ (j : Nat) (z : Int) (w2 : World) (y : Value), z = (j : Nat) → j < n → par j = k → 0 < j → (∀ c, 0 < c → c < n → par c = k → le (At its1 j) (At its1 c)) → HL w2 hb v mv its1 → Fr (fpL v its) w w2 →
        M.heap_down.j3 (lineI hb) [y, .int .i64 z] [gv x 0, gv x 1, gv x 2, .int .i64 k]
          (fun x0 w => binT P .gtr T.int (.tmp 45) (.tmp 46) (gv x0 3) (.int .i64 i0) w fun t47 w => K t47 w) (.int .i64 (2 * (k : Int) + 1)) (fun x' w' => DnI w hb v mv its n i0 x' w' ∧ n - ms x' 3 < n - ms [gv x 0, gv x 1, gv x 2, .int .i64 k] 3) w2 K := by
      intro j z w2 y hz hj hpj h0j hmin H2 hf2
      subst hz
      have g1 := at_some (its := its1) (i := j) (by omega)
      have g2 := at_some (its := its1) (i := k) (by omega)
      have hkj : k < j := by rw [← hpj]; exact par_lt h0j
      unfold M.heap_down.j3
      by_cases hl : lessI (At its1 j) (At its1 k) = true
      · simp
        refine inv_less H2 g1 g2 _ ?_
        simp [hl]
        refine inv_swap (H2.dr 1) g2 g1 (by omega) _ fun w3 H3 hf3 => ?_
        have b1 : k < its1.length := by omega
        have b2 : j < its1.length := by omega
        refine ⟨⟨j, swapI its1 k j (At its1 k) (At its1 j), rfl, H3, (swapI_perm b1 b2).trans hp1, by rw [swapI_len]; exact hl1, hj, by omega, ?_, fun c hc => ?_, ?_⟩, ?_⟩
        · rw [At_swap_fun b1 b2]
          exact down_step hD1 h0j hj hpj hik hmin ((lessI_iff _ _).1 hl)
        · rw [At_swap b1 b2, ← hc1 c hc]
          simp only [sw]; rw [if_neg (by omega), if_neg (by omega)]
        · exact (hf2.dr 1).trans' hf3 fun b _ hb' => fpL_perm hp1 hb'
        · simp [ms, gv]; omega
      · have hl2 : lessI (At its1 j) (At its1 k) = false := by simpa using hl
        simp
        refine inv_less H2 g1 g2 _ ?_
        simp [hl2]
        exact fin _ K (H2.dr 1) (hf2.dr 1) fun c h0 hc hpc => le_trans ((lessI_false _ _).1 hl2) (hmin c h0 hc hpc)
    unfold M.heap_down.j2
    have p1 : par (2 * k + 1) = k := by unfold par; omega
    have p2 : par (2 * k + 2) = k := by unfold par; omega
    have z1 : 2 * (k : Int) + 1 = ((2 * k + 1 : Nat) : Int) := by omega
    have z2 : 2 * (k : Int) + 2 = ((2 * k + 2 : Nat) : Int) := by omega
    have q1 := at_some (its := its1) (i := 2 * k + 1) (by omega)
    by_cases h2 : 2 * (k : Int) + 2 < n
    · have q2 := at_some (its := its1) (i := 2 * k + 2) (by omega)
      simp [e3, h2]
      rw [z1, z2]
      refine inv_less H1 q2 q1 _ ?_
      by_cases hl : lessI (At its1 (2 * k + 2)) (At its1 (2 * k + 1)) = true
      · simp [hl]
        have hl' := le_of_not ((lessI_iff _ _).1 hl)
        refine go (2 * k + 2) _ _ _ (by omega) (by omega) p2 (by omega) (fun c h0 hc hpc => ?_) (H1.dr 1) (hf1.dr 1)
        rcases par_cases h0 hpc with rfl | rfl
        · exact hl'
        · exact le_refl _
      · have hl2 : lessI (At its1 (2 * k + 2)) (At its1 (2 * k + 1)) = false := by simpa using hl
        simp [hl2]
        refine go (2 * k + 1) _ _ _ (by omega) (by omega) p1 (by omega) (fun c h0 hc hpc => ?_) (H1.dr 1) (hf1.dr 1)
        rcases par_cases h0 hpc with rfl | rfl
        · exact le_refl _
        · exact (lessI_false _ _).1 hl2
    · simp [e3, h2]
      refine go (2 * k + 1) _ _ _ (by omega) (by omega) p1 (by omega) (fun c h0 hc hpc => ?_) H1 hf1
      rcases par_cases h0 hpc with rfl | rfl
      · exact le_refl _
      · omega
end Go.Proofs.Ytkjhekflgghbdaa
set_option maxRecDepth 100000
namespace Go.Proofs.Ytkjhekflgghbdaa
open Go.Eng
variable [HE]

theorem HL.keep {w w' : World} {hb : Nat} {v mv : Value} {its : List It} {S : Nat → Prop} (H : HL w hb v mv its) (hf : Fr S w w') (h1 : ¬ S hb) (h2 : ∀ b, fpL v its b → ¬ S b) : HL w' hb v mv its := by
  refine ⟨hf.heap H.blk h1, row_keep H.row fun g hg => ?_, fun i t ht => hf.heap (H.itm i t ht) (h2 _ (.inr ⟨t, List.mem_of_getElem? ht, rfl⟩))⟩
  obtain ⟨cap, cur, _, _, hb', _⟩ := row_at H.row hg
  exact hf.keep g (heap_lt hb') (h2 g (.inl hg))
theorem fpL_lt {w : World} {hb : Nat} {v mv : Value} {its : List It} (H : HL w hb v mv its) {b : Nat} (h : fpL v its b) : b < w.heap.size := by
  rcases h with hg | ⟨t, ht, rfl⟩
  · obtain ⟨cap, cur, _, _, hb', _⟩ := row_at H.row hg
    exact heap_lt hb'
  · obtain ⟨i, hi⟩ := List.mem_iff_getElem?.1 ht
    exact heap_lt (H.itm i t hi)

theorem inv_push {w : World} {hb : Nat} {v mv : Value} {its : List It} (H : HL w hb v mv its) (hlen : its.length < 1099511627776) {t : It} {z : Int} (ht : w.heap[t.p]? = some (.cells #[.int .u64 t.k, .int .u64 t.a, .int .i64 z] T.timers_item (0, 0)))
    (hnew : ∀ u ∈ its, u.p ≠ t.p) (K : KV)
    (h : ∀ w' v', HL w' hb v' mv (its ++ [t]) → Fr (fun b => fpL v its b ∨ b = hb ∨ b = t.p) w w' → (∀ b, v'.ownBlock = some b → v.ownBlock = some b ∨ w.heap.size ≤ b) → K (.tuple #[]) w') :
    invokeT P (lineI hb) "Push" [.iface T.p_timers_item t.ptr] w K := by
  unfold lineI
  rw [inv_ptr (P := P) (t := T.p_timers_line) (name := "Push") (f := F.ptimers_line_Push) (by simp), M.ptimers_line_Push.fcall]
  apply M.ptimers_line_Push.calls
  unfold M.ptimers_line_Push
  obtain ⟨h0, h1⟩ := cellsH H.blk
  obtain ⟨t0, t1, t2⟩ := cells3 ht
  have f2 := frzOf_of ht 2
  have fb := frzOf_of H.blk 0
  have hbt : hb ≠ t.p := ne_of_elem H.blk ht (by first | decide | exact HE.n1 | exact HE.n2 | exact HE.n1.symm | exact HE.n2.symm)
  have e1 : t.ptr = .pointer (some ⟨t.p, 0, none⟩) := rfl
  have hlenv : ∀ (w1 : World) (K1 : KV), K1 (.int .i64 its.length) w1 → biT P .len #[T.timers_line] T.int [false] [v] w1 K1 := fun w1 K1 hk => by
    rcases H.row.2 with ⟨rfl, hn⟩ | ⟨g, cap, cur, rfl, _⟩
    · simp [hn] at hk ⊢; exact hk
    · simp; exact hk
  simp [h0, e1]
  refine hlenv _ _ ?_
  simp [h0, t2, f2, cellOf_setCell, hbt.symm]
  -- the new row of one
  generalize hw1 : w.setCell ⟨t.p, 2, none⟩ (.int .i64 its.length) = w1
  have hs1 : w1.heap.size = w.heap.size := by rw [← hw1, setCell_size]
  have hf1 : Fr (fun b => fpL v its b ∨ b = hb ∨ b = t.p) w w1 := by
    rw [← hw1]; exact (Fr.refl _ w).setCell (.inl (.inr (.inr rfl))) _ _
  have hrow1 : w1.ownsRow 0 T.p_timers_item 1 v its.length (its.map It.ptr) := row_keep H.row fun g hg => by
    obtain ⟨cap, cur, _, _, hb', _⟩ := row_at H.row hg
    rw [← hw1, setCell_ne]
    exact (ne_of_elem hb' ht (by first | decide | exact HE.n1 | exact HE.n2 | exact HE.n1.symm | exact HE.n2.symm)).symm
  have hrow2 := hrow1.alloc (.cells #[.pointer (some ⟨t.p, 0, none⟩)] T.p_timers_item)
  refine app_own (P := P) et.timers_line hrow2 (b := w.heap.size) (o := 0) (m := 1) (c := 1) (news := [t.ptr]) rfl ?_ ?_ (by omega) (by omega) (Nat.zero_le _) _ _ ?_
  · intro j u hj
    have : j = 0 ∧ u = t.ptr := by
      cases j with
      | zero => simp at hj; exact ⟨rfl, hj.symm⟩
      | succ j => simp at hj
    obtain ⟨rfl, rfl⟩ := this
    rw [Nat.zero_add, cellOf_new hs1.symm]; rfl
  · intro u hu; simp at hu; subst hu; rfl
  · intro v' w2 hrow3 hgr _ hwhere
    have hf2 : Fr (fun b => fpL v its b ∨ b = hb ∨ b = t.p) w w2 := (hf1.alloc _).trans' (Fr.grown hgr) fun b _ h => .inl (.inl h)
    have hbg : ∀ g, v.ownBlock = some g → g ≠ hb := fun g hg => by
      obtain ⟨cap, cur, _, _, hb', _⟩ := row_at H.row hg
      exact ne_of_elem hb' H.blk (by first | decide | exact HE.n1 | exact HE.n2 | exact HE.n1.symm | exact HE.n2.symm)
    have hblt := heap_lt H.blk
    have hblk1 : (w1.alloc (.cells #[.pointer (some ⟨t.p, 0, none⟩)] T.p_timers_item)).heap[hb]? = some (hbk v mv) := by
      rw [alloc_heap, if_neg (by omega), ← hw1, setCell_ne hbt.symm]; exact H.blk
    have hblk2 : w2.heap[hb]? = some (hbk v mv) := by
      rw [hgr.block hb (by rw [alloc_size]; omega) (fun he => hbg hb he.symm rfl)]; exact hblk1
    have c0 : (cellOf w2 hb 0).isSome = true := by rw [cellOf_of hblk2]; rfl
    have ff : frzOf w2 hb 0 = false := frzOf_of hblk2 0
    have hv' : v' = .slice none 0 0 ∨ ∃ g c, v' = .slice (some ⟨g, 0, none⟩) (its.length + 1) c := by
      rcases hrow3.2 with ⟨h, _⟩ | ⟨g, c, _, h, _⟩
      · exact .inl h
      · exact .inr ⟨g, c, h⟩
    have hst : ∀ K1 : KV, K1 undef (w2.setCell ⟨hb, 0, none⟩ v') → stT P T.timers_line (.pointer (some ⟨hb, 0, none⟩)) v' w2 K1 := fun K1 hk => by
      rcases hv' with rfl | ⟨g, c, rfl⟩ <;> simp [c0, ff] <;> exact hk
    refine hst _ (h _ v' ⟨?_, ?_, ?_⟩ (hf2.setCell (.inl (.inr (.inl rfl))) _ _) ?_)
    · exact hbk_set0 hblk2
    · have hr : (its ++ [t]).map It.ptr = its.map It.ptr ++ [t.ptr] := by simp
      rw [hr, List.length_append]
      refine row_keep hrow3 fun g hg => ?_
      obtain ⟨cap, cur, _, _, hb', _⟩ := row_at hrow3 hg
      rw [setCell_ne]
      exact (ne_of_elem hb' hblk2 (by first | decide | exact HE.n1 | exact HE.n2 | exact HE.n1.symm | exact HE.n2.symm)).symm
    · -- the items
      have keep : ∀ p o, w1.heap[p]? = some o → v.ownBlock ≠ some p → p ≠ hb → (w2.setCell ⟨hb, 0, none⟩ v').heap[p]? = some o := fun p o hp hg hph => by
        have hlt := heap_lt hp
        rw [setCell_ne hph.symm, hgr.block p (by rw [alloc_size]; omega) (fun he => hg he.symm), alloc_heap, if_neg (by omega)]
        exact hp
      intro i u hu
      rw [List.getElem?_append] at hu
      split at hu
      · have hu' := H.itm i u hu
        have hne : t.p ≠ u.p := fun h => hnew u (List.mem_of_getElem? hu) h.symm
        refine keep _ _ (by rw [← hw1, setCell_ne hne]; exact hu') (fun hg => ?_) (fun h => ?_)
        · obtain ⟨cap, cur, _, _, hb', _⟩ := row_at H.row hg
          exact ne_of_elem hb' hu' (by first | decide | exact HE.n1 | exact HE.n2 | exact HE.n1.symm | exact HE.n2.symm) rfl
        · unfold itemAt at hu'; rw [h] at hu'; exact ne_of_elem H.blk hu' (by first | decide | exact HE.n1 | exact HE.n2 | exact HE.n1.symm | exact HE.n2.symm) rfl
      · rename_i hlt
        have hi : i = its.length ∧ u = t := by
          cases hd : i - its.length with
          | zero => rw [hd] at hu; simp at hu; exact ⟨by omega, hu.symm⟩
          | succ n => rw [hd] at hu; simp at hu
        obtain ⟨rfl, rfl⟩ := hi
        refine keep _ _ (by rw [← hw1, setCell_at ht]; rfl) (fun hg => ?_) hbt.symm
        obtain ⟨cap, cur, _, _, hb', _⟩ := row_at H.row hg
        exact ne_of_elem hb' ht (by first | decide | exact HE.n1 | exact HE.n2 | exact HE.n1.symm | exact HE.n2.symm) rfl
    · intro b hb'
      rcases hwhere with h | ⟨g, h, hge⟩
      · exact .inl (h ▸ hb')
      · rw [hb'] at h; cases h
        rw [alloc_size] at hge; exact .inr (by omega)

theorem inv_pop {w : World} {hb n : Nat} {v mv : Value} {its : List It} (H : HL w hb v mv its) (hlen : its.length < 1099511627776) (hn : its.length = n + 1) (K : KV)
    (h : ∀ w' v', HL w' hb v' mv (its.take n) → Fr (fun b => b = hb) w w' → v'.ownBlock = v.ownBlock → K (.iface T.p_timers_item (At its n).ptr) w') :
    invokeT P (lineI hb) "Pop" [] w K := by
  unfold lineI
  rw [inv_ptr (P := P) (t := T.p_timers_line) (name := "Pop") (f := F.ptimers_line_Pop) (by simp), M.ptimers_line_Pop.fcall]
  apply M.ptimers_line_Pop.calls
  unfold M.ptimers_line_Pop
  obtain ⟨h0, h1⟩ := cellsH H.blk
  have fb := frzOf_of H.blk 0
  obtain ⟨g, cap, cur, hv, _, hgb, hnc, _, _, _⟩ := row_form H.row (by omega)
  have cn := row_cell H.row (g := g) (by rw [hv]; rfl) (i := n) (x := (At its n).ptr) (by rw [List.getElem?_map, at_some (by omega)]; rfl)
  have hw : IntKind.i64.wrap ((its.length : Int) - 1) = (n : Int) := by rw [wrap_id (by omega) (by omega)]; omega
  have l1 : (n : Int) < its.length := by omega
  have l2 : (n : Int) ≤ cap := by omega
  have hbg : hb ≠ g := (ne_of_elem hgb H.blk (by first | decide | exact HE.n1 | exact HE.n2 | exact HE.n1.symm | exact HE.n2.symm)).symm
  have hnl : n < its.length := by omega
  have hnc' : n ≤ cap := by omega
  subst hv
  simp [h0, hw, hnl, hnc', cn, fb]
  refine h _ (.slice (some ⟨g, 0, none⟩) n cap) ⟨?_, ?_, ?_⟩ ((Fr.refl (fun b => b = hb) w).setCell (.inl rfl) _ _) rfl
  · rw [setCell_at H.blk]; rfl
  · have hl : (its.take n).length = n := by rw [List.length_take]; omega
    rw [hl, List.map_take]
    have := row_take (m := n) (row_keep (w' := w.setCell ⟨hb, 0, none⟩ (.slice (some ⟨g, 0, none⟩) n cap)) H.row fun g' hg' => by cases hg'; rw [setCell_ne hbg]) (by omega)
    simpa using this
  · intro i u hu
    rw [List.getElem?_take] at hu
    split at hu
    · have hu' := H.itm i u hu
      unfold itemAt at hu' ⊢
      rw [setCell_ne (ne_of_elem H.blk hu' (by first | decide | exact HE.n1 | exact HE.n2 | exact HE.n1.symm | exact HE.n2.symm))]
      exact hu'
    · cases hu

/-- Of what may have turned when a heap was put in order: its line's own blocks. -/
theorem fix_ok {w : World} {hb i : Nat} {v mv : Value} {its : List It} (H : HL w hb v mv its) (hlen : its.length < 1099511627776) (hi : i < its.length) (hD : DInv (At its) its.length i i) {K : KV}
    (h : ∀ w' its', HL w' hb v mv its' → its'.Perm its → HeapN (At its') its'.length → Fr (fpL v its) w w' → K (.tuple #[]) w') : callT P F.heap_Fix [lineI hb, .int .i64 i] w K := by
  apply M.heap_Fix.calls
  unfold M.heap_Fix
  refine inv_len H _ ?_
  rw [M.heap_down.fcall]
  refine down_ok H (by omega) (Nat.le_refl _) hi hD fun w1 its1 b H1 hp1 hl1 ht hf _ hf1 => ?_
  cases b with
  | true =>
    simp
    exact h w1 its1 H1 hp1 (by rw [hl1]; exact ht rfl) hf1
  | false =>
    simp
    rw [M.heap_up.fcall]
    refine up_ok H1 (by omega) (by omega) (Nat.le_of_eq hl1.symm) hi (hf rfl) fun w2 its2 H2 hp2 hl2 hh _ hf2 => ?_
    exact h w2 its2 H2 (hp2.trans hp1) (by rw [hl2, hl1]; exact hh) (hf1.trans' hf2 fun b _ hb' => fpL_perm hp1 hb')

theorem push_ok {w : World} {hb : Nat} {v mv : Value} {its : List It} (H : HL w hb v mv its) (hlen : its.length < 1099511627776) (hh : HeapN (At its) its.length) {t : It} {z : Int} (ht : w.heap[t.p]? = some (.cells #[.int .u64 t.k, .int .u64 t.a, .int .i64 z] T.timers_item (0, 0)))
    (hnew : ∀ u ∈ its, u.p ≠ t.p) {K : KV}
    (h : ∀ w' v' its', HL w' hb v' mv its' → its'.Perm (its ++ [t]) → HeapN (At its') its'.length → Fr (fun b => fpL v its b ∨ b = hb ∨ b = t.p) w w' → (∀ b, v'.ownBlock = some b → v.ownBlock = some b ∨ w.heap.size ≤ b) → K (.tuple #[]) w') :
    callT P F.heap_Push [lineI hb, .iface T.p_timers_item t.ptr] w K := by
  apply M.heap_Push.calls
  unfold M.heap_Push
  refine inv_push H hlen ht hnew _ fun w1 v1 H1 hf1 hv1 => ?_
  refine inv_len H1 _ ?_
  have hw : IntKind.i64.wrap ((((its ++ [t]).length : Nat) : Int) - 1) = ((its.length : Nat) : Int) := by rw [wrap_id (by simp <;> omega) (by simp <;> omega)]; simp
  rw [bin_sub, hw, M.heap_up.fcall]
  have hl : (its ++ [t]).length = its.length + 1 := by simp
  refine up_ok H1 (by omega) (by omega) (Nat.le_refl _) (by omega) ⟨fun c h0 hc hne => ?_, fun c h0 hc hpc _ => ?_⟩ fun w2 its2 H2 hp2 hl2 hh2 _ hf2 => ?_
  · have hc' : c < its.length := by omega
    have hp := par_lt h0
    have e1 : At (its ++ [t]) c = At its c := by simp [At, List.getElem?_append, hc']
    have e2 : At (its ++ [t]) (par c) = At its (par c) := by simp [At, List.getElem?_append, show par c < its.length from by omega]
    rw [e1, e2]; exact hh c h0 hc'
  · have := par_lt h0; omega
  · refine h w2 v1 its2 H2 hp2 (by rw [hl2]; exact hh2) (hf1.trans' hf2 fun b hlt hb' => ?_) hv1
    rcases fpL_perm (List.Perm.refl _) hb' with hg | ⟨u, hu, hp⟩
    · rcases hv1 b hg with hg | hg
      · exact .inl (.inl hg)
      · omega
    · rcases List.mem_append.1 hu with hu | hu
      · exact .inl (.inr ⟨u, hu, hp⟩)
      · rw [List.mem_singleton] at hu; subst hu; exact .inr (.inr hp.symm)

theorem remove_ok {w : World} {hb i : Nat} {v mv : Value} {its : List It} (H : HL w hb v mv its) (hlen : its.length < 1099511627776) (hi : i < its.length) (hh : HeapN (At its) its.length) {K : KV}
    (h : ∀ w' v' its', HL w' hb v' mv its' → (At its i :: its').Perm its → HeapN (At its') its'.length → Fr (fun b => fpL v its b ∨ b = hb) w w' → v'.ownBlock = v.ownBlock → K (.iface T.p_timers_item (At its i).ptr) w') :
    callT P F.heap_Remove [lineI hb, .int .i64 i] w K := by
  apply M.heap_Remove.calls
  unfold M.heap_Remove
  refine inv_len H _ ?_
  obtain ⟨n, hn⟩ : ∃ n, its.length = n + 1 := ⟨its.length - 1, by omega⟩
  have hw : IntKind.i64.wrap (((its.length : Nat) : Int) - 1) = ((n : Nat) : Int) := by rw [wrap_id (by omega) (by omega)]; omega
  -- the end: the last one is taken
  have fin : ∀ (w1 : World) (its1 : List It), HL w1 hb v mv its1 → its1.Perm its → At its1 n = At its i → HeapN (At its1) n → Fr (fpL v its) w w1 → invokeT P (lineI hb) "Pop" [] w1 K := fun w1 its1 H1 hp1 hlast hh1 hf1 => by
    have hl1 := hp1.length_eq
    refine inv_pop H1 (n := n) (by omega) (by omega) _ fun w2 v2 H2 hf2 hv2 => ?_
    rw [hlast]
    have hlt : (its1.take n).length = n := by rw [List.length_take]; omega
    have ht : its1 = its1.take n ++ [At its1 n] := by
      have h1 : its1.take (n + 1) = its1.take n ++ [its1[n]'(by omega)] := by rw [List.take_succ_eq_append_getElem (by omega)]
      rw [List.take_of_length_le (by omega)] at h1
      have h2 : At its1 n = its1[n]'(by omega) := by simp [At, show n < its1.length from by omega]
      rw [h2]; exact h1
    refine h w2 v2 _ H2 ?_ ?_ ((hf1.mono fun _ _ h => .inl h).trans' hf2 fun b _ hb' => .inr hb') hv2
    · rw [← hlast]
      have : (At its1 n :: its1.take n).Perm (its1.take n ++ [At its1 n]) := (List.perm_append_comm (l₁ := [At its1 n]) (l₂ := its1.take n))
      rw [← ht] at this
      exact this.trans hp1
    · rw [hlt]
      intro c h0 hc
      have hp := par_lt h0
      have e1 : At (its1.take n) c = At its1 c := by simp [At, hc]
      have e2 : At (its1.take n) (par c) = At its1 (par c) := by simp [At, show par c < n from by omega]
      rw [e1, e2]; exact hh1 c h0 hc
  by_cases hin : i = n
  · subst hin
    simp [hw]
    exact fin w its H (List.Perm.refl _) rfl (fun c h0 hc => hh c h0 (by omega)) (Fr.refl _ _)
  · have hne : ¬ ((n : Int) = (i : Int)) := by omega
    have b1 : i < its.length := hi
    have b2 : n < its.length := by omega
    simp [hw, hne]
    refine inv_swap H (at_some b1) (at_some b2) hin _ fun w1 H1 hf1 => ?_
    have hs : At (swapI its i n (At its i) (At its n)) = sw (At its) i n := At_swap_fun b1 b2
    have hl1 := swapI_len its i n (At its i) (At its n)
    have hp1 := swapI_perm b1 b2
    rw [M.heap_down.fcall]
    refine down_ok H1 (by omega) (by omega) (by omega) (by rw [hs]; exact broken_last (by rw [← hn]; exact hh) (by omega)) fun w2 its2 b H2 hp2 hl2 ht hf hc2 hf2 => ?_
    have hf12 : Fr (fpL v its) w w2 := hf1.trans' hf2 fun b _ hb' => fpL_perm hp1 hb'
    have hlast2 : At its2 n = At its i := by rw [hc2 n (Nat.le_refl _), hs]; simp [sw]
    cases b with
    | true =>
      simp
      exact fin w2 its2 H2 (hp2.trans hp1) hlast2 (ht rfl) hf12
    | false =>
      simp
      rw [M.heap_up.fcall]
      refine up_ok H2 (by omega) (by omega) (n := n) (by omega) (by omega) (hf rfl) fun w3 its3 H3 hp3 hl3 hh3 hc3 hf3 => ?_
      exact fin w3 its3 H3 (hp3.trans (hp2.trans hp1)) (by rw [hc3 n (Nat.le_refl _)]; exact hlast2) hh3 (hf12.trans' hf3 fun b _ hb' => fpL_perm (hp2.trans hp1) hb')
end Go.Proofs.Ytkjhekflgghbdaa
namespace Go.Eng

abbrev CT := List (Int × Int)
def cdel (c : CT) (k : Int) : CT := c.filter fun p => !decide (p.1 = k)
def cset (c : CT) (k a : Int) : CT := (k, a) :: cdel c k
def cget : CT → Int → Option Int
  | [], _ => none
  | (y, a) :: c, k => if y = k then some a else cget c k
def ckeys (c : CT) : List Int := c.map (·.1)
def leP (p q : Int × Int) : Bool := decide (p.2 < q.2) || (decide (p.2 = q.2) && decide (p.1 ≤ q.1))
def srt (c : CT) : CT := c.mergeSort leP

theorem leP_trans (a b c : Int × Int) : leP a b = true → leP b c = true → leP a c = true := by
  simp only [leP, Bool.or_eq_true, Bool.and_eq_true, decide_eq_true_eq]; omega
theorem leP_total (a b : Int × Int) : (leP a b || leP b a) = true := by
  simp only [leP, Bool.or_eq_true, Bool.and_eq_true, decide_eq_true_eq]; omega
theorem leP_anti {a b : Int × Int} (h : leP a b = true) (h' : leP b a = true) : a = b := by
  simp only [leP, Bool.or_eq_true, Bool.and_eq_true, decide_eq_true_eq] at h h'
  obtain ⟨a1, a2⟩ := a
  obtain ⟨b1, b2⟩ := b
  simp only at h h'
  have e1 : a2 = b2 := by omega
  have e2 : a1 = b1 := by omega
  rw [e1, e2]
theorem srt_perm (c : CT) : (srt c).Perm c := List.mergeSort_perm c leP
theorem srt_pw (c : CT) : (srt c).Pairwise (fun a b => leP a b = true) := List.pairwise_mergeSort leP_trans leP_total c
theorem sorted_eq {l l' : CT} (h : l.Perm l') (h1 : l.Pairwise (fun a b => leP a b = true)) (h2 : l'.Pairwise (fun a b => leP a b = true)) : l = l' :=
  List.Perm.eq_of_pairwise (fun _ _ _ _ ha hb => leP_anti ha hb) h1 h2 h
theorem srt_congr {c c' : CT} (h : c.Perm c') : srt c = srt c' := sorted_eq ((srt_perm c).trans (h.trans (srt_perm c').symm)) (srt_pw c) (srt_pw c')

theorem cget_none_iff (c : CT) (k : Int) : cget c k = none ↔ k ∉ ckeys c := by
  induction c with
  | nil => simp [cget, ckeys]
  | cons p c ih =>
    obtain ⟨y, a⟩ := p
    simp only [cget, ckeys, List.map_cons, List.mem_cons, not_or] at ih ⊢
    by_cases hy : y = k
    · simp [hy]
    · simp [hy, ih, Ne.symm hy]
theorem cget_mem {c : CT} {k a : Int} (h : cget c k = some a) : (k, a) ∈ c := by
  induction c with
  | nil => simp [cget] at h
  | cons p c ih =>
    obtain ⟨y, b⟩ := p
    simp only [cget] at h
    split at h
    · rename_i hy; subst hy; cases h; exact List.mem_cons_self ..
    · exact List.mem_cons_of_mem _ (ih h)
theorem cget_of_mem {c : CT} (hn : (ckeys c).Nodup) {k a : Int} (h : (k, a) ∈ c) : cget c k = some a := by
  induction c with
  | nil => cases h
  | cons p c ih =>
    obtain ⟨y, b⟩ := p
    simp only [ckeys, List.map_cons, List.nodup_cons] at hn
    simp only [cget]
    rcases List.mem_cons.1 h with h | h
    · cases h; simp
    · split
      · rename_i hy; subst hy
        exact absurd (List.mem_map.2 ⟨_, h, rfl⟩) hn.1
      · exact ih hn.2 h
theorem cget_perm {c c' : CT} (hn : (ckeys c).Nodup) (h : c.Perm c') (k : Int) : cget c k = cget c' k := by
  have hn' : (ckeys c').Nodup := ((h.map _).nodup_iff).1 hn
  cases hc : cget c k with
  | none =>
    symm
    rw [cget_none_iff] at hc ⊢
    exact fun hk => hc (((h.map (·.1)).mem_iff).2 hk)
  | some a => exact (cget_of_mem hn' (h.mem_iff.1 (cget_mem hc))).symm
theorem cdel_keys (c : CT) (k : Int) : ckeys (cdel c k) = (ckeys c).filter fun x => !decide (x = k) := by
  unfold ckeys cdel
  rw [List.filter_map]
  rfl
theorem cdel_nodup {c : CT} (h : (ckeys c).Nodup) (k : Int) : (ckeys (cdel c k)).Nodup := by rw [cdel_keys]; exact h.filter _
theorem cdel_not_mem (c : CT) (k : Int) : k ∉ ckeys (cdel c k) := by rw [cdel_keys]; simp
theorem cset_nodup {c : CT} (h : (ckeys c).Nodup) (k a : Int) : (ckeys (cset c k a)).Nodup := by
  unfold cset ckeys
  rw [List.map_cons, List.nodup_cons]
  exact ⟨cdel_not_mem c k, cdel_nodup h k⟩
theorem cget_cdel_ne (c : CT) {k x : Int} (h : x ≠ k) : cget (cdel c k) x = cget c x := by
  induction c with
  | nil => rfl
  | cons p c ih =>
    obtain ⟨y, a⟩ := p
    by_cases hy : y = k
    · subst hy
      simp only [cdel, List.filter_cons, decide_true, Bool.not_true, Bool.false_eq_true, if_false, cget, if_neg (Ne.symm h)]
      exact ih
    · simp only [cdel, List.filter_cons, decide_eq_false hy, Bool.not_false, if_true, cget]
      split
      · rfl
      · exact ih
theorem cget_cdel_same (c : CT) (k : Int) : cget (cdel c k) k = none := (cget_none_iff _ _).2 (cdel_not_mem c k)
theorem cget_cset (c : CT) (k a x : Int) : cget (cset c k a) x = if k = x then some a else cget c x := by
  simp only [cset, cget]
  split
  · rfl
  · rename_i h; exact cget_cdel_ne c (Ne.symm h)
theorem cdel_none {c : CT} {k : Int} (h : k ∉ ckeys c) : cdel c k = c := by
  unfold cdel
  rw [List.filter_eq_self]
  intro p hp
  simp only [Bool.not_eq_true', decide_eq_false_iff_not]
  exact fun he => h (List.mem_map.2 ⟨p, hp, he⟩)
theorem cdel_perm {c c' : CT} (h : c.Perm c') (k : Int) : (cdel c k).Perm (cdel c' k) := h.filter _
theorem cset_perm {c c' : CT} (h : c.Perm c') (k a : Int) : (cset c k a).Perm (cset c' k a) := (cdel_perm h k).cons _
/-- The pair of one key is told anew. -/
theorem set_perm {c : CT} (hn : (ckeys c).Nodup) {i : Nat} {k a b : Int} (hi : c[i]? = some (k, a)) : (c.set i (k, b)).Perm (cset c k b) := by
  induction c generalizing i with
  | nil => simp at hi
  | cons p c ih =>
    simp only [ckeys, List.map_cons, List.nodup_cons] at hn
    cases i with
    | zero =>
      simp at hi
      subst hi
      simp only [List.set_cons_zero, cset]
      have : cdel ((k, a) :: c) k = c := by
        unfold cdel
        rw [List.filter_cons]
        simp only [decide_true, Bool.not_true, Bool.false_eq_true, if_false]
        exact cdel_none hn.1
      rw [this]
    | succ i =>
      have hi' : c[i]? = some (k, a) := by simpa using hi
      have hpk : p.1 ≠ k := fun h => hn.1 (by rw [h]; exact List.mem_map.2 ⟨_, List.mem_of_getElem? hi', rfl⟩)
      simp only [List.set_cons_succ]
      have h1 := (ih hn.2 hi').cons p
      refine h1.trans ?_
      have : cset (p :: c) k b = (k, b) :: p :: cdel c k := by
        unfold cset cdel
        rw [List.filter_cons]
        simp [hpk]
      rw [this]
      exact List.Perm.swap _ _ _
theorem del_perm {c : CT} (hn : (ckeys c).Nodup) {l : CT} {k a : Int} (h : ((k, a) :: l).Perm c) : l.Perm (cdel c k) := by
  have hn' : (ckeys ((k, a) :: l)).Nodup := ((h.map _).nodup_iff).2 hn
  simp only [ckeys, List.map_cons, List.nodup_cons] at hn'
  have h1 := cdel_perm h k
  have : cdel ((k, a) :: l) k = l := by
    unfold cdel
    rw [List.filter_cons]
    simp only [decide_true, Bool.not_true, Bool.false_eq_true, if_false]
    exact cdel_none hn'.1
  rw [this] at h1
  exact h1

theorem map_set_same {α β : Type} {f : α → β} {l : List α} {i : Nat} {t t' : α} (hi : l[i]? = some t) (hf : f t' = f t) : (l.set i t').map f = l.map f := by
  rw [List.map_set]
  refine List.ext_getElem? fun j => ?_
  rw [List.getElem?_set]
  have hil := (List.getElem?_eq_some_iff.1 hi).1
  split
  · rename_i hij; subst hij
    rw [List.length_map, if_pos hil, List.getElem?_map, hi, hf]; rfl
  · rfl
/-- What is due at a time, and what is not. -/
def cdue (c : CT) (now : Int) : List Int := ((srt c).filter fun p => decide (p.2 ≤ now)).map (·.1)
def crest (c : CT) (now : Int) : CT := c.filter fun p => decide (now < p.2)

theorem srt_cons_min {c : CT} {p : Int × Int} {l : CT} (h : (p :: l).Perm c) (hm : ∀ q ∈ l, leP p q = true) : srt c = p :: srt l := by
  refine sorted_eq ((srt_perm c).trans (h.symm.trans ((srt_perm l).symm.cons p))) (srt_pw c) ?_
  refine List.Pairwise.cons (fun q hq => hm q ((srt_perm l).mem_iff.1 hq)) (srt_pw l)
/-- The first one is due: it is told first. -/
theorem cdue_step {c : CT} {p : Int × Int} {l : CT} {now : Int} (h : (p :: l).Perm c) (hm : ∀ q ∈ l, leP p q = true) (hd : p.2 ≤ now) : cdue c now = p.1 :: cdue l now := by
  unfold cdue
  rw [srt_cons_min h hm, List.filter_cons, if_pos (by simpa using hd)]
  rfl
theorem cdue_none {c : CT} {now : Int} (h : ∀ q ∈ c, now < q.2) : cdue c now = [] := by
  unfold cdue
  rw [List.filter_eq_nil_iff.2]
  · rfl
  · intro q hq
    have := h q ((srt_perm c).mem_iff.1 hq)
    simp; omega
theorem crest_step {p : Int × Int} {l c : CT} {now : Int} (h : (p :: l).Perm c) (hd : p.2 ≤ now) : (crest l now).Perm (crest c now) := by
  have := h.filter fun q => decide (now < q.2)
  rw [List.filter_cons, if_neg (by simp; omega)] at this
  exact this
theorem crest_all {c : CT} {now : Int} (h : ∀ q ∈ c, now < q.2) : crest c now = c := by
  unfold crest
  rw [List.filter_eq_self]
  intro q hq; simpa using h q hq
theorem cdue_congr {c c' : CT} (h : c.Perm c') (now : Int) : cdue c now = cdue c' now := by unfold cdue; rw [srt_congr h]
end Go.Eng
set_option maxRecDepth 100000
namespace Go.Proofs.Ytkjhekflgghbdaa
open Go.Eng
variable [HE]

def It.pr (t : It) : Int × Int := (t.k, t.a)

/-- The map beside the line. -/
def MapOk (w : World) (mv : Value) (its : List It) : Prop :=
  (mv = .map none ∧ its = []) ∨ ∃ r m, mv = .map (some r) ∧ MapAt w r .u64 m ∧ (mkeys m).Nodup ∧ (∀ t ∈ its, mget m t.k = some t.ptr) ∧ ∀ k, (∀ t ∈ its, t.k ≠ k) → mget m k = none

structure HpI (w : World) (hb : Nat) (v mv : Value) (its : List It) : Prop where
  hl : HL w hb v mv its
  hh : HeapN (At its) its.length
  nd : (its.map (·.k)).Nodup
  mp : MapOk w mv its

def ptrH (hb : Nat) : Value := .pointer (some ⟨hb, 0, none⟩)

/-- A Heap at block hb, whose memory lies in O, that has the pairs c. -/
structure Hp (w : World) (hb : Nat) (O : Nat → Prop) (c : CT) : Prop where
  ex : ∃ v mv its, HpI w hb v mv its ∧ (its.map It.pr).Perm c ∧ O hb ∧ (∀ b, fpL v its b → O b) ∧ ∀ r, mv = .map (some r) → O r
  lt : ∀ b, O b → b < w.heap.size
  nd : (ckeys c).Nodup

omit [HE] in
theorem MapOk.keep {w w' : World} {mv : Value} {its : List It} (h : MapOk w mv its) (hk : ∀ r, mv = .map (some r) → w'.heap[r]? = w.heap[r]?) : MapOk w' mv its := by
  rcases h with h | ⟨r, m, hr, hm, h1, h2, h3⟩
  · exact .inl h
  · exact .inr ⟨r, m, hr, hm.of_heap (hk r hr), h1, h2, h3⟩
omit [HE] in
theorem MapOk.perm {w : World} {mv : Value} {its its' : List It} (h : MapOk w mv its) (hp : its'.Perm its) : MapOk w mv its' := by
  rcases h with ⟨h1, h2⟩ | ⟨r, m, hr, hm, h1, h2, h3⟩
  · subst h2; exact .inl ⟨h1, hp.eq_nil⟩
  · exact .inr ⟨r, m, hr, hm, h1, fun t ht => h2 t (hp.mem_iff.1 ht), fun k hk => h3 k fun t ht => hk t (hp.mem_iff.2 ht)⟩

theorem Hp.keep {w w' : World} {hb : Nat} {O S : Nat → Prop} {c : CT} (H : Hp w hb O c) (hf : Fr S w w') (hd : ∀ b, O b → ¬ S b) : Hp w' hb O c := by
  obtain ⟨v, mv, its, hI, hp, h1, h2, h3⟩ := H.ex
  refine ⟨⟨v, mv, its, ⟨hI.hl.keep hf (hd _ h1) fun b hb' => hd _ (h2 b hb'), hI.hh, hI.nd, hI.mp.keep fun r hr => hf.keep r (H.lt r (h3 r hr)) (hd _ (h3 r hr))⟩, hp, h1, h2, h3⟩, fun b hb' => Nat.lt_of_lt_of_le (H.lt b hb') hf.size, H.nd⟩
theorem Hp.congr {w : World} {hb : Nat} {O : Nat → Prop} {c c' : CT} (H : Hp w hb O c) (h : c.Perm c') : Hp w hb O c' := by
  obtain ⟨v, mv, its, hI, hp, h1, h2, h3⟩ := H.ex
  exact ⟨⟨v, mv, its, hI, hp.trans h, h1, h2, h3⟩, H.lt, ((h.map _).nodup_iff).1 H.nd⟩

theorem len_ok {w : World} {hb : Nat} {O : Nat → Prop} {c : CT} (H : Hp w hb O c) {K : KV} (h : K (.int .i64 c.length) w) : callT P F.ptimers_Heap_Len [ptrH hb] w K := by
  obtain ⟨v, mv, its, hI, hp, _⟩ := H.ex
  apply M.ptimers_Heap_Len.calls
  unfold M.ptimers_Heap_Len ptrH
  obtain ⟨h0, h1⟩ := cellsH hI.hl.blk
  have hl : c.length = its.length := by rw [← hp.length_eq]; simp
  rw [hl] at h
  simp [h0]
  rcases hI.hl.row.2 with ⟨rfl, hn⟩ | ⟨g, cap, cur, rfl, _⟩
  · simp [hn] at h ⊢; exact h
  · simp; exact h

omit [HE] in
theorem map_get {w : World} {mv : Value} {its : List It} {c : CT} (hm : MapOk w mv its) (hp : (its.map It.pr).Perm c) (hn : (ckeys c).Nodup) (k : Int) (ok : Bool) (K : KV) :
    (cget c k = none → K (cond ok (.tuple #[.pointer none, .bool false]) (.pointer none)) w) → (∀ t ∈ its, t.k = k → cget c k = some t.a → K (cond ok (.tuple #[t.ptr, .bool true]) t.ptr) w) →
    (mv = .map none → ok = false) → luT P T.map_uint64_p_timers_item mv (.int .u64 k) ok w K := by
  intro h0 h1 hok
  rcases hm with ⟨rfl, rfl⟩ | ⟨r, m, rfl, hm, _, h2, h3⟩
  · rw [hok rfl, lu_nil mt.map_uint64_p_timers_item]
    rw [hok rfl] at h0
    have hc : c = [] := hp.symm.eq_nil
    exact h0 (by rw [hc]; rfl)
  · rw [lu_any mt.map_uint64_p_timers_item hm]
    by_cases hex : ∃ t ∈ its, t.k = k
    · obtain ⟨t, ht, htk⟩ := hex
      have := h2 t ht
      rw [htk] at this
      rw [this]
      refine h1 t ht htk (cget_of_mem hn (hp.mem_iff.1 ?_))
      rw [← htk]
      exact List.mem_map.2 ⟨t, ht, rfl⟩
    · have hno : ∀ t ∈ its, t.k ≠ k := fun t ht htk => hex ⟨t, ht, htk⟩
      rw [h3 k hno]
      refine h0 ((cget_none_iff _ _).2 fun hk => ?_)
      obtain ⟨p, hp', rfl⟩ := List.mem_map.1 hk
      obtain ⟨t, ht, rfl⟩ := List.mem_map.1 (hp.mem_iff.2 hp')
      exact hno t ht rfl

theorem at_ok {w : World} {hb : Nat} {O : Nat → Prop} {c : CT} (H : Hp w hb O c) (k : Int) {K : KV} (h0 : cget c k = none → K (.tuple #[.int .u64 0, .bool false]) w) (h1 : ∀ a, cget c k = some a → K (.tuple #[.int .u64 a, .bool true]) w) :
    callT P F.ptimers_Heap_At [ptrH hb, .int .u64 k] w K := by
  obtain ⟨v, mv, its, hI, hp, _⟩ := H.ex
  apply M.ptimers_Heap_At.calls
  unfold M.ptimers_Heap_At M.ptimers_Heap_At.j0 ptrH
  obtain ⟨c0, c1⟩ := cellsH hI.hl.blk
  simp [c1]
  refine map_get hI.mp hp H.nd k false _ (fun hn => ?_) (fun t ht htk ha => ?_) fun _ => rfl
  · simp; exact h0 hn
  · obtain ⟨i, hi⟩ := List.mem_iff_getElem?.1 ht
    obtain ⟨t0, t1, t2⟩ := cells3 (hI.hl.itm i t hi)
    simp [It.ptr, c1]
    refine map_get hI.mp hp H.nd k false _ (fun hn => ?_) (fun u hu huk hb' => ?_) fun _ => rfl
    · rw [hn] at ha; cases ha
    · obtain ⟨j, hj⟩ := List.mem_iff_getElem?.1 hu
      obtain ⟨u0, u1, u2⟩ := cells3 (hI.hl.itm j u hj)
      simp [It.ptr, u1]
      exact h1 _ hb'

theorem next_ok {w : World} {hb : Nat} {O : Nat → Prop} {c : CT} (H : Hp w hb O c) (hlen : c.length < 1099511627776) {K : KV} (h0 : c = [] → K (.tuple #[.int .u64 0, .int .u64 0, .bool false]) w)
    (h1 : ∀ k a, (k, a) ∈ c → (∀ q ∈ c, leP (k, a) q = true) → K (.tuple #[.int .u64 k, .int .u64 a, .bool true]) (dr w 1)) : callT P F.ptimers_Heap_Next [ptrH hb] w K := by
  obtain ⟨v, mv, its, hI, hp, _⟩ := H.ex
  have hl : c.length = its.length := by rw [← hp.length_eq]; simp
  apply M.ptimers_Heap_Next.calls
  unfold M.ptimers_Heap_Next M.ptimers_Heap_Next.j0
  simp only [joinT_eq]
  rw [M.ptimers_Heap_Len.fcall]
  refine len_ok H ?_
  by_cases hc : c = []
  · subst hc
    simp
    exact h0 rfl
  · have hpos : 0 < c.length := List.length_pos_iff.2 hc
    have hz : ¬ ((c.length : Int) = 0) := by omega
    obtain ⟨c0, c1⟩ := cellsH hI.hl.blk
    obtain ⟨g, cap, cur, hv, _, hgb, hnc, _, _, _⟩ := row_form hI.hl.row (by omega)
    have hat := at_some (its := its) (i := 0) (by omega)
    obtain ⟨t0, t1, t2⟩ := cells3 (hI.hl.itm 0 _ hat)
    have cn := row_cell hI.hl.row (g := g) (by rw [hv]; rfl) (i := 0) (x := (At its 0).ptr) (by rw [List.getElem?_map, hat]; rfl)
    rw [hv] at c0
    have e1 : (At its 0).ptr = .pointer (some ⟨(At its 0).p, 0, none⟩) := rfl
    have hpos' : 0 < its.length := by omega
    simp [hc, ptrH, c0, cn, e1, t0, t1, hpos']
    have hm : At its 0 ∈ its := List.mem_of_getElem? hat
    refine h1 _ _ (hp.mem_iff.1 (List.mem_map.2 ⟨_, hm, rfl⟩)) fun q hq => ?_
    obtain ⟨u, hu, rfl⟩ := List.mem_map.1 (hp.mem_iff.2 hq)
    obtain ⟨j, hj⟩ := List.mem_iff_getElem?.1 hu
    have hjl := (List.getElem?_eq_some_iff.1 hj).1
    have := heap_min hI.hh j hjl
    rw [At_some hj] at this
    unfold le at this
    have hle : leP ((At its 0).k, (At its 0).a) (u.k, u.a) = true := by
      simp only [leP, Bool.or_eq_true, Bool.and_eq_true, decide_eq_true_eq]
      omega
    exact hle

/-- A line, whatever stands beside its slice. -/
theorem HL.beside {w w' : World} {hb : Nat} {v mv mv' : Value} {its : List It} (H : HL w hb v mv its) (hb' : w'.heap[hb]? = some (hbk v mv')) (hk : ∀ b, fpL v its b → w'.heap[b]? = w.heap[b]?) : HL w' hb v mv' its := by
  refine ⟨hb', row_keep H.row fun g hg => hk g (.inl hg), fun i t ht => ?_⟩
  have := H.itm i t ht
  unfold itemAt at this ⊢
  rw [hk _ (.inr ⟨t, List.mem_of_getElem? ht, rfl⟩)]
  exact this

theorem fp_ne_map {w : World} {hb r : Nat} {v mv : Value} {its : List It} {m : MP} (H : HL w hb v mv its) (hm : MapAt w r .u64 m) {b : Nat} (hf : fpL v its b ∨ b = hb) : b ≠ r := by
  obtain ⟨es, clk, hr, _⟩ := hm
  rcases hf with (hg | ⟨t, ht, rfl⟩) | rfl
  · obtain ⟨cap, cur, _, _, hb', _⟩ := row_at H.row hg
    exact ne_of_map hb' hr
  · obtain ⟨i, hi⟩ := List.mem_iff_getElem?.1 ht
    exact ne_of_map (H.itm i t hi) hr
  · exact ne_of_map H.blk hr

/-- Set where the map stands already. -/
theorem set_made {w : World} {hb r : Nat} {v : Value} {its : List It} {m : MP} {c : CT} {O : Nat → Prop} (hI : HpI w hb v (.map (some r)) its) (hm : MapAt w r .u64 m) (hmn : (mkeys m).Nodup) (hm2 : ∀ t ∈ its, mget m t.k = some t.ptr)
    (hm3 : ∀ k, (∀ t ∈ its, t.k ≠ k) → mget m k = none) (hp : (its.map It.pr).Perm c) (hO1 : O hb) (hO2 : ∀ b, fpL v its b → O b) (hO3 : O r) (hlt : ∀ b, O b → b < w.heap.size) (hnd : (ckeys c).Nodup) (hlen : c.length < 1000000) (k a : Int) {K : KV}
    (h : ∀ w' O', Hp w' hb O' (cset c k a) → Fr O w w' → (∀ b, O' b → O b ∨ w.heap.size ≤ b) → K (.tuple #[]) w') : M.ptimers_Heap_Set.j0 (ptrH hb) (.int .u64 k) (.int .u64 a) w K := by
  have hl : c.length = its.length := by rw [← hp.length_eq]; simp
  obtain ⟨c0, c1⟩ := cellsH hI.hl.blk
  unfold M.ptimers_Heap_Set.j0 ptrH
  simp [c1]
  rw [lu_any mt.map_uint64_p_timers_item hm]
  by_cases hex : ∃ t ∈ its, t.k = k
  · obtain ⟨t, ht, rfl⟩ := hex
    obtain ⟨i, hi⟩ := List.mem_iff_getElem?.1 ht
    have hil := (List.getElem?_eq_some_iff.1 hi).1
    have hit := hI.hl.itm i t hi
    obtain ⟨t0, t1, t2⟩ := cells3 hit
    have tf := frzOf_of hit 1
    rw [hm2 t ht]
    simp [It.ptr, t1, tf, t2, cellOf_setCell]
    rw [M.heap_Fix.fcall]
    -- the item's time is turned
    generalize hw1 : w.setCell ⟨t.p, 1, none⟩ (.int .u64 a) = w1
    have hbt : hb ≠ t.p := ne_of_elem hI.hl.blk hit (by first | decide | exact HE.n1 | exact HE.n2 | exact HE.n1.symm | exact HE.n2.symm)
    have hf1 : Fr (fpL v its) w w1 := by rw [← hw1]; exact (Fr.refl _ w).setCell (.inl (.inr ⟨t, ht, rfl⟩)) _ _
    let t' : It := ⟨t.p, t.k, a⟩
    have hptr : (its.set i t').map It.ptr = its.map It.ptr := map_set_same hi rfl
    have H1 : HL w1 hb v (.map (some r)) (its.set i t') := by
      refine ⟨?_, ?_, fun j u hu => ?_⟩
      · rw [← hw1, setCell_ne hbt.symm]; exact hI.hl.blk
      · rw [hptr, List.length_set]
        refine row_keep hI.hl.row fun g hg => ?_
        obtain ⟨cap, cur, _, _, hb', _⟩ := row_at hI.hl.row hg
        rw [← hw1, setCell_ne (ne_of_elem hb' hit (by first | decide | exact HE.n1 | exact HE.n2 | exact HE.n1.symm | exact HE.n2.symm)).symm]
      · rw [List.getElem?_set] at hu
        split at hu
        · rename_i hij; subst hij
          simp [hil] at hu; subst hu
          unfold itemAt
          rw [← hw1, setCell_at hit]; rfl
        · rename_i hij
          have hu' := hI.hl.itm j u hu
          have hne : t.p ≠ u.p := fun h => hij (itemAt_inj hit hu' h)
          unfold itemAt at hu' ⊢
          rw [← hw1, setCell_ne hne]; exact hu'
    have hD : DInv (At (its.set i t')) (its.set i t').length i i := by
      rw [List.length_set]
      refine broken_set hI.hh hil fun c hc => ?_
      simp [At, List.getElem?_set, Ne.symm hc]
    have hfix := fix_ok (K := fun _ w => K (.tuple #[]) w) (H1.dr 1) (by rw [List.length_set]; omega) (by rw [List.length_set]; exact hil) hD fun w2 its2 H2 hp2 hh2 hf2 => by
      have hkeys : (its.set i t').map (·.k) = its.map (·.k) := map_set_same hi rfl
      have hfr : Fr (fun b => fpL v its b) w w2 := (hf1.dr 1).trans' hf2 fun b _ hb' => by
        rcases hb' with hg | ⟨u, hu, hpu⟩
        · exact .inl hg
        · obtain ⟨j, hj⟩ := List.mem_iff_getElem?.1 hu
          rw [List.getElem?_set] at hj
          split at hj
          · rename_i hij; subst hij
            simp [hil] at hj; subst hj
            exact .inr ⟨t, ht, hpu⟩
          · exact .inr ⟨u, List.mem_of_getElem? hj, hpu⟩
      have hm' : MapAt w2 r .u64 m := hm.of_heap (hfr.keep r hm.lt fun hf => fp_ne_map hI.hl hm (.inl hf) rfl)
      have mem2 : ∀ u ∈ its2, ∃ x ∈ its, x.k = u.k ∧ x.p = u.p := fun u hu => by
        obtain ⟨j, hj⟩ := List.mem_iff_getElem?.1 (hp2.mem_iff.1 hu)
        rw [List.getElem?_set] at hj
        split at hj
        · rename_i hij; subst hij
          simp [hil] at hj; subst hj
          exact ⟨t, ht, rfl, rfl⟩
        · exact ⟨u, List.mem_of_getElem? hj, rfl, rfl⟩
      refine h w2 O ⟨⟨v, .map (some r), its2, ⟨H2, hh2, ?_, .inr ⟨r, m, rfl, hm', hmn, fun u hu => ?_, fun k' hk' => ?_⟩⟩, ?_, hO1, fun b hb' => ?_, fun r' hr' => by cases hr'; exact hO3⟩, fun b hb' => Nat.lt_of_lt_of_le (hlt b hb') hfr.size, cset_nodup hnd _ _⟩ (hfr.mono fun b _ hb' => hO2 b hb') fun b hb' => .inl hb'
      · rw [((hp2.map (·.k)).nodup_iff), hkeys]; exact hI.nd
      · obtain ⟨x, hx, h1, h2⟩ := mem2 u hu
        have := hm2 x hx
        rw [h1] at this
        rw [this]; unfold It.ptr; rw [h2]
      · refine hm3 k' fun x hx hxk => ?_
        obtain ⟨j, hj⟩ := List.mem_iff_getElem?.1 hx
        by_cases hij : i = j
        · subst hij
          rw [hi] at hj; cases hj
          have : t' ∈ its2 := hp2.mem_iff.2 (List.mem_iff_getElem?.2 ⟨i, by simp [List.getElem?_set, hil]⟩)
          exact hk' t' this hxk
        · have : x ∈ its2 := hp2.mem_iff.2 (List.mem_iff_getElem?.2 ⟨j, by simp [List.getElem?_set, hij, hj]⟩)
          exact hk' x this hxk
      · have h1 : (its2.map It.pr).Perm ((its.map It.pr).set i (t.k, a)) := by
          have := hp2.map It.pr
          rw [List.map_set] at this
          exact this
        refine h1.trans ?_
        have hnd' : (ckeys (its.map It.pr)).Nodup := ((hp.map _).nodup_iff).2 hnd
        have h2 := set_perm hnd' (i := i) (k := t.k) (a := t.a) (b := a) (by simp [hi, It.pr])
        exact h2.trans (cset_perm hp _ _)
      · rcases hb' with hg | ⟨u, hu, hpu⟩
        · exact hO2 b (.inl hg)
        · obtain ⟨x, hx, h1, h2⟩ := mem2 u hu
          exact hO2 b (.inr ⟨x, hx, h2.trans hpu⟩)
    exact hfix
  · have hno : ∀ t ∈ its, t.k ≠ k := fun t ht htk => hex ⟨t, ht, htk⟩
    rw [hm3 k hno]
    have hck : k ∉ ckeys c := fun hk => by
      obtain ⟨q, hq, rfl⟩ := List.mem_map.1 hk
      obtain ⟨t, ht, rfl⟩ := List.mem_map.1 (hp.mem_iff.2 hq)
      exact hno t ht rfl
    have hca : cset c k a = (k, a) :: c := by unfold cset; rw [cdel_none hck]
    simp
    unfold M.ptimers_Heap_Set.j1
    simp
    -- the new item
    generalize hw1 : w.alloc (.cells #[.int .u64 k, .int .u64 a, .int .i64 0] T.timers_item) = w1
    have hblt := heap_lt hI.hl.blk
    have hs1 : w1.heap.size = w.heap.size + 1 := by rw [← hw1, alloc_size]
    have keep1 : ∀ b, b < w.heap.size → w1.heap[b]? = w.heap[b]? := fun b hb' => by rw [← hw1, alloc_heap, if_neg (by omega)]
    have hf1 : Fr (fun _ => False) w w1 := by rw [← hw1]; exact (Fr.refl _ w).alloc _
    have c1' : cellOf w1 hb 1 = some (.map (some r)) := by rw [cellOf_heap (keep1 hb hblt)]; exact c1
    have hm1 : MapAt w1 r .u64 m := hm.of_heap (keep1 r hm.lt)
    have hL1 : HL w1 hb v (.map (some r)) its := hI.hl.keep hf1 (fun h => h) fun _ _ h => h
    simp [c1']
    refine mu_ok mt.map_uint64_p_timers_item hm1 k _ _ fun o hm2' => ?_
    generalize hw2 : World.setObj w1 r o = w2 at hm2'
    have hrlt : r < w1.heap.size := hm1.lt
    have keep2 : ∀ b, b ≠ r → w2.heap[b]? = w1.heap[b]? := fun b hb' => by rw [← hw2, setObj_heap _ _ _ _ hrlt, if_neg (Ne.symm hb')]
    have hf2 : Fr (fun b => b = r) w1 w2 := by rw [← hw2]; exact (Fr.refl (fun b => b = r) w1).setObj (.inl rfl) _
    have hL2 : HL w2 hb v (.map (some r)) its := hL1.keep hf2 (fp_ne_map hL1 hm1 (.inr rfl)) fun b hf => fp_ne_map hL1 hm1 (.inl hf)
    rw [M.heap_Push.fcall]
    have hti : w2.heap[w.heap.size]? = some (.cells #[.int .u64 k, .int .u64 a, .int .i64 0] T.timers_item (0, 0)) := by
      have hr' := hm.lt
      rw [keep2 _ (by omega), ← hw1, alloc_heap, if_pos rfl]
    refine push_ok (t := ⟨w.heap.size, k, a⟩) hL2 (by omega) hI.hh hti (fun u hu hp' => ?_) fun w3 v3 its3 H3 hp3 hh3 hf3 hv3 => ?_
    · have := fpL_lt hI.hl (.inr ⟨u, hu, rfl⟩)
      simp at hp'; omega
    have hs2 : w1.heap.size ≤ w2.heap.size := hf2.size
    have hfr : Fr O w w3 := (((hf1.mono fun _ _ h => h.elim).trans' hf2 fun b _ hb' => by rw [hb']; exact hO3).trans' hf3 fun b hlt' hb' => by
      rcases hb' with hf | rfl | rfl
      · exact hO2 b hf
      · exact hO1
      · simp at hlt')
    have hm3' : MapAt w3 r .u64 (mset m k (.pointer (some ⟨w.heap.size, 0, none⟩))) := hm2'.of_heap (hf3.keep r hm2'.lt fun hf => by
      rcases hf with hf | hf | hf
      · exact fp_ne_map hL1 hm1 (.inl hf) rfl
      · exact fp_ne_map hL1 hm1 (.inr hf) rfl
      · have := hm.lt; simp at hf; omega)
    have hkeys : ((its ++ [(⟨w.heap.size, k, a⟩ : It)]).map (·.k)).Nodup := by
      rw [List.map_append, List.nodup_append]
      refine ⟨hI.nd, by simp, fun x hx y hy => ?_⟩
      simp at hy; rw [hy]
      obtain ⟨t, ht, rfl⟩ := List.mem_map.1 hx
      exact hno t ht
    refine h w3 (fun b => O b ∨ (w.heap.size ≤ b ∧ b < w3.heap.size)) ⟨⟨v3, .map (some r), its3, ⟨H3, hh3, ?_, .inr ⟨r, _, rfl, hm3', ?_, fun u hu => ?_, fun k' hk' => ?_⟩⟩, ?_, .inl hO1, fun b hb' => ?_, fun r' hr' => by cases hr'; exact .inl hO3⟩, fun b hb' => ?_, cset_nodup hnd _ _⟩ hfr fun b hb' => hb'.imp id fun h => h.1
    · rw [((hp3.map (·.k)).nodup_iff)]; exact hkeys
    · rw [mkeys_mset, if_neg ((mget_none_iff _ _).1 (hm3 k hno)), List.nodup_append]
      refine ⟨hmn, by simp, fun x hx y hy => ?_⟩
      simp at hy; rw [hy]
      exact fun he => (mget_none_iff _ _).1 (hm3 k hno) (he ▸ hx)
    · rw [mget_mset]
      rcases List.mem_append.1 (hp3.mem_iff.1 hu) with hu | hu
      · rw [if_neg (Ne.symm (hno u hu))]; exact hm2 u hu
      · rw [List.mem_singleton] at hu; rw [hu]; simp [It.ptr]
    · have h1 : k ≠ k' := hk' ⟨w.heap.size, k, a⟩ (hp3.mem_iff.2 (by simp))
      rw [mget_mset, if_neg h1]
      exact hm3 k' fun t ht => hk' t (hp3.mem_iff.2 (by simp [ht]))
    · rw [hca]
      have h1 := hp3.map It.pr
      rw [List.map_append] at h1
      refine h1.trans (List.perm_append_comm.trans ?_)
      exact hp.cons (k, a)
    · rcases fpL_perm hp3 hb' with hg | ⟨u, hu, hpu⟩
      · rcases hv3 b hg with hg | hge
        · exact .inl (hO2 b (.inl hg))
        · refine .inr ⟨by omega, ?_⟩
          exact fpL_lt H3 hb'
      · rcases List.mem_append.1 hu with hu | hu
        · exact .inl (hO2 b (.inr ⟨u, hu, hpu⟩))
        · rw [List.mem_singleton] at hu; rw [hu] at hpu
          simp at hpu
          exact .inr ⟨by omega, fpL_lt H3 hb'⟩
    · rcases hb' with hb' | hb'
      · exact Nat.lt_of_lt_of_le (hlt b hb') hfr.size
      · exact hb'.2
end Go.Proofs.Ytkjhekflgghbdaa
set_option maxRecDepth 100000
namespace Go.Proofs.Ytkjhekflgghbdaa
open Go.Eng
variable [HE]

/-- A new Heap. -/
theorem Hp.new {w' : World} {hb : Nat} (hb' : w'.heap[hb]? = some (hbk (.slice none 0 0) (.map none))) : Hp w' hb (fun b => b = hb) [] := by
  refine ⟨⟨.slice none 0 0, .map none, [], ⟨⟨hb', World.ownsRow_nil _ _ _ _, fun i t h => by simp at h⟩, fun c h0 hc => by simp at hc, by simp, .inl ⟨rfl, rfl⟩⟩, List.Perm.refl _, rfl, fun b hf => ?_, fun r h => by cases h⟩, fun b hb2 => ?_, by simp [ckeys]⟩
  · rcases hf with h | ⟨t, ht, _⟩
    · simp [Value.ownBlock] at h
    · cases ht
  · rw [hb2]; exact heap_lt hb'

theorem set_ok {w : World} {hb : Nat} {O : Nat → Prop} {c : CT} (H : Hp w hb O c) (hlen : c.length < 1000000) (k a : Int) {K : KV}
    (h : ∀ w' O', Hp w' hb O' (cset c k a) → Fr O w w' → (∀ b, O' b → O b ∨ w.heap.size ≤ b) → K (.tuple #[]) w') : callT P F.ptimers_Heap_Set [ptrH hb, .int .u64 k, .int .u64 a] w K := by
  obtain ⟨v, mv, its, hI, hp, h1, h2, h3⟩ := H.ex
  obtain ⟨c0, c1⟩ := cellsH hI.hl.blk
  apply M.ptimers_Heap_Set.calls
  unfold M.ptimers_Heap_Set
  rcases hI.mp with ⟨rfl, rfl⟩ | ⟨r, m, rfl, hm, hmn, hm2, hm3⟩
  · have hc : c = [] := hp.symm.eq_nil
    subst hc
    have hblt := heap_lt hI.hl.blk
    have ff := frzOf_of hI.hl.blk 1
    simp [ptrH, c1]
    rw [mkm_eq]
    generalize hw1 : w.alloc (.map #[] 0) = w1
    have hs1 : w1.heap.size = w.heap.size + 1 := by rw [← hw1, alloc_size]
    have hb1 : w1.heap[hb]? = some (hbk v (.map none)) := by rw [← hw1, alloc_heap, if_neg (by omega)]; exact hI.hl.blk
    obtain ⟨d0, d1⟩ := cellsH hb1
    have ff1 := frzOf_of hb1 1
    simp [d1, ff1]
    generalize hw2 : w1.setCell ⟨hb, 1, none⟩ (.map (some w.heap.size)) = w2
    have hb2 : w2.heap[hb]? = some (hbk v (.map (some w.heap.size))) := by rw [← hw2]; exact hbk_set1 hb1
    have hf2 : Fr O w w2 := by
      rw [← hw2, ← hw1]
      exact ((Fr.refl O w).alloc _).setCell (.inl h1) _ _
    have hs2 : w2.heap.size = w.heap.size + 1 := by rw [← hw2, setCell_size, hs1]
    have hm' : MapAt w2 w.heap.size .u64 [] := by
      refine (MapAt_new w .u64).of_heap ?_
      rw [← hw2, setCell_ne (by omega), hw1]
    have hne : ∀ b, fpL v ([] : List It) b → b ≠ hb := fun b hf => by
      rcases hf with hg | ⟨t, ht, _⟩
      · obtain ⟨cap, cur, _, _, hgb, _⟩ := row_at hI.hl.row hg
        exact ne_of_elem hgb hI.hl.blk (by first | decide | exact HE.n1 | exact HE.n2 | exact HE.n1.symm | exact HE.n2.symm)
      · cases ht
    have H2 : HL w2 hb v (.map (some w.heap.size)) [] := hI.hl.beside hb2 fun b hf => by
      have hlt := fpL_lt hI.hl hf
      rw [← hw2, setCell_ne (Ne.symm (hne b hf)), ← hw1, alloc_heap, if_neg (by omega)]
    refine set_made (O := fun b => O b ∨ b = w.heap.size) ⟨H2, hI.hh, hI.nd, .inr ⟨_, _, rfl, hm', by simp [mkeys], fun t ht => (by cases ht), fun _ _ => rfl⟩⟩ hm' (by simp [mkeys]) (fun t ht => (by cases ht)) (fun _ _ => rfl) hp (.inl h1) (fun b hf => .inl (h2 b hf)) (.inr rfl) (fun b hb' => ?_) H.nd hlen k a fun w3 O3 H3 hf3 hO3 => ?_
    · rcases hb' with hb' | hb'
      · have := H.lt b hb'; omega
      · omega
    · refine h w3 O3 H3 (hf2.trans' hf3 fun b hlt hb' => ?_) fun b hb' => ?_
      · rcases hb' with hb' | hb'
        · exact hb'
        · omega
      · rcases hO3 b hb' with (hb' | hb') | hb'
        · exact .inl hb'
        · exact .inr (by omega)
        · exact .inr (by omega)
  · simp [ptrH, c1]
    exact set_made hI hm hmn hm2 hm3 hp h1 h2 (h3 r rfl) H.lt H.nd hlen k a h

theorem del_none {w : World} {hb : Nat} {O : Nat → Prop} {c : CT} (H : Hp w hb O c) (k : Int) (hk : cget c k = none) {K : KV} (h : K (.bool false) w) : callT P F.ptimers_Heap_Del [ptrH hb, .int .u64 k] w K := by
  obtain ⟨v, mv, its, hI, hp, _⟩ := H.ex
  obtain ⟨c0, c1⟩ := cellsH hI.hl.blk
  apply M.ptimers_Heap_Del.calls
  unfold M.ptimers_Heap_Del ptrH
  simp [c1]
  refine map_get hI.mp hp H.nd k false _ (fun _ => ?_) (fun t ht htk ha => ?_) fun _ => rfl
  · simp; exact h
  · rw [hk] at ha; cases ha

theorem del_some {w : World} {hb : Nat} {O : Nat → Prop} {c : CT} (H : Hp w hb O c) (hlen : c.length < 1000000) (k a : Int) (hk : cget c k = some a) {K : KV} (h : ∀ w', Hp w' hb O (cdel c k) → Fr O w w' → K (.bool true) w') : callT P F.ptimers_Heap_Del [ptrH hb, .int .u64 k] w K := by
  obtain ⟨v, mv, its, hI, hp, h1, h2, h3⟩ := H.ex
  have hl : c.length = its.length := by rw [← hp.length_eq]; simp
  obtain ⟨c0, c1⟩ := cellsH hI.hl.blk
  apply M.ptimers_Heap_Del.calls
  unfold M.ptimers_Heap_Del M.ptimers_Heap_Del.j0 ptrH
  obtain ⟨r, m, rfl, hm, hmn, hm2, hm3⟩ : ∃ r m, mv = .map (some r) ∧ MapAt w r .u64 m ∧ (mkeys m).Nodup ∧ (∀ t ∈ its, mget m t.k = some t.ptr) ∧ ∀ k, (∀ t ∈ its, t.k ≠ k) → mget m k = none := by
    rcases hI.mp with ⟨_, rfl⟩ | hx
    · have hc : c = [] := hp.symm.eq_nil
      subst hc
      simp [cget] at hk
    · exact hx
  obtain ⟨t, ht, hta⟩ := List.mem_map.1 (hp.mem_iff.2 (cget_mem hk))
  obtain ⟨rfl, rfl⟩ : t.k = k ∧ t.a = a := by simpa [It.pr] using hta
  obtain ⟨i, hi⟩ := List.mem_iff_getElem?.1 ht
  have hil := (List.getElem?_eq_some_iff.1 hi).1
  obtain ⟨t0, t1, t2⟩ := cells3 (hI.hl.itm i t hi)
  have hg : (mget m t.k).getD (.pointer none) = .pointer (some ⟨t.p, 0, none⟩) := by rw [hm2 t ht]; rfl
  simp [c1]
  rw [lu_eq mt.map_uint64_p_timers_item hm, hg]
  simp [c1]
  rw [lu_eq mt.map_uint64_p_timers_item (hm.of_heap (w' := dr w 1) rfl), hg]
  simp [t2]
  rw [M.heap_Remove.fcall]
  have hAt : At its i = t := At_some hi
  refine remove_ok (hI.hl.dr 1) (by omega) hil hI.hh fun w1 v1 its1 H1 hp1 hh1 hf1 hv1 => ?_
  rw [hAt] at hp1
  have hf1' : Fr (fun b => fpL v its b ∨ b = hb) w w1 := ⟨hf1.size, hf1.keep, hf1.tape, hf1.os, hf1.output⟩
  have hm1 : MapAt w1 r .u64 m := hm.of_heap (hf1'.keep r hm.lt fun hf => fp_ne_map hI.hl hm hf rfl)
  obtain ⟨d0, d1⟩ := cellsH H1.blk
  simp [d1]
  refine del_ok mt.map_uint64_p_timers_item hm1 t.k _ _ _ fun o hm2' => ?_
  generalize hw2 : World.setObj w1 r o = w2 at hm2'
  have hrlt : r < w1.heap.size := hm1.lt
  have hf2 : Fr (fun b => b = r) w1 w2 := by rw [← hw2]; exact (Fr.refl (fun b => b = r) w1).setObj (.inl rfl) _
  have H2 : HL w2 hb v1 (.map (some r)) its1 := H1.keep hf2 (fp_ne_map H1 hm1 (.inr rfl)) fun b hf => fp_ne_map H1 hm1 (.inl hf)
  have hmem : ∀ u, u ∈ its1 → u ∈ its := fun u hu => hp1.mem_iff.1 (List.mem_cons_of_mem _ hu)
  have hnd1 : ((t :: its1).map (·.k)).Nodup := ((hp1.map _).nodup_iff).2 hI.nd
  rw [List.map_cons, List.nodup_cons] at hnd1
  have hne : ∀ u ∈ its1, t.k ≠ u.k := fun u hu h => hnd1.1 (by rw [h]; exact List.mem_map.2 ⟨u, hu, rfl⟩)
  have hfr : Fr O w w2 := (hf1'.mono fun b _ hb' => by
    rcases hb' with hb' | rfl
    · exact h2 b hb'
    · exact h1).trans' hf2 fun b _ hb' => by rw [hb']; exact h3 r rfl
  refine h w2 ⟨⟨v1, .map (some r), its1, ⟨H2, hh1, hnd1.2, .inr ⟨r, _, rfl, hm2', ?_, fun u hu => ?_, fun k' hk' => ?_⟩⟩, ?_, h1, fun b hf => ?_, h3⟩, fun b hb' => Nat.lt_of_lt_of_le (H.lt b hb') hfr.size, cdel_nodup H.nd _⟩ hfr
  · rw [mkeys_mdel]; exact hmn.erase _
  · rw [mget_mdel_ne _ _ _ (hne u hu)]; exact hm2 u (hmem u hu)
  · by_cases hkk : t.k = k'
    · subst hkk; exact mget_mdel_same _ _ hmn
    · rw [mget_mdel_ne _ _ _ hkk]
      refine hm3 k' fun u hu huk => ?_
      rcases List.mem_cons.1 (hp1.mem_iff.2 hu) with rfl | hu'
      · exact hkk huk
      · exact hk' u hu' huk
  · refine del_perm H.nd (a := t.a) ?_
    exact (hp1.map It.pr).trans hp
  · rcases hf with hg' | ⟨u, hu, hpu⟩
    · exact h2 b (.inl (hv1 ▸ hg'))
    · exact h2 b (.inr ⟨u, hmem u hu, hpu⟩)
end Go.Proofs.Ytkjhekflgghbdaa
set_option maxRecDepth 100000
namespace Go.Proofs.Ytkjhekflgghbdaa
open Go.Eng
variable [HE]

def slLen : Value → Nat
  | .slice _ n _ => n
  | _ => 0
def u64s (l : List Int) : List Value := l.map (Value.int .u64)

def PopI (w : World) (hb : Nat) (O : Nat → Prop) (c : CT) (now : Int) : KL := fun x w1 => ∃ (out : List Int) (c1 : CT) (v : Value), x = [gv x 0, gv x 1, gv x 2, v] ∧ Hp w1 hb O c1 ∧ w1.ownsRow w.heap.size T.uint64 1 v out.length (u64s out) ∧
  out ++ cdue c1 now = cdue c now ∧ (crest c1 now).Perm (crest c now) ∧ out.length + c1.length = c.length ∧ Fr O w w1

omit [HE] in
theorem slLen_own {w : World} {base e n : Nat} {v : Value} {xs : List Value} (h : w.ownsRow base e 1 v n xs) : slLen v = n := by
  rcases h.2 with ⟨rfl, rfl⟩ | ⟨g, cap, cur, rfl, _⟩ <;> rfl

theorem pop_ok {w : World} {hb : Nat} {O : Nat → Prop} {c : CT} (H : Hp w hb O c) (hlen : c.length < 1000000) (now : Int) {K : KV}
    (h : ∀ w' v, Hp w' hb O (crest c now) → w'.ownsRow w.heap.size T.uint64 1 v (cdue c now).length (u64s (cdue c now)) → Fr O w w' → K v w') : callT P F.ptimers_Heap_Pop [ptrH hb, .int .u64 now] w K := by
  apply M.ptimers_Heap_Pop.calls
  unfold M.ptimers_Heap_Pop
  refine ⟨PopI w hb O c now, fun x _ => c.length - slLen (gv x 3), ⟨[], c, .slice none 0 0, rfl, H, World.ownsRow_nil _ _ _ _, rfl, List.Perm.refl _, by simp, Fr.refl _ _⟩, ?_⟩
  rintro x w1 ⟨out, c1, v, hx, H1, hr1, hd1, hc1, hl1, hf1⟩
  rw [hx]
  have hsl := slLen_own hr1
  unfold M.ptimers_Heap_Pop.j0
  rw [M.ptimers_Heap_Next.fcall]
  have stop : ∀ w2, Hp w2 hb O c1 → Fr O w w2 → w2.ownsRow w.heap.size T.uint64 1 v out.length (u64s out) → (∀ q ∈ c1, now < q.2) → K v w2 := fun w2 H2 hf2 hr2 hall => by
    rw [cdue_none hall, List.append_nil] at hd1
    rw [crest_all hall] at hc1
    refine h w2 v (H2.congr hc1) ?_ hf2
    rw [← hd1]; exact hr2
  refine next_ok H1 (by omega) (fun h0 => ?_) fun k a hka hmin => ?_
  · simp
    exact stop w1 H1 hf1 hr1 (by rw [h0]; intro q hq; cases hq)
  · have H1' : Hp (dr w1 1) hb O c1 := H1.keep ((Fr.refl (fun _ => False) w1).dr 1) fun _ _ h => h
    have hr1' : (dr w1 1).ownsRow w.heap.size T.uint64 1 v out.length (u64s out) := row_keep hr1 fun _ _ => rfl
    by_cases hna : now < a
    · simp [hna]
      refine stop _ H1' (hf1.dr 1) hr1' fun q hq => ?_
      have := hmin q hq
      simp only [leP, Bool.or_eq_true, Bool.and_eq_true, decide_eq_true_eq] at this
      omega
    · simp [hna]
      have hs1 := hf1.size
      have hal := hr1'.alloc (.cells #[.int .u64 k] T.uint64)
      have hv : v.ownBlock = none ∨ ∃ g, v.ownBlock = some g ∧ w.heap.size ≤ g := by
        cases hg : v.ownBlock with
        | none => exact .inl rfl
        | some g =>
          obtain ⟨cap, cur, _, hge, _⟩ := row_at hr1 hg
          exact .inr ⟨g, rfl, hge⟩
      refine app_own (P := P) et.sl_uint64 hal (b := w1.heap.size) (o := 0) (m := 1) (c := 1) (news := [.int .u64 k]) rfl ?_ ?_ (by omega) (by omega) (by rw [alloc_size]; show w.heap.size ≤ w1.heap.size + 1; omega) _ _ ?_
      · intro j u hj
        cases j with
        | zero => simp at hj; subst hj; exact (cellOf_new (w := dr w1 1) (n := w1.heap.size) rfl (0 + 0)).trans rfl
        | succ j => simp at hj
      · intro u hu; simp at hu; subst hu; rfl
      · intro v2 w2 hr2 hgr _ _
        have hf12 : Fr (fun b => w.heap.size ≤ b) w1 w2 := (((Fr.refl (fun b => w.heap.size ≤ b) w1).dr 1).alloc _).trans' (Fr.grown hgr) fun b _ hb' => by
          rcases hv with hv | ⟨g, hv, hge⟩
          · rw [hv] at hb'; cases hb'
          · rw [hv] at hb'; cases hb'; exact hge
        have H2 : Hp w2 hb O c1 := H1.keep hf12 fun b hb' hge => by have := H.lt b hb'; omega
        rw [M.ptimers_Heap_Del.fcall]
        have hget : cget c1 k = some a := cget_of_mem H1.nd hka
        have hperm : ((k, a) :: cdel c1 k).Perm c1 := by
          obtain ⟨i, hi⟩ := List.mem_iff_getElem?.1 hka
          have h1 := set_perm H1.nd (b := a) hi
          have h2 : c1.set i (k, a) = c1 := by
            refine List.ext_getElem? fun j => ?_
            rw [List.getElem?_set]
            split
            · rename_i hij; subst hij
              rw [if_pos (List.getElem?_eq_some_iff.1 hi).1, hi]
            · rfl
          rw [h2] at h1
          exact h1.symm
        have hmin' : ∀ q ∈ cdel c1 k, leP (k, a) q = true := fun q hq => hmin q ((List.mem_filter.1 hq).1)
        refine del_some H2 (by omega) k a hget fun w3 H3 hf3 => ?_
        refine ⟨⟨out ++ [k], cdel c1 k, v2, rfl, H3, ?_, ?_, ?_, ?_, ?_⟩, ?_⟩
        · have e1 : u64s (out ++ [k]) = u64s out ++ [.int .u64 k] := by simp [u64s]
          rw [e1, List.length_append]
          refine row_keep hr2 fun g hg => ?_
          obtain ⟨cap, cur, _, hge, hgb, _⟩ := row_at hr2 hg
          exact hf3.keep g (heap_lt hgb) fun hO => by have := H.lt g hO; omega
        · rw [List.append_assoc, ← hd1, cdue_step hperm hmin' (by omega)]; rfl
        · exact (crest_step (now := now) hperm (by omega)).trans hc1
        · have := hperm.length_eq
          simp at this ⊢; omega
        · exact (hf1.trans' (hf12.mono (S' := fun b => w.heap.size ≤ b) fun _ _ h => h) fun b hlt hge => by omega).trans' hf3 fun b _ hb' => hb'
        · have h3 : slLen v2 = out.length + 1 := slLen_own hr2
          have := hperm.length_eq
          simp [gv, hsl, h3] at this ⊢
          omega

/-! ### A nil one -/
omit [HE] in
theorem nil_set {w : World} (k a : Int) {K : KV} (h : K (.tuple #[]) w) : callT P F.ptimers_Heap_Set [.pointer none, .int .u64 k, .int .u64 a] w K := by
  apply M.ptimers_Heap_Set.calls; unfold M.ptimers_Heap_Set; simp; exact h
omit [HE] in
theorem nil_del {w : World} (k : Int) {K : KV} (h : K (.bool false) w) : callT P F.ptimers_Heap_Del [.pointer none, .int .u64 k] w K := by
  apply M.ptimers_Heap_Del.calls; unfold M.ptimers_Heap_Del; simp; exact h
omit [HE] in
theorem nil_at {w : World} (k : Int) {K : KV} (h : K (.tuple #[.int .u64 0, .bool false]) w) : callT P F.ptimers_Heap_At [.pointer none, .int .u64 k] w K := by
  apply M.ptimers_Heap_At.calls; unfold M.ptimers_Heap_At; simp; exact h
omit [HE] in
theorem nil_len {w : World} {K : KV} (h : K (.int .i64 0) w) : callT P F.ptimers_Heap_Len [.pointer none] w K := by
  apply M.ptimers_Heap_Len.calls; unfold M.ptimers_Heap_Len; simp; exact h
omit [HE] in
theorem nil_next {w : World} {K : KV} (h : K (.tuple #[.int .u64 0, .int .u64 0, .bool false]) w) : callT P F.ptimers_Heap_Next [.pointer none] w K := by
  apply M.ptimers_Heap_Next.calls; unfold M.ptimers_Heap_Next; simp only [joinT_eq]; rw [M.ptimers_Heap_Len.fcall]; refine nil_len ?_; simp; exact h
omit [HE] in
theorem nil_pop {w : World} (now : Int) {K : KV} (h : K (.slice none 0 0) w) : callT P F.ptimers_Heap_Pop [.pointer none, .int .u64 now] w K := by
  apply M.ptimers_Heap_Pop.calls
  unfold M.ptimers_Heap_Pop
  refine ⟨fun x w1 => x = [undef, undef, undef, .slice none 0 0] ∧ w1 = w, fun _ _ => 0, ⟨rfl, rfl⟩, ?_⟩
  rintro x w1 ⟨rfl, rfl⟩
  unfold M.ptimers_Heap_Pop.j0
  rw [M.ptimers_Heap_Next.fcall]
  refine nil_next ?_
  simp
  exact h
end Go.Proofs.Ytkjhekflgghbdaa
set_option maxRecDepth 100000
namespace Go.Proofs.Ytkjhekflgghbdaa
open Go.Eng

@[simp] theorem strT : isStrB P T.string = true := by refine Eq.trans ?_ rfl; kernel_rfl
@[simp] theorem lenS (ty : TypeId) (cs : List Bool) (s : ByteArray) (w : World) (K : KV) : biT P .len #[T.string] ty cs [.string s] w K = K (.int .i64 s.size) w := len_str strT cs s w K

theorem toList_empty (s : ByteArray) : s.toList.isEmpty = decide (s.size = 0) := by
  have h : s.size = s.data.toList.length := Array.length_toList.symm
  rw [ByteArray.toList_eq, h]
  cases s.data.toList <;> simp
/-- Does a text begin with another one? -/
def hasPre (s p : ByteArray) : Bool := decide (p.size ≤ s.size) && ((s.extract 0 p.size).toList == p.toList)
theorem hasPrefix_ok {w : World} (s p : ByteArray) {K : KV} (h : K (.bool (hasPre s p)) w) : callT P F.strings_HasPrefix [.string s, .string p] w K := by
  apply M.strings_HasPrefix.calls
  unfold M.strings_HasPrefix
  rw [M.internal_stringslite_HasPrefix.fcall]
  apply M.internal_stringslite_HasPrefix.calls
  unfold M.internal_stringslite_HasPrefix
  unfold hasPre at h
  by_cases hl : p.size ≤ s.size
  · have hl' : (p.size : Int) ≤ s.size := by omega
    have hsl : ∀ K, slT P T.string (.string s) none (some (.int .i64 (p.size : Int))) none w K = K (.string (s.extract 0 p.size)) w := fun K => sl_str strT (.inl ⟨rfl, rfl⟩) (.inr ⟨_, rfl⟩) (Nat.zero_le _) hl w K
    simp [hl, hsl, bin_eqlS] at h ⊢
    exact h
  · have hl' : ¬ (p.size : Int) ≤ s.size := by omega
    simp [hl] at h ⊢
    exact h

def runeErr : ByteArray := ⟨#[239, 191, 189]⟩
def badRune (s : ByteArray) (i : Nat) : Bool := decide ((Utf8.decode s i).1 < 32) || ((decide (127 ≤ (Utf8.decode s i).1) && decide ((Utf8.decode s i).1 ≤ 159)) || (decide ((Utf8.decode s i).1 = 65533) && !hasPre (s.extract i s.size) runeErr))
/-- Are the runes from a place on right? -/
def runesOk (s : ByteArray) (i : Nat) : Bool :=
  if h : i < s.size then !badRune s i && runesOk s (i + (Utf8.decode s i).2) else true
termination_by s.size - i
decreasing_by have := decode_width s i; omega
def nameK (s : ByteArray) : Int := if s.size = 0 ∨ 32 < s.size then 5 else if runesOk s 0 = true then 0 else 5

def NameI (w : World) (s : ByteArray) : KL := fun x w1 => ∃ (pos : Nat), w1.heap[w.heap.size]? = some (.stringIter s pos) ∧ Fr (fun _ => False) w w1 ∧ runesOk s pos = runesOk s 0
def mIter (s : ByteArray) (it : Nat) (w : World) : Nat := match w.heap[it]? with
  | some (.stringIter _ pos) => s.size - pos
  | _ => 0
theorem name_ok {w : World} (s : ByteArray) {K : KV} (h : ∀ w', Fr (fun _ => False) w w' → K (.int .i64 (nameK s)) w') : callT P F.span_Name [.string s] w K := by
  apply M.span_Name.calls
  unfold M.span_Name
  simp only [joinT_eq]
  have hemp : s.toList.isEmpty = decide (s.size = 0) := toList_empty s
  unfold nameK at h
  by_cases h0 : s.size = 0
  · simp [bin_eqlS, hemp, h0] at h ⊢
    exact h w (Fr.refl _ _)
  · by_cases h1 : 32 < s.size
    · have h1' : (32 : Int) < s.size := by omega
      simp [bin_eqlS, hemp, h0, h1, h1'] at h ⊢
      exact h w (Fr.refl _ _)
    · have h1' : ¬ (32 : Int) < s.size := by omega
      simp [bin_eqlS, hemp, h0, h1, h1'] at h ⊢
      unfold M.span_Name.j0
      simp only [joinT_eq]
      rw [rg_str (isStrB_spec strT)]
      refine ⟨NameI w s, fun _ w1 => mIter s w.heap.size w1, ⟨0, by rw [alloc_heap, if_pos rfl], (Fr.refl _ w).alloc _, rfl⟩, ?_⟩
      rintro x w1 ⟨pos, hit, hf, hp⟩
      refine nx_str hit _ (fun he => ?_) fun hlt w2 hit2 hf2 => ?_
      · have hr : runesOk s 0 = true := by rw [← hp]; unfold runesOk; rw [dif_neg he]
        have e0 : ∀ w K, exT P (.tuple #[.bool false]) 0 w K = K (.bool false) w := fun _ _ => rfl
        simp [e0]
        have := h w1 hf
        simpa [hr] using this
      · simp
        unfold M.span_Name.j3
        simp
        have hr : runesOk s pos = (!badRune s pos && runesOk s (pos + (Utf8.decode s pos).2)) := by
          conv => lhs; unfold runesOk
          rw [dif_pos hlt]
        have F2 : Fr (fun _ => False) w w2 := hf.trans' hf2 fun g hg h' => by omega
        have hbad : badRune s pos = true → K (.int .i64 5) w2 := fun hb => by
          rw [hb, hp] at hr
          have := h w2 F2
          simpa [hr] using this
        have hgood : badRune s pos = false → ∀ xs, NameI w s xs w2 ∧ mIter s w.heap.size w2 < mIter s w.heap.size w1 := fun hb xs => by
          rw [hb, hp] at hr
          refine ⟨⟨_, hit2, F2, by rw [hr]; rfl⟩, ?_⟩
          have := decode_width s pos
          simp only [mIter, hit, hit2]; omega
        unfold badRune at hbad hgood
        generalize hc : (Utf8.decode s pos).1 = c at *
        clear hc
        have hsl : ∀ K, slT P T.string (.string s) (some (.int .i64 (pos : Int))) none none w2 K = K (.string (s.extract pos s.size)) w2 := fun K => sl_str strT (.inr ⟨_, rfl⟩) (.inl ⟨rfl, rfl⟩) (by omega) (Nat.le_refl _) w2 K
        have j4 : ∀ (b : Bool) (t14 : Value), b = (decide (c < 32) || (decide (127 ≤ c) && decide (c ≤ 159))) → M.span_Name.j4 [.bool b] (.int .i32 c) (.string s) (.int .i64 pos) (fun x' w' => NameI w s x' w' ∧ mIter s w.heap.size w' < mIter s w.heap.size w1) t14 x w2 K := by
          intro b t14 hb
          unfold M.span_Name.j4
          cases b with
          | true => simp at hb ⊢; exact hbad (by simp; omega)
          | false =>
            by_cases he : c = 65533
            · have he' : (c : Int) = 65533 := by omega
              simp [he', hsl]
              rw [M.strings_HasPrefix.fcall]
              refine hasPrefix_ok _ _ ?_
              have hx : hasPre (s.extract pos s.size) ⟨#[239, 191, 189]⟩ = hasPre (s.extract pos s.size) runeErr := rfl
              rw [hx]
              cases hq : hasPre (s.extract pos s.size) runeErr with
              | true => simp; exact hgood (by simp [he, hq]) _
              | false => simp; exact hbad (by simp [he, hq])
            · have he' : ¬ (c : Int) = 65533 := by omega
              simp [he']
              refine hgood ?_ _
              have : (decide (c < 32) || (decide (127 ≤ c) && decide (c ≤ 159))) = false := hb.symm
              simp [he] at this ⊢
              exact this
        by_cases h32 : c < 32
        · have h32' : (c : Int) < 32 := by omega
          simp [h32']
          exact j4 true _ (by simp [h32])
        · have h32' : ¬ (c : Int) < 32 := by omega
          by_cases h127 : 127 ≤ c
          · have h127' : (127 : Int) ≤ c := by omega
            by_cases h159 : c ≤ 159
            · have h159' : (c : Int) ≤ 159 := by omega
              simp [h32', h127', h159']
              exact j4 true _ (by simp [h32, h127, h159])
            · have h159' : ¬ (c : Int) ≤ 159 := by omega
              simp [h32', h127', h159']
              exact j4 false _ (by simp [h32, h127, h159])
          · have h127' : ¬ (127 : Int) ≤ c := by omega
            simp [h32', h127']
            exact j4 false _ (by simp [h32, h127])
end Go.Proofs.Ytkjhekflgghbdaa
set_option maxRecDepth 100000
namespace Go.Proofs.Ytkjhekflgghbdaa
open Go.Eng

structure Spn where
  trace : Int
  id : Int
  parent : Int
  start : Int
  len : Int
  service : ByteArray
  name : ByteArray
  fail : Bool
def encS (s : Spn) : List Value := [.int .u64 s.trace, .int .u64 s.id, .int .u64 s.parent, .int .u64 s.start, .int .u64 s.len, .string s.service, .string s.name, .bool s.fail]
def aggS (s : Spn) : Value := .agg #[.int .u64 s.trace, .int .u64 s.id, .int .u64 s.parent, .int .u64 s.start, .int .u64 s.len, .string s.service, .string s.name, .bool s.fail]
theorem encS_len (s : Spn) : (encS s).length = 8 := rfl
theorem encS_one (s : Spn) : ∀ u ∈ encS s, oneC u = true := fun u hu => by
  simp only [encS, List.mem_cons, List.not_mem_nil, or_false] at hu
  rcases hu with rfl | rfl | rfl | rfl | rfl | rfl | rfl | rfl <;> rfl

@[simp] theorem max_int (t1 t2 ty : TypeId) (cs : List Bool) (k : IntKind) (x y : Int) (w : World) (K : KV) : biT P .max #[t1, t2] ty cs [.int k x, .int k y] w K = K (.int k (max x y)) w := by
  have : (if x < y then y else x) = max x y := by split <;> omega
  simp [biT, nextT, builtin, Builtin.max_, Builtin.max2, Sem.run_bind, Result.andThen, Sem.run_pure, this]
@[simp] theorem min_int (t1 t2 ty : TypeId) (cs : List Bool) (k : IntKind) (x y : Int) (w : World) (K : KV) : biT P .min #[t1, t2] ty cs [.int k x, .int k y] w K = K (.int k (min x y)) w := by
  have : (if y < x then y else x) = min x y := by split <;> omega
  simp [biT, nextT, builtin, Builtin.min_, Builtin.min2, Sem.run_bind, Result.andThen, Sem.run_pure, this]

/-! ### The first kind that is not OK -/
def encK (k : Int) : List Value := [.int .i64 k]
def orK (l : List Int) : Int := (l.find? fun k => !decide (k = 0)).getD 0
def OrI (w : World) (l : List Int) : KL := fun x w1 => ∃ (a b : Value) (i : Nat), x = [a, b, .int .i64 (i : Nat)] ∧ w1 = w ∧ i ≤ l.length ∧ ∀ (j : Nat) k, l[j]? = some k → j < i → k = 0
theorem or_ok {w : World} {v : Value} {l : List Int} (hs : Sl w 1 encK v l) (hlen : l.length ≤ 1000) {K : KV} (h : K (.int .i64 (orK l)) w) : callT P F.cmp_Or_api_Kind [v] w K := by
  apply M.cmp_Or_api_Kind.calls
  unfold M.cmp_Or_api_Kind
  simp only [joinT_eq]
  rw [hs.len_ok (by simp)]
  refine ⟨OrI w l, fun x _ => l.length - ms x 2, ⟨_, _, 0, rfl, rfl, Nat.zero_le _, fun j k _ h => by omega⟩, ?_⟩
  rintro x w1 ⟨a, b, i, rfl, rfl, hi, hz⟩
  have gv2 : gv [a, b, .int .i64 (i : Int)] 2 = .int .i64 (i : Int) := rfl
  simp only [gv2]
  by_cases hil : i < l.length
  · obtain ⟨bb, o, cap, rfl, hb, _, hr⟩ := hs.at hil
    have e0 := hr 0 _ rfl
    simp only [Nat.mul_one, Nat.add_zero] at e0
    have hw : IntKind.i64.wrap ((i : Int) + 1) = ((i + 1 : Nat) : Int) := by rw [wrap_id (by omega) (by omega)]; rfl
    simp [hil]
    unfold M.cmp_Or_api_Kind.j2
    simp only [joinT_eq, gv2]
    by_cases hk : l[i] = 0
    · simp [hil, e0, hk, hw]
      refine ⟨⟨_, _, i + 1, rfl, rfl, by omega, fun j k hj hlt => ?_⟩, by simp [ms, gv]; omega⟩
      by_cases hji : j = i
      · subst hji
        rw [List.getElem?_eq_getElem hil] at hj
        cases hj; exact hk
      · exact hz j k hj (by omega)
    · simp [hil, e0, hk]
      have : orK l = l[i] := by
        unfold orK
        have : l.find? (fun k => !decide (k = 0)) = some l[i] := by
          rw [List.find?_eq_some_iff_getElem]
          refine ⟨by simpa using hk, i, hil, rfl, fun j hj => ?_⟩
          have := hz j _ (List.getElem?_eq_getElem (by omega)) hj
          simp [this]
        rw [this]; rfl
      rw [this] at h; exact h
  · simp [hil]
    have : orK l = 0 := by
      unfold orK
      have : l.find? (fun k => !decide (k = 0)) = none := by
        rw [List.find?_eq_none]
        intro k hk
        obtain ⟨j, hj, rfl⟩ := List.mem_iff_getElem.1 hk
        have := hz j _ (List.getElem?_eq_getElem hj) (by omega)
        simp [this]
      rw [this]; rfl
    rw [this] at h; exact h

def rightK (s : Spn) : Int := if s.trace = 0 ∨ s.id = 0 ∨ 1099511627776 < max s.start s.len then 1 else orK [nameK s.service, nameK s.name]
theorem right_ok {w : World} (s : Spn) {K : KV} (h : ∀ w', Fr (fun _ => False) w w' → K (.int .i64 (rightK s)) w') : callT P F.span_Right [aggS s] w K := by
  apply M.span_Right.calls
  unfold M.span_Right aggS
  simp only [joinT_eq, box_eq, cells_agg]
  generalize hwa : w.alloc (.cells #[.int .u64 s.trace, .int .u64 s.id, .int .u64 s.parent, .int .u64 s.start, .int .u64 s.len, .string s.service, .string s.name, .bool s.fail] T.api_Span) = wa
  have hb : wa.heap[w.heap.size]? = some (.cells #[.int .u64 s.trace, .int .u64 s.id, .int .u64 s.parent, .int .u64 s.start, .int .u64 s.len, .string s.service, .string s.name, .bool s.fail] T.api_Span (0, 0)) := by rw [← hwa, alloc_heap, if_pos rfl]
  have hf : Fr (fun _ => False) w wa := by rw [← hwa]; exact (Fr.refl _ w).alloc _
  have c0 := cellOf_of hb 0
  have c1 := cellOf_of hb 1
  have c3 := cellOf_of hb 3
  have c4 := cellOf_of hb 4
  have c5 := cellOf_of hb 5
  have c6 := cellOf_of hb 6
  simp at c0 c1 c3 c4 c5 c6
  unfold rightK at h
  by_cases h0 : s.trace = 0
  · simp [c0, h0] at h ⊢
    exact h wa hf
  · by_cases h1 : s.id = 0
    · simp [c0, c1, h0, h1] at h ⊢
      exact h wa hf
    · by_cases h2 : 1099511627776 < max s.start s.len
      · simp [c0, c1, c3, c4, h0, h1, h2] at h ⊢
        exact h wa hf
      · simp [c0, c1, c3, c4, h0, h1, h2] at h ⊢
        unfold M.span_Right.j0
        simp [c5, c6]
        rw [M.span_Name.fcall]
        refine name_ok _ fun w2 f2 => ?_
        have f2' : Fr (fun _ => False) wa w2 := ⟨f2.size, f2.keep, f2.tape, f2.os, f2.output⟩
        have d6 : cellOf w2 w.heap.size 6 = some (.string s.name) := by rw [cellOf_heap (f2'.keep _ (heap_lt hb) fun h => h)]; exact c6
        simp [d6]
        rw [M.span_Name.fcall]
        refine name_ok _ fun w3 f3 => ?_
        simp
        rw [M.cmp_Or_api_Kind.fcall]
        have hsl : Sl (w3.alloc (.cells #[.int .i64 (nameK s.service), .int .i64 (nameK s.name)] T.api_Kind)) 1 encK (.slice (some ⟨w3.heap.size, 0, none⟩) 2 2) [nameK s.service, nameK s.name] := by
          refine ⟨_, 2, rfl, Nat.le_refl _, by decide, fun i x hi => ⟨_, 0, rfl, by simp, fun j u hu => ?_⟩⟩
          rw [cellOf_new rfl]
          match i with
          | 0 => simp at hi; subst hi; match j with
            | 0 => simpa [encK] using hu
            | j + 1 => simp [encK] at hu
          | 1 => simp at hi; subst hi; match j with
            | 0 => simpa [encK] using hu
            | j + 1 => simp [encK] at hu
          | i + 2 => simp at hi
        exact or_ok hsl (by simp) (h _ (((hf.trans f2').trans f3).alloc _))
end Go.Proofs.Ytkjhekflgghbdaa
set_option maxRecDepth 100000
namespace Go.Proofs.Ytkjhekflgghbdaa
open Go.Eng

structure Cfg where
  traces : Nat
  spans : Nat
  wait : Int
/-- What a buffer has of a trace. -/
structure AE where
  t : Int
  l : List Spn
  over : Bool
/-- .. and where. -/
structure Ent where
  t : Int
  p : Nat
  v : Value
  l : List Spn
  over : Bool
def Ent.abs (e : Ent) : AE := ⟨e.t, e.l, e.over⟩
def Ent.ptr (e : Ent) : Value := .pointer (some ⟨e.p, 0, none⟩)
abbrev OwS (w : World) (base : Nat) (v : Value) (l : List Spn) : Prop := Ow w base T.api_Span 8 encS v l
abbrev SlS (w : World) (v : Value) (l : List Spn) : Prop := Sl w 8 encS v l

@[reducible] def bufE (g : Cfg) (r : Nat) : HE := ⟨T.buffer_Buffer, [.int .i64 g.traces, .int .i64 g.spans, .int .u64 g.wait, .map (some r)], by decide, by decide⟩
abbrev HpB (g : Cfg) (r : Nat) (w : World) (hb : Nat) (O : Nat → Prop) (c : CT) : Prop := @Hp (bufE g r) w hb O c

structure BufI (w : World) (hb : Nat) (g : Cfg) (O : Nat → Prop) (r : Nat) (m : MP) (es : List Ent) (c : CT) : Prop where
  hp : HpB g r w hb O c
  mp : MapAt w r .u64 m
  mn : (mkeys m).Nodup
  ml : m.length = es.length
  mg : ∀ e ∈ es, mget m e.t = some e.ptr
  mz : ∀ k, (∀ e ∈ es, e.t ≠ k) → mget m k = none
  tn : (es.map Ent.t).Nodup
  pn : (es.map Ent.p).Nodup
  blk : ∀ e ∈ es, w.heap[e.p]? = some (.cells #[e.v, .bool e.over] T.buffer_entry (0, 0))
  row : ∀ e ∈ es, OwS w 0 e.v e.l
  rn : ∀ e ∈ es, ∀ e' ∈ es, ∀ x, e.v.ownBlock = some x → e'.v.ownBlock = some x → e.t = e'.t
  nr : ¬ O r
  np : ∀ e ∈ es, ¬ O e.p
  nv : ∀ e ∈ es, ∀ x, e.v.ownBlock = some x → ¬ O x
  ck : (ckeys c).Perm (es.map Ent.t)

/-- The blocks of a buffer. -/
def fpB (O : Nat → Prop) (r : Nat) (es : List Ent) (b : Nat) : Prop := O b ∨ b = r ∨ ∃ e ∈ es, e.p = b ∨ e.v.ownBlock = some b

/-- A buffer at block hb, whose memory lies in B: what it has, and when each trace is due. -/
structure Buf (w : World) (hb : Nat) (g : Cfg) (B : Nat → Prop) (A : List AE) (c : CT) : Prop where
  ex : ∃ O r m es, A = es.map Ent.abs ∧ BufI w hb g O r m es c ∧ ∀ b, fpB O r es b → B b
  lt : ∀ b, B b → b < w.heap.size

theorem BufI.lt {w : World} {hb : Nat} {g : Cfg} {O : Nat → Prop} {r : Nat} {m : MP} {es : List Ent} {c : CT} (I : BufI w hb g O r m es c) {b : Nat} (h : fpB O r es b) : b < w.heap.size := by
  rcases h with h | rfl | ⟨e, he, rfl | h⟩
  · exact @Hp.lt (bufE g r) _ _ _ _ I.hp b h
  · exact I.mp.lt
  · exact heap_lt (I.blk e he)
  · exact ((I.row e he).lt h).2

theorem BufI.keep {w w' : World} {hb : Nat} {g : Cfg} {O : Nat → Prop} {r : Nat} {m : MP} {es : List Ent} {c : CT} {S : Nat → Prop} (I : BufI w hb g O r m es c) (hf : Fr S w w') (hd : ∀ b, fpB O r es b → ¬ S b) : BufI w' hb g O r m es c :=
  { I with
    hp := @Hp.keep (bufE g r) _ _ _ _ _ _ I.hp hf fun b hb => hd b (.inl hb)
    mp := I.mp.of_heap (hf.keep r I.mp.lt (hd r (.inr (.inl rfl))))
    blk := fun e he => hf.heap (I.blk e he) (hd _ (.inr (.inr ⟨e, he, .inl rfl⟩)))
    row := fun e he => (I.row e he).fr hf fun x hx => hd x (.inr (.inr ⟨e, he, .inr hx⟩)) }

theorem Buf.keep {w w' : World} {hb : Nat} {g : Cfg} {B : Nat → Prop} {A : List AE} {c : CT} {S : Nat → Prop} (I : Buf w hb g B A c) (hf : Fr S w w') (hd : ∀ b, B b → ¬ S b) : Buf w' hb g B A c := by
  obtain ⟨⟨O, r, m, es, hA, I1, hB⟩, lt⟩ := I
  exact ⟨⟨O, r, m, es, hA, I1.keep hf fun b hb => hd b (hB b hb), hB⟩, fun b hb => Nat.lt_of_lt_of_le (lt b hb) hf.size⟩

/-- The heap of a buffer has turned. -/
theorem BufI.heap {w w' : World} {hb : Nat} {g : Cfg} {O O' : Nat → Prop} {r : Nat} {m : MP} {es : List Ent} {c c' : CT} (I : BufI w hb g O r m es c) (hf : Fr O w w') (H : HpB g r w' hb O' c') (hO : ∀ b, O' b → O b ∨ w.heap.size ≤ b) (hk : (ckeys c').Perm (es.map Ent.t)) : BufI w' hb g O' r m es c' :=
  { I with
    hp := H
    mp := I.mp.of_heap (hf.keep r I.mp.lt I.nr)
    blk := fun e he => hf.heap (I.blk e he) (I.np e he)
    row := fun e he => (I.row e he).fr hf fun x hx => I.nv e he x hx
    nr := fun h => (hO r h).elim I.nr fun h => by have := I.mp.lt; omega
    np := fun e he h => (hO _ h).elim (I.np e he) fun h => by have := heap_lt (I.blk e he); omega
    nv := fun e he x hx h => (hO _ h).elim (I.nv e he x hx) fun h => by have := ((I.row e he).lt hx).2; omega
    ck := hk }

/-- The fields of a buffer. -/
theorem BufI.cells {w : World} {hb : Nat} {g : Cfg} {O : Nat → Prop} {r : Nat} {m : MP} {es : List Ent} {c : CT} (I : BufI w hb g O r m es c) :
    cellOf w hb 2 = some (.int .i64 g.traces) ∧ cellOf w hb 3 = some (.int .i64 g.spans) ∧ cellOf w hb 4 = some (.int .u64 g.wait) ∧ cellOf w hb 5 = some (.map (some r)) := by
  letI : HE := bufE g r
  obtain ⟨v, mv, its, hI, _⟩ := Hp.ex I.hp
  have hb' := hI.hl.blk
  unfold hbk at hb'
  exact ⟨by rw [cellOf_of hb']; rfl, by rw [cellOf_of hb']; rfl, by rw [cellOf_of hb']; rfl, by rw [cellOf_of hb']; rfl⟩
theorem BufI.ohb {w : World} {hb : Nat} {g : Cfg} {O : Nat → Prop} {r : Nat} {m : MP} {es : List Ent} {c : CT} (I : BufI w hb g O r m es c) : O hb := by
  obtain ⟨v, mv, its, _, _, h, _⟩ := @Hp.ex (bufE g r) _ _ _ _ I.hp
  exact h

/-! ### New -/
theorem new_ok {w : World} (traces spans wait : Int) {K : KV} (h0 : (traces < 1 ∨ 64 < traces ∨ spans < 1 ∨ 16 < spans ∨ 1099511627776 < wait) → K (.tuple #[.pointer none, .int .i64 1]) w)
    (h1 : ∀ (g : Cfg) w', traces = g.traces → spans = g.spans → wait = g.wait → 1 ≤ g.traces → g.traces ≤ 64 → 1 ≤ g.spans → g.spans ≤ 16 → g.wait ≤ 1099511627776 → Buf w' (w.heap.size + 1) g (fun b => b = w.heap.size ∨ b = w.heap.size + 1) [] [] → Fr (fun _ => False) w w' → K (.tuple #[.pointer (some ⟨w.heap.size + 1, 0, none⟩), .int .i64 0]) w') :
    callT P F.buffer_New [.int .i64 traces, .int .i64 spans, .int .u64 wait] w K := by
  apply M.buffer_New.calls
  unfold M.buffer_New
  simp only [joinT_eq]
  by_cases a1 : traces < 1
  · simp [a1]; exact h0 (.inl a1)
  by_cases a2 : 64 < traces
  · simp [a1, a2]; exact h0 (.inr (.inl a2))
  by_cases a3 : spans < 1
  · simp [a1, a2, a3]; exact h0 (.inr (.inr (.inl a3)))
  by_cases a4 : 16 < spans
  · simp [a1, a2, a3, a4]; exact h0 (.inr (.inr (.inr (.inl a4))))
  by_cases a5 : 1099511627776 < wait
  · simp [a1, a2, a3, a4, a5]; exact h0 (.inr (.inr (.inr (.inr a5))))
  simp [a1, a2, a3, a4, a5]
  rw [mkm_eq]
  simp
  obtain ⟨n, rfl⟩ : ∃ n : Nat, traces = n := ⟨traces.toNat, by omega⟩
  obtain ⟨k, rfl⟩ : ∃ n : Nat, spans = n := ⟨spans.toNat, by omega⟩
  have hm := MapAt_new w .u64
  refine h1 ⟨n, k, wait⟩ _ rfl rfl rfl (by simp; omega) (by simp; omega) (by simp; omega) (by simp; omega) (by simp; omega) ⟨⟨fun b => b = w.heap.size + 1, w.heap.size, [], [], rfl, ⟨?_, ?_, by simp [mkeys], rfl, fun e he => by (cases he), fun k _ => rfl, by simp, by simp, fun e he => by (cases he), fun e he => by (cases he), fun e he => by (cases he), by omega, fun e he => by (cases he), fun e he => by (cases he), by simp [ckeys]⟩, fun b hb => ?_⟩, fun b hb => ?_⟩ (((Fr.refl _ w).alloc _).alloc _)
  · refine @Hp.new (bufE ⟨n, k, wait⟩ w.heap.size) _ _ ?_
    rw [alloc_heap]
    simp
    rfl
  · exact hm.of_heap (by rw [alloc_heap, if_neg (by simp)])
  · rcases hb with h | h | ⟨e, he, _⟩
    · exact .inr h
    · exact .inl h
    · cases he
  · simp; omega
end Go.Proofs.Ytkjhekflgghbdaa
set_option maxRecDepth 100000
namespace Go.Proofs.Ytkjhekflgghbdaa
open Go.Eng

/-- The box of a span. -/
def boxS (w : World) (b : Nat) (s : Spn) : Prop := w.heap[b]? = some (.cells #[.int .u64 s.trace, .int .u64 s.id, .int .u64 s.parent, .int .u64 s.start, .int .u64 s.len, .string s.service, .string s.name, .bool s.fail] T.api_Span (0, 0))
theorem box_agg (s : Spn) (w : World) (K : KV) : boxT P T.api_Span (aggS s) w K = K (.pointer (some ⟨w.heap.size, 0, none⟩)) (w.alloc (.cells #[.int .u64 s.trace, .int .u64 s.id, .int .u64 s.parent, .int .u64 s.start, .int .u64 s.len, .string s.service, .string s.name, .bool s.fail] T.api_Span)) := by
  rw [box_eq]; rfl
theorem boxS_new (w : World) (s : Spn) : boxS (w.alloc (.cells #[.int .u64 s.trace, .int .u64 s.id, .int .u64 s.parent, .int .u64 s.start, .int .u64 s.len, .string s.service, .string s.name, .bool s.fail] T.api_Span)) w.heap.size s := by
  unfold boxS; rw [alloc_heap, if_pos rfl]
theorem boxS_at {w : World} {b : Nat} {s : Spn} (h : boxS w b s) : ∀ k v, (encS s)[k]? = some v → cellOf w b k = some v := fun k v hk => by
  rw [cellOf_of h]
  have : (#[.int .u64 s.trace, .int .u64 s.id, .int .u64 s.parent, .int .u64 s.start, .int .u64 s.len, .string s.service, .string s.name, .bool s.fail] : Array Value) = (encS s).toArray := rfl
  rw [this]; simpa using hk
theorem ldS {w : World} {b i : Nat} {s : Spn} (h : ∀ k v, (encS s)[k]? = some v → cellOf w b (i + k) = some v) (K : KV) : ldN P 8 b i w K = K (aggS s) w := ldN_eq (encS s) 8 rfl h K

theorem clos_ok {w : World} {sb : Nat} (x : Spn) {id : Int} (hc : cellOf w sb 1 = some (.int .u64 id)) (hlt : sb < w.heap.size) {K : KV} (h : ∀ w', Fr (fun _ => False) w w' → K (.bool (decide (x.id = id))) w') : callT P F.pbuffer_Buffer_Put_1 [aggS x, .pointer (some ⟨sb, 0, none⟩)] w K := by
  apply M.pbuffer_Buffer_Put_1.calls
  unfold M.pbuffer_Buffer_Put_1
  rw [box_agg]
  generalize hwa : w.alloc (.cells #[.int .u64 x.trace, .int .u64 x.id, .int .u64 x.parent, .int .u64 x.start, .int .u64 x.len, .string x.service, .string x.name, .bool x.fail] T.api_Span) = wa
  have hb : boxS wa w.heap.size x := by rw [← hwa]; exact boxS_new w x
  have hf : Fr (fun _ => False) w wa := by rw [← hwa]; exact (Fr.refl _ w).alloc _
  have c1 := boxS_at hb 1 _ rfl
  have d1 : cellOf wa sb 1 = some (.int .u64 id) := by rw [cellOf_heap (hf.keep sb hlt fun h => h)]; exact hc
  simp [c1, d1]
  exact h wa hf

def IdxI (w : World) (l : List Spn) (id : Int) : KL := fun x w1 => ∃ (a b : Value) (i : Nat), x = [a, b, .int .i64 (i : Nat)] ∧ Fr (fun _ => False) w w1 ∧ i ≤ l.length ∧ ∀ (j : Nat) s, l[j]? = some s → j < i → s.id ≠ id
theorem contains_ok {w : World} {v : Value} {l : List Spn} (hs : SlS w v l) (hlen : l.length ≤ 1000000) {sb : Nat} {id : Int} (hc : cellOf w sb 1 = some (.int .u64 id)) (hlt : sb < w.heap.size) {K : KV}
    (h : ∀ w', Fr (fun _ => False) w w' → K (.bool (l.any fun s => decide (s.id = id))) w') : callT P F.slices_ContainsFunc_api_Span_api_Span [v, .func (.func F.pbuffer_Buffer_Put_1) [].toArray [.pointer (some ⟨sb, 0, none⟩)].toArray] w K := by
  apply M.slices_ContainsFunc_api_Span_api_Span.calls
  unfold M.slices_ContainsFunc_api_Span_api_Span
  rw [M.slices_IndexFunc_api_Span_api_Span.fcall]
  apply M.slices_IndexFunc_api_Span_api_Span.calls
  unfold M.slices_IndexFunc_api_Span_api_Span
  simp only [joinT_eq]
  rw [hs.len_ok (by simp)]
  refine ⟨IdxI w l id, fun x _ => l.length - ms x 2, ⟨_, _, 0, rfl, Fr.refl _ _, Nat.zero_le _, fun j k _ h => by omega⟩, ?_⟩
  rintro x w1 ⟨a, b, i, rfl, f1, hi, hz⟩
  have gv2 : gv [a, b, .int .i64 (i : Int)] 2 = .int .i64 (i : Int) := rfl
  simp only [gv2]
  have hs1 : SlS w1 v l := hs.fr f1 fun _ _ _ h => h
  by_cases hil : i < l.length
  · obtain ⟨bb, o, cap, rfl, hb, _, hr⟩ := hs1.at hil
    have hw : IntKind.i64.wrap ((i : Int) + 1) = ((i + 1 : Nat) : Int) := by rw [wrap_id (by omega) (by omega)]; rfl
    simp [hil]
    unfold M.slices_IndexFunc_api_Span_api_Span.j2
    simp only [joinT_eq, gv2]
    simp [hil]
    rw [ldS hr]
    have hcv := M.pbuffer_Buffer_Put_1.rcall [] [.pointer (some ⟨sb, 0, none⟩)] [aggS l[i]] w1
    simp only [List.nil_append, List.cons_append] at hcv
    rw [hcv]
    refine clos_ok l[i] (id := id) (by rw [cellOf_heap (f1.keep sb hlt fun h => h)]; exact hc) (Nat.lt_of_lt_of_le hlt f1.size) fun w2 f2 => ?_
    by_cases hk : l[i].id = id
    · simp [hk]
      have : (l.any fun s => decide (s.id = id)) = true := List.any_eq_true.2 ⟨l[i], List.getElem_mem hil, by simpa using hk⟩
      have hh := h w2 (f1.trans f2)
      rw [this] at hh; exact hh
    · simp [hk, hw]
      refine ⟨⟨_, _, i + 1, rfl, f1.trans f2, by omega, fun j s hj hlt => ?_⟩, by simp [ms, gv]; omega⟩
      by_cases hji : j = i
      · subst hji
        rw [List.getElem?_eq_getElem hil] at hj
        cases hj; exact hk
      · exact hz j s hj (by omega)
  · simp [hil]
    have : (l.any fun s => decide (s.id = id)) = false := by
      rw [List.any_eq_false]
      intro s hs
      obtain ⟨j, hj, rfl⟩ := List.mem_iff_getElem.1 hs
      have := hz j _ (List.getElem?_eq_getElem hj) (by omega)
      simpa using this
    have hh := h w1 f1
    rw [this] at hh; exact hh
end Go.Proofs.Ytkjhekflgghbdaa
set_option maxRecDepth 100000
namespace Go.Proofs.Ytkjhekflgghbdaa
open Go.Eng

theorem map_ne {w : World} {r b : Nat} {k : IntKind} {m : MP} (h : MapAt w r k m) {c : Array Value} {e : TypeId} {f : Nat × Nat} (hb : w.heap[b]? = some (.cells c e f)) : r ≠ b := by
  obtain ⟨es, clk, hr, _⟩ := h
  exact fun he => by rw [he, hb] at hr; cases hr
theorem row_elem {w : World} {base : Nat} {v : Value} {l : List Spn} (h : OwS w base v l) {x : Nat} (hx : v.ownBlock = some x) : ∃ cur, w.heap[x]? = some (.cells cur T.api_Span (0, 0)) := by
  obtain ⟨cap, cur, _, _, hb, _⟩ := row_at h hx
  exact ⟨cur, hb⟩

/-- One entry has turned. -/
theorem BufI.upd {w w' : World} {hb : Nat} {g : Cfg} {O : Nat → Prop} {r : Nat} {m : MP} {es : List Ent} {c : CT} (I : BufI w hb g O r m es c) {e e' : Ent} (he : e ∈ es) (ht : e'.t = e.t) (hp : e'.p = e.p) {S : Nat → Prop} (hf : Fr S w w') (hS : ∀ b, S b → b = e.p ∨ e.v.ownBlock = some b)
    (hbk : w'.heap[e.p]? = some (.cells #[e'.v, .bool e'.over] T.buffer_entry (0, 0))) (ho : OwS w' 0 e'.v e'.l) (hn : ∀ x, e'.v.ownBlock = some x → e.v.ownBlock = some x ∨ w.heap.size ≤ x) : BufI w' hb g O r m (es.map fun x => if x.t = e.t then e' else x) c := by
  have inj : ∀ x ∈ es, x.t = e.t → x = e := fun x hx h => nodup_map_inj I.tn hx he h
  have hts : (es.map fun x => if x.t = e.t then e' else x).map Ent.t = es.map Ent.t := by
    rw [List.map_map]
    refine List.map_congr_left fun x hx => ?_
    show (if x.t = e.t then e' else x).t = x.t
    split
    · rename_i h; rw [ht, h]
    · rfl
  have hps : (es.map fun x => if x.t = e.t then e' else x).map Ent.p = es.map Ent.p := by
    rw [List.map_map]
    refine List.map_congr_left fun x hx => ?_
    show (if x.t = e.t then e' else x).p = x.p
    split
    · rename_i h; rw [hp, inj x hx h]
    · rfl
  have hmem : ∀ y ∈ (es.map fun x => if x.t = e.t then e' else x), y = e' ∨ (y ∈ es ∧ y.t ≠ e.t) := fun y hy => by
    obtain ⟨x, hx, rfl⟩ := List.mem_map.1 hy
    split
    · exact .inl rfl
    · rename_i h; exact .inr ⟨hx, h⟩
  have nS : ∀ x ∈ es, x.t ≠ e.t → ¬ S x.p ∧ ∀ b, x.v.ownBlock = some b → ¬ S b := fun x hx hne => by
    refine ⟨fun h => ?_, fun b hxb h => ?_⟩
    · rcases hS _ h with h | h
      · exact hne (by rw [nodup_map_inj I.pn hx he h])
      · obtain ⟨cur, hc⟩ := row_elem (I.row e he) h
        exact ne_of_elem hc (I.blk x hx) (by decide) rfl
    · rcases hS _ h with h | h
      · obtain ⟨cur, hc⟩ := row_elem (I.row x hx) hxb
        rw [h] at hc
        exact ne_of_elem hc (I.blk e he) (by decide) rfl
      · exact hne (I.rn x hx e he b hxb h)
  refine ⟨@Hp.keep (bufE g r) _ _ _ _ _ _ I.hp hf fun b hb h => ?_, I.mp.of_heap (hf.keep r I.mp.lt fun h => ?_), I.mn, by rw [List.length_map]; exact I.ml, fun y hy => ?_, fun k hk => I.mz k fun x hx => ?_, by rw [hts]; exact I.tn, by rw [hps]; exact I.pn, fun y hy => ?_, fun y hy => ?_, fun y hy y' hy' x h h' => ?_, I.nr, fun y hy => ?_, fun y hy x hx => ?_, by rw [hts]; exact I.ck⟩
  · rcases hS b h with h | h
    · exact I.np e he (h ▸ hb)
    · exact I.nv e he b h hb
  · rcases hS r h with h | h
    · exact map_ne I.mp (I.blk e he) h
    · obtain ⟨cur, hc⟩ := row_elem (I.row e he) h
      exact map_ne I.mp hc rfl
  · rcases hmem y hy with rfl | ⟨hy, hne⟩
    · have : y.ptr = e.ptr := by unfold Ent.ptr; rw [hp]
      rw [ht, this]; exact I.mg e he
    · exact I.mg y hy
  · have : (if x.t = e.t then e' else x) ∈ (es.map fun x => if x.t = e.t then e' else x) := List.mem_map_of_mem hx
    have h := hk _ this
    split at h
    · rename_i h2; rw [ht] at h; rw [h2]; exact h
    · exact h
  · rcases hmem y hy with rfl | ⟨hy, hne⟩
    · rw [hp]; exact hbk
    · exact hf.heap (I.blk y hy) (nS y hy hne).1
  · rcases hmem y hy with rfl | ⟨hy, hne⟩
    · exact ho
    · exact (I.row y hy).fr hf (nS y hy hne).2
  · rcases hmem y hy with h1 | ⟨h1, hne⟩ <;> rcases hmem y' hy' with h2 | ⟨h2, hne'⟩
    · rw [h1, h2]
    · rw [h1, ht]
      rw [h1] at h
      rcases hn x h with h | h
      · exact (I.rn e he y' h2 x h h')
      · have := ((I.row y' h2).lt h').2; omega
    · rw [h2, ht]
      rw [h2] at h'
      rcases hn x h' with h' | h'
      · exact (I.rn y h1 e he x h h')
      · have := ((I.row y h1).lt h).2; omega
    · exact I.rn y h1 y' h2 x h h'
  · rcases hmem y hy with rfl | ⟨hy, hne⟩
    · rw [hp]; exact I.np e he
    · exact I.np y hy
  · rcases hmem y hy with rfl | ⟨hy, hne⟩
    · rcases hn x hx with h | h
      · exact I.nv e he x h
      · intro hO; have := @Hp.lt (bufE g r) _ _ _ _ I.hp x hO; omega
    · exact I.nv y hy x hx

theorem bs_agg (s : Spn) (w : World) (K : KV) : bsT P T.sl_api_Span 1 #[(0, aggS s)] w K = K (.slice (some ⟨w.heap.size, 0, none⟩) 1 1) (w.alloc (.cells #[.int .u64 s.trace, .int .u64 s.id, .int .u64 s.parent, .int .u64 s.start, .int .u64 s.len, .string s.service, .string s.name, .bool s.fail] T.api_Span)) := by
  unfold aggS; simp
/-- The last part of Put: the span is appended. -/
theorem put_end {w : World} {hb : Nat} {g : Cfg} {O : Nat → Prop} {r : Nat} {m : MP} {es : List Ent} {c : CT} (I : BufI w hb g O r m es c) {e : Ent} (he : e ∈ es) (hlen : e.l.length ≤ 1000) {sb : Nat} {s : Spn} (hbx : boxS w sb s) {x2 : List Value} (h3 : gv x2 3 = e.ptr) {K : KV}
    (h : ∀ w' v', BufI w' hb g O r m (es.map fun x => if x.t = e.t then { e with v := v', l := e.l ++ [s] } else x) c → Fr (fun b => b = e.p ∨ e.v.ownBlock = some b) w w' → (∀ x, v'.ownBlock = some x → e.v.ownBlock = some x ∨ w.heap.size ≤ x) → K (.int .i64 0) w') : M.pbuffer_Buffer_Put.j2 x2 (.pointer (some ⟨sb, 0, none⟩)) w K := by
  unfold M.pbuffer_Buffer_Put.j2
  have e1 : e.ptr = .pointer (some ⟨e.p, 0, none⟩) := rfl
  have hbk := I.blk e he
  obtain ⟨c0, c1⟩ := cells2 hbk
  simp only [drawT_eq, h3, e1, quietT_eq]
  have hS := boxS_at hbx
  have hld : ∀ (n : Nat) (K : KV), ldN P 8 sb 0 (dr w n) K = K (aggS s) (dr w n) := fun n K => ldS (fun k v hk => by rw [Nat.zero_add]; exact hS k v hk) K
  simp [c0, hld]
  rw [bs_agg]
  generalize hwa : (dr w 1).alloc (.cells #[.int .u64 s.trace, .int .u64 s.id, .int .u64 s.parent, .int .u64 s.start, .int .u64 s.len, .string s.service, .string s.name, .bool s.fail] T.api_Span) = wa
  have hfa : Fr (fun _ => False) w wa := by rw [← hwa]; exact ((Fr.refl _ w).dr 1).alloc _
  have hlit : SlS wa (.slice (some ⟨w.heap.size, 0, none⟩) 1 1) [s] := by
    have := Sl.one (w := dr w 1) (w' := wa) (x := s) (enc := encS) (sz := 8) hwa.symm rfl
    exact this
  have hbka := hfa.heap hbk fun h => h
  obtain ⟨d0, d1⟩ := cells2 hbka
  have hld1 : ∀ K, ld1 P e.p 0 wa K = K e.v wa := fun K => ld1_eq d0 K
  rw [hld1]
  refine ⟨⟨rfl, rfl⟩, ?_⟩
  have hsz := hfa.size
  refine app_sl et.sl_api_Span encS_len encS_one ((I.row e he).fr hfa fun _ _ h => h) hlit (by simp; omega) (by decide) (Nat.zero_le _) _ fun v3 w3 o3 f3 g3 => ?_
  have hep : ∀ x, e.v.ownBlock = some x → e.p ≠ x := fun x hx hpx => by
    obtain ⟨cur, hc⟩ := row_elem (I.row e he) hx
    rw [← hpx] at hc
    exact ne_of_elem hc hbk (by decide) rfl
  have hbk3 := f3.heap hbka fun h => hep _ h rfl
  have f13 : Fr (fun b => b = e.p ∨ e.v.ownBlock = some b) w w3 := (hfa.mono fun _ _ h => h.elim).trans' f3 fun b _ h => .inr h
  have hn3 : ∀ x, v3.ownBlock = some x → e.v.ownBlock = some x ∨ w.heap.size ≤ x := fun x hx => by
    rcases g3 with g3 | ⟨y, e1, e2⟩
    · rw [hx] at g3; exact .inl g3.symm
    · rw [hx] at e1; cases e1; exact .inr (by omega)
  obtain ⟨a3, cap3, hv3, _⟩ := o3.len
  have k0 : (cellOf w3 e.p 0).isSome = true := by rw [cellOf_of hbk3]; rfl
  have kf := frzOf_of hbk3 0
  have hst : ∀ K1 : KV, K1 undef (w3.setCell ⟨e.p, 0, none⟩ v3) → stT P T.sl_api_Span (.pointer (some ⟨e.p, 0, none⟩)) v3 w3 K1 := fun K1 hk => by
    subst hv3
    simpa [k0, kf] using hk
  refine hst _ (h _ v3 (I.upd he (e' := { e with v := v3, l := e.l ++ [s] }) rfl rfl (f13.setCell (.inl (.inl rfl)) 0 v3) (fun b h => h) ?_ ?_ hn3) (f13.setCell (.inl (.inl rfl)) 0 v3) hn3)
  · rw [setCell_at hbk3]; rfl
  · refine o3.keep fun x hx => ?_
    rw [setCell_ne]
    intro hpx
    obtain ⟨_, cur, _, _, hc, _⟩ := row_at o3 hx
    rw [← hpx] at hc
    exact ne_of_elem hc hbk3 (by decide) rfl

/-- A buffer's entry of a trace. -/
theorem BufI.find {w : World} {hb : Nat} {g : Cfg} {O : Nat → Prop} {r : Nat} {m : MP} {es : List Ent} {c : CT} (I : BufI w hb g O r m es c) (k : Int) : (mget m k = none ∧ ∀ e ∈ es, e.t ≠ k) ∨ ∃ e ∈ es, e.t = k ∧ mget m k = some e.ptr := by
  by_cases h : ∃ e ∈ es, e.t = k
  · obtain ⟨e, he, rfl⟩ := h
    exact .inr ⟨e, he, rfl, I.mg e he⟩
  · have : ∀ e ∈ es, e.t ≠ k := fun e he hk => h ⟨e, he, hk⟩
    exact .inl ⟨I.mz k this, this⟩

/-- A new trace, of which there is nothing yet. -/
theorem BufI.push {w w' : World} {hb : Nat} {g : Cfg} {O O' : Nat → Prop} {r : Nat} {m m' : MP} {es : List Ent} {c : CT} (I : BufI w hb g O r m es c) {k a : Int} {p : Nat} (hk : ∀ e ∈ es, e.t ≠ k) (hH : HpB g r w' hb O' (cset c k a)) (hO : ∀ b, O' b → O b ∨ w.heap.size < b) (hp : p = w.heap.size)
    (hm : MapAt w' r .u64 m') (hme : m' = mset m k (.pointer (some ⟨p, 0, none⟩))) {S : Nat → Prop} (hf : Fr S w w') (hS : ∀ b, S b → O b ∨ b = r) (hbk : w'.heap[p]? = some (.cells #[.slice none 0 0, .bool false] T.buffer_entry (0, 0))) : BufI w' hb g O' r m' (es ++ [⟨k, p, .slice none 0 0, [], false⟩]) (cset c k a) := by
  have hgn : mget m k = none := I.mz k hk
  have hkn : k ∉ mkeys m := (mget_none_iff _ _).1 hgn
  have hkeys : mkeys m' = mkeys m ++ [k] := by rw [hme, mkeys_mset, if_neg hkn]
  have hget : ∀ y, mget m' y = if k = y then some (.pointer (some ⟨p, 0, none⟩)) else mget m y := fun y => by rw [hme, mget_mset]
  have nSp : ∀ e ∈ es, ¬ S e.p := fun e he h => by
    rcases hS _ h with h | h
    · exact I.np e he h
    · exact map_ne I.mp (I.blk e he) h.symm
  have nSv : ∀ e ∈ es, ∀ x, e.v.ownBlock = some x → ¬ S x := fun e he x hx h => by
    rcases hS _ h with h | h
    · exact I.nv e he x hx h
    · obtain ⟨cur, hc⟩ := row_elem (I.row e he) hx
      exact map_ne I.mp hc h.symm
  have ltp : ∀ e ∈ es, e.p < w.heap.size := fun e he => heap_lt (I.blk e he)
  have hmem : ∀ y ∈ es ++ [(⟨k, p, .slice none 0 0, [], false⟩ : Ent)], y ∈ es ∨ y = ⟨k, p, .slice none 0 0, [], false⟩ := fun y hy => by
    rcases List.mem_append.1 hy with h | h
    · exact .inl h
    · exact .inr (by simpa using h)
  refine ⟨hH, hm, by rw [hkeys, List.nodup_append]; exact ⟨I.mn, by simp, fun x hx y hy hxy => by simp at hy; subst hy; exact hkn (hxy ▸ hx)⟩, ?_, fun y hy => ?_, fun y hy => ?_, ?_, ?_, fun y hy => ?_, fun y hy => ?_, fun y hy y' hy' x h h' => ?_, fun h => ?_, fun y hy h => ?_, fun y hy x hx h => ?_, ?_⟩
  · have h1 : (mkeys m').length = m'.length := by simp [mkeys]
    have h2 : (mkeys m).length = m.length := by simp [mkeys]
    rw [← h1, hkeys, List.length_append, h2, I.ml, List.length_append]; rfl
  · rw [hget]
    rcases hmem y hy with h | rfl
    · rw [if_neg fun he => hk y h he.symm]; exact I.mg y h
    · rw [if_pos rfl]; rfl
  · rw [hget]
    rw [if_neg fun he => hy ⟨k, p, .slice none 0 0, [], false⟩ (by simp) he]
    exact I.mz y fun e he => hy e (by simp [he])
  · rw [List.map_append, List.nodup_append]
    refine ⟨I.tn, by simp, fun x hx y hy hxy => ?_⟩
    obtain ⟨e, he, rfl⟩ := List.mem_map.1 hx
    simp at hy; subst hy
    exact hk e he hxy
  · rw [List.map_append, List.nodup_append]
    refine ⟨I.pn, by simp, fun x hx y hy hxy => ?_⟩
    obtain ⟨e, he, rfl⟩ := List.mem_map.1 hx
    simp at hy; subst hy
    have := ltp e he; omega
  · rcases hmem y hy with h | rfl
    · exact hf.heap (I.blk y h) (nSp y h)
    · exact hbk
  · rcases hmem y hy with h | rfl
    · exact (I.row y h).fr hf (nSv y h)
    · exact Ow.none
  · rcases hmem y hy with h1 | rfl <;> rcases hmem y' hy' with h2 | rfl
    · exact I.rn y h1 y' h2 x h h'
    · simp [Value.ownBlock] at h'
    · simp [Value.ownBlock] at h
    · rfl
  · rcases hO r h with h | h
    · exact I.nr h
    · have := I.mp.lt; omega
  · rcases hmem y hy with h1 | rfl
    · rcases hO _ h with h | h
      · exact I.np y h1 h
      · have := ltp y h1; omega
    · rcases hO _ h with h | h
      · have := @Hp.lt (bufE g r) _ _ _ _ I.hp _ h; simp at this; omega
      · simp at h; omega
  · rcases hmem y hy with h1 | rfl
    · rcases hO _ h with h | h
      · exact I.nv y h1 x hx h
      · have := ((I.row y h1).lt hx).2; omega
    · simp [Value.ownBlock] at hx
  · have hkc : k ∉ ckeys c := fun h => by
      obtain ⟨e, he, h2⟩ := List.mem_map.1 (I.ck.mem_iff.1 h)
      exact hk e he h2
    have : cset c k a = (k, a) :: c := by unfold cset; rw [cdel_none hkc]
    rw [this, List.map_append]
    show (k :: ckeys c).Perm (es.map Ent.t ++ [k])
    exact (I.ck.cons k).trans (List.perm_append_comm (l₁ := [k]))
end Go.Proofs.Ytkjhekflgghbdaa
set_option maxRecDepth 100000
namespace Go.Proofs.Ytkjhekflgghbdaa
open Go.Eng

theorem hpB_cells {w : World} {hb : Nat} {g : Cfg} {O : Nat → Prop} {r : Nat} {c : CT} (H : HpB g r w hb O c) :
    cellOf w hb 2 = some (.int .i64 g.traces) ∧ cellOf w hb 3 = some (.int .i64 g.spans) ∧ cellOf w hb 4 = some (.int .u64 g.wait) ∧ cellOf w hb 5 = some (.map (some r)) := by
  letI : HE := bufE g r
  obtain ⟨v, mv, its, hI, _⟩ := Hp.ex H
  have hb' := hI.hl.blk
  unfold hbk at hb'
  exact ⟨by rw [cellOf_of hb']; rfl, by rw [cellOf_of hb']; rfl, by rw [cellOf_of hb']; rfl, by rw [cellOf_of hb']; rfl⟩

def dueAt (g : Cfg) (now : Int) : Int := now + min g.wait (18446744073709551615 - now)
def addS (A : List AE) (k : Int) (s : Spn) : List AE := A.map fun x => if x.t = k then ⟨x.t, x.l ++ [s], x.over⟩ else x
def fullS (A : List AE) (k : Int) : List AE := A.map fun x => if x.t = k then ⟨x.t, x.l, true⟩ else x

theorem put_ok {w : World} {hb : Nat} {g : Cfg} {B : Nat → Prop} {A : List AE} {c : CT} (I : Buf w hb g B A c) (hA : A.length ≤ 1000) (hl : ∀ e ∈ A, e.l.length ≤ 1000) (s : Spn) {now : Int} (hnow : 0 ≤ now ∧ now ≤ 18446744073709551615) (hwt : 0 ≤ g.wait) {K : KV}
    (h1 : rightK s ≠ 0 → ∀ w', Buf w' hb g B A c → Fr (fun _ => False) w w' → K (.int .i64 (rightK s)) w')
    (h2 : rightK s = 0 → (∀ e ∈ A, e.t ≠ s.trace) → g.traces ≤ A.length → ∀ w', Buf w' hb g B A c → Fr (fun _ => False) w w' → K (.int .i64 8) w')
    (h3 : rightK s = 0 → (∀ e ∈ A, e.t ≠ s.trace) → A.length < g.traces → ∀ w' B', Buf w' hb g B' (A ++ [⟨s.trace, [s], false⟩]) (cset c s.trace (dueAt g now)) → Fr B w w' → (∀ b, B' b → B b ∨ w.heap.size ≤ b) → K (.int .i64 0) w')
    (h4 : rightK s = 0 → ∀ e ∈ A, e.t = s.trace → (e.l.any fun x => decide (x.id = s.id)) = true → ∀ w', Buf w' hb g B A c → Fr (fun _ => False) w w' → K (.int .i64 0) w')
    (h5 : rightK s = 0 → ∀ e ∈ A, e.t = s.trace → (e.l.any fun x => decide (x.id = s.id)) = false → g.spans ≤ e.l.length → ∀ w', Buf w' hb g B (fullS A s.trace) c → Fr B w w' → K (.int .i64 9) w')
    (h6 : rightK s = 0 → ∀ e ∈ A, e.t = s.trace → (e.l.any fun x => decide (x.id = s.id)) = false → e.l.length < g.spans → ∀ w' B', Buf w' hb g B' (addS A s.trace s) c → Fr B w w' → (∀ b, B' b → B b ∨ w.heap.size ≤ b) → K (.int .i64 0) w') :
    callT P F.pbuffer_Buffer_Put [.pointer (some ⟨hb, 0, none⟩), aggS s, .int .u64 now] w K := by
  apply M.pbuffer_Buffer_Put.calls
  unfold M.pbuffer_Buffer_Put
  rw [box_agg]
  generalize hwa : w.alloc (.cells #[.int .u64 s.trace, .int .u64 s.id, .int .u64 s.parent, .int .u64 s.start, .int .u64 s.len, .string s.service, .string s.name, .bool s.fail] T.api_Span) = wa
  have hbx : boxS wa w.heap.size s := by rw [← hwa]; exact boxS_new w s
  have hfa : Fr (fun _ => False) w wa := by rw [← hwa]; exact (Fr.refl _ w).alloc _
  simp only [joinT_eq]
  simp
  unfold M.pbuffer_Buffer_Put.j0
  simp only [joinT_eq]
  simp
  rw [ldS (b := w.heap.size) (i := 0) (s := s) (fun k v hk => by rw [Nat.zero_add]; exact boxS_at hbx k v hk), M.span_Right.fcall]
  refine right_ok s fun w2 fr2 => ?_
  have F2 := hfa.trans fr2
  have hbx2 : boxS w2 w.heap.size s := fr2.heap hbx fun h => h
  have I2 := I.keep F2 fun _ _ h => h
  by_cases hr : rightK s = 0
  · simp [hr]
    unfold M.pbuffer_Buffer_Put.j1
    obtain ⟨⟨O, r, m, es, hAe, J, hB⟩, hlt⟩ := I2
    obtain ⟨q2, q3, q4, q5⟩ := J.cells
    have t0 := boxS_at hbx2 0 _ rfl
    have t1 := boxS_at hbx2 1 _ rfl
    simp [q5, t0]
    have mp1 : MapAt (dr w2 1) r .u64 m := J.mp.of_heap rfl
    have mp2 : MapAt (dr (dr w2 1) 1) r .u64 m := J.mp.of_heap rfl
    have hlenm : ∀ K, biT P .len #[T.map_uint64_p_buffer_entry] T.int [false] [.map (some r)] (dr (dr w2 1) 1) K = K (.int .i64 m.length) (dr (dr w2 1) 1) := fun K => lenmap_eq mt.map_uint64_p_buffer_entry mp2 _ K
    have hAl : A.length = m.length := by rw [hAe, List.length_map, J.ml]
    rw [lu_eq mt.map_uint64_p_buffer_entry mp1]
    have fd : Fr (fun _ => False) w2 (dr (dr w2 1) 1) := ((Fr.refl _ w2).dr 1).dr 1
    have Id : Buf (dr (dr w2 1) 1) hb g B A c := Buf.keep ⟨⟨O, r, m, es, hAe, J, hB⟩, hlt⟩ fd fun _ _ h => h
    have tA : (∀ e ∈ es, e.t ≠ s.trace) → ∀ e ∈ A, e.t ≠ s.trace := fun h e he => by
      rw [hAe] at he
      obtain ⟨x, hx, rfl⟩ := List.mem_map.1 he
      exact h x hx
    rcases J.find s.trace with ⟨hmn, hne⟩ | ⟨e, he, het, hme⟩
    · rw [hmn]
      by_cases hfull : g.traces ≤ m.length
      · have hfull' : (g.traces : Int) ≤ m.length := by omega
        simp [q5, q2, hlenm, hfull]
        exact h2 hr (tA hne) (by omega) _ Id (F2.trans fd)
      · have hfull' : ¬ (g.traces : Int) ≤ m.length := by omega
        simp [q5, q2, hlenm, hfull]
        generalize hw3 : dr ((dr (dr w2 1) 1).alloc (.cells #[.slice none 0 0, .bool false] T.buffer_entry)) 1 = w3
        have fr3 : Fr (fun _ => False) w2 w3 := by rw [← hw3]; exact (fd.alloc _).dr 1
        have hb3 : w3.heap[w2.heap.size]? = some (.cells #[.slice none 0 0, .bool false] T.buffer_entry (0, 0)) := by
          rw [← hw3, dr_heap, alloc_heap]; simp
        have sz3 : w3.heap.size = w2.heap.size + 1 := by rw [← hw3]; simp
        have J3 := J.keep fr3 fun _ _ h => h
        have hbx3 : boxS w3 w.heap.size s := fr3.heap hbx2 fun h => h
        obtain ⟨_, _, _, r5⟩ := J3.cells
        have u0 := boxS_at hbx3 0 _ rfl
        simp [r5, u0]
        refine mu_ok mt.map_uint64_p_buffer_entry J3.mp _ _ _ fun o hm4 => ?_
        have hr3 := J3.mp.lt
        have f4 : Fr (fun b => b = r) w3 (World.setObj w3 r o) := (Fr.refl (fun b => b = r) w3).setObj (.inl rfl) o
        have sz4 : (World.setObj w3 r o).heap.size = w3.heap.size := setObj_size w3 r o
        generalize hw4 : World.setObj w3 r o = w4 at *
        have H4 : HpB g r w4 hb O c := @Hp.keep (bufE g r) _ _ _ _ _ _ J3.hp f4 fun b hb h => J.nr (h ▸ hb)
        have hrs : r ≠ w.heap.size := map_ne J3.mp hbx3
        have hbx4 : boxS w4 w.heap.size s := f4.heap hbx3 fun h => hrs h.symm
        obtain ⟨_, _, s4, _⟩ := hpB_cells H4
        have u4 := boxS_at hbx4 0 _ rfl
        have hw1 : IntKind.u64.wrap (18446744073709551615 - now) = 18446744073709551615 - now := wrap_u64 (by omega) (by omega)
        have hw2 : IntKind.u64.wrap (now + min g.wait (18446744073709551615 - now)) = dueAt g now := wrap_u64 (by omega) (by omega)
        simp [s4, u4, hw1, hw2]
        rw [M.ptimers_Heap_Set.fcall]
        have hcl : c.length = m.length := by
          have := J.ck.length_eq
          simp [ckeys] at this
          rw [this, J.ml]
        have H4d : HpB g r (dr w4 1) hb O c := @Hp.keep (bufE g r) _ _ _ _ (fun _ => False) _ H4 ((Fr.refl _ w4).dr 1) fun _ _ h => h
        refine @set_ok (bufE g r) _ _ _ _ H4d (by omega) _ _ _ fun w5 O5 H5 f5 p5 => ?_
        have f5' : Fr O w4 w5 := ⟨f5.size, f5.keep, f5.tape, f5.os, f5.output⟩
        have p5' : ∀ b, O5 b → O b ∨ w2.heap.size < b := fun b hb => (p5 b hb).imp id fun h => by simp [dr_heap] at h; omega
        have hOB : ∀ b, O b → B b := fun b hb => hB b (.inl hb)
        have hnO : ¬ O w.heap.size := fun h => by have := I.lt _ (hOB _ h); omega
        have hnp : ¬ O w2.heap.size := fun h => by have := @Hp.lt (bufE g r) _ _ _ _ J.hp _ h; omega
        have hrlt := J.mp.lt
        have J5 := J.push (O' := O5) (k := s.trace) (a := dueAt g now) (p := w2.heap.size) (m' := mset m s.trace (.pointer (some ⟨w2.heap.size, 0, none⟩))) (w' := w5) (S := fun b => O b ∨ b = r) hne H5 p5' rfl (hm4.of_heap (f5'.keep r (by omega) J.nr)) rfl
          ((((fr3.mono fun _ _ h => h.elim).trans' f4 fun b _ h => .inr h)).trans' f5' fun b _ h => .inl h) (fun b h => h) (f5'.heap (f4.heap hb3 fun h => by omega) hnp)
        have hbx5 : boxS w5 w.heap.size s := f5'.heap hbx4 hnO
        refine put_end J5 (e := ⟨s.trace, w2.heap.size, .slice none 0 0, [], false⟩) (by simp) (by simp) hbx5 rfl fun w6 v6 J6 f6 n6 => ?_
        have hs2 := F2.size
        have hs5 := f5'.size
        have hs6 := f6.size
        have hes : (es ++ [(⟨s.trace, w2.heap.size, .slice none 0 0, [], false⟩ : Ent)]).map (fun x => if x.t = s.trace then ⟨s.trace, w2.heap.size, v6, [] ++ [s], false⟩ else x) = es ++ [⟨s.trace, w2.heap.size, v6, [s], false⟩] := by
          rw [List.map_append]
          congr 1
          · conv => rhs; rw [← List.map_id es]
            exact List.map_congr_left fun x hx => by rw [if_neg (hne x hx)]; rfl
          · simp
        rw [hes] at J6
        refine h3 hr (tA hne) (by omega) w6 (fun b => B b ∨ (w.heap.size ≤ b ∧ b < w6.heap.size)) ⟨⟨O5, r, _, _, by rw [hAe, List.map_append]; rfl, J6, fun b hfp => ?_⟩, fun b hb => ?_⟩ ?_ fun b hb => hb.imp id fun h => h.1
        · have hbl := J6.lt hfp
          rcases hfp with h | rfl | ⟨x, hx, hxb⟩
          · rcases p5' b h with h | h
            · exact .inl (hOB b h)
            · exact .inr ⟨by omega, hbl⟩
          · exact .inl (hB _ (.inr (.inl rfl)))
          · rcases List.mem_append.1 hx with hx | hx
            · exact .inl (hB b (.inr (.inr ⟨x, hx, hxb⟩)))
            · simp at hx; subst hx
              rcases hxb with h | h
              · simp at h; exact .inr ⟨by omega, hbl⟩
              · rcases n6 b h with h | h
                · simp [Value.ownBlock] at h
                · exact .inr ⟨by omega, hbl⟩
        · rcases hb with h | h
          · have := I.lt b h; omega
          · exact h.2
        · exact (((((F2.mono fun _ _ h => h.elim).trans' fr3 fun b _ h => h.elim).trans' f4 fun b _ h => h ▸ hB r (.inr (.inl rfl))).trans' f5' fun b _ h => hOB b h)).trans' f6 fun b hlt' h => by
            rcases h with h | h
            · simp at h; omega
            · simp [Value.ownBlock] at h
    · rw [hme]
      have e1 : e.ptr = .pointer (some ⟨e.p, 0, none⟩) := rfl
      have eA : e.abs ∈ A := by rw [hAe]; exact List.mem_map_of_mem he
      have hll : e.l.length ≤ 1000 := hl _ eA
      have inj : ∀ x ∈ es, x.t = e.t → x = e := fun x hx h => nodup_map_inj J.tn hx he h
      obtain ⟨c0, c1⟩ := cells2 (J.blk e he)
      have hsl : SlS (dr (dr w2 1) 1) e.v e.l := ((J.row e he).sl encS_len).fr fd fun _ _ _ h => h
      simp [e1, c0]
      rw [mkf_eq, M.slices_ContainsFunc_api_Span_api_Span.fcall]
      refine contains_ok hsl (by omega) (id := s.id) t1 (heap_lt hbx2) fun w3 f3 => ?_
      have f23 : Fr (fun _ => False) w2 w3 := fd.trans f3
      have J3 := J.keep f23 fun _ _ h => h
      have I3 : Buf w3 hb g B A c := Id.keep f3 fun _ _ h => h
      have F3 := F2.trans f23
      cases hany : e.l.any fun x => decide (x.id = s.id) with
      | true =>
        simp
        exact h4 hr e.abs eA het hany w3 I3 F3
      | false =>
        obtain ⟨k0, k1⟩ := cells2 (J3.blk e he)
        obtain ⟨_, _, _, _⟩ := J3.cells
        obtain ⟨_, q3', _, _⟩ := J3.cells
        have hsl3 : SlS w3 e.v e.l := (J3.row e he).sl encS_len
        have hlen3 : ∀ K, biT P .len #[T.sl_api_Span] T.int [false] [e.v] (dr w3 1) K = K (.int .i64 e.l.length) (dr w3 1) := fun K => hsl3.len_ok (by simp) _
        have f3d : Fr (fun _ => False) w3 (dr w3 1) := (Fr.refl _ w3).dr 1
        by_cases hf : g.spans ≤ e.l.length
        · have hf' : (g.spans : Int) ≤ e.l.length := by omega
          have hbk := J3.blk e he
          have m1 : (cellOf w3 e.p 1).isSome = true := by rw [cellOf_of hbk]; rfl
          have m2 := frzOf_of hbk 1
          simp [k0, q3', hlen3, hf, m1, m2]
          have fs : Fr (fun b => b = e.p) w3 ((dr w3 1).setCell ⟨e.p, 1, none⟩ (.bool true)) := ((Fr.refl (fun b => b = e.p) w3).dr 1).setCell (.inl rfl) 1 _
          have J4 := J3.upd he (e' := { e with over := true }) rfl rfl fs (fun b h => .inl h) (by rw [setCell_at (w := dr w3 1) hbk]; rfl) ((J3.row e he).fr fs fun x hx h => by
            obtain ⟨cur, hc⟩ := row_elem (J3.row e he) hx
            rw [h] at hc
            exact ne_of_elem hc hbk (by decide) rfl) fun x hx => .inl hx
          refine h5 hr e.abs eA het hany hf _ ⟨⟨O, r, m, _, ?_, J4, fun b hfp => ?_⟩, fun b hb => ?_⟩ ((F3.mono fun _ _ h => h.elim).trans' fs fun b _ h => hB b (.inr (.inr ⟨e, he, .inl h.symm⟩)))
          · rw [hAe, fullS, List.map_map, List.map_map]
            refine List.map_congr_left fun x hx => ?_
            show (if x.t = s.trace then _ else _) = Ent.abs (if x.t = e.t then _ else x)
            by_cases hxt : x.t = e.t
            · rw [if_pos hxt, if_pos (by rw [hxt, het]), inj x hx hxt]; rfl
            · rw [if_neg hxt, if_neg (by rw [← het]; exact hxt)]
          · refine hB b ?_
            rcases hfp with h | h | ⟨x, hx, hxb⟩
            · exact .inl h
            · exact .inr (.inl h)
            · obtain ⟨y, hy, rfl⟩ := List.mem_map.1 hx
              by_cases hyt : y.t = e.t
              · rw [if_pos hyt] at hxb; exact .inr (.inr ⟨e, he, hxb⟩)
              · rw [if_neg hyt] at hxb; exact .inr (.inr ⟨y, hy, hxb⟩)
          · have := hlt b hb; have := f23.size; have := fs.size; omega
        · have hf' : ¬ (g.spans : Int) ≤ e.l.length := by omega
          simp [k0, q3', hlen3, hf]
          have Jd := J3.keep f3d fun _ _ h => h
          have hbxd : boxS (dr w3 1) w.heap.size s := f23.heap hbx2 fun h => h
          refine put_end Jd he hll hbxd rfl fun w6 v6 J6 f6 n6 => ?_
          have hs3 := F3.size
          have hs6 := f6.size
          simp only [dr_heap] at hs6
          refine h6 hr e.abs eA het hany (by simp only [Ent.abs]; omega) w6 (fun b => B b ∨ (w.heap.size ≤ b ∧ b < w6.heap.size)) ⟨⟨O, r, m, _, ?_, J6, fun b hfp => ?_⟩, fun b hb => ?_⟩ (((F3.trans f3d).mono fun _ _ h => h.elim).trans' f6 fun b _ h => ?_) fun b hb => hb.imp id fun h => h.1
          · rw [hAe, addS, List.map_map, List.map_map]
            refine List.map_congr_left fun x hx => ?_
            show (if x.t = s.trace then _ else _) = Ent.abs (if x.t = e.t then _ else x)
            by_cases hxt : x.t = e.t
            · rw [if_pos hxt, if_pos (by rw [hxt, het]), inj x hx hxt]; rfl
            · rw [if_neg hxt, if_neg (by rw [← het]; exact hxt)]
          · have hbl := J6.lt hfp
            rcases hfp with h | h | ⟨x, hx, hxb⟩
            · exact .inl (hB b (.inl h))
            · exact .inl (hB b (.inr (.inl h)))
            · obtain ⟨y, hy, rfl⟩ := List.mem_map.1 hx
              by_cases hyt : y.t = e.t
              · rw [if_pos hyt] at hxb
                rcases hxb with h | h
                · exact .inl (hB b (.inr (.inr ⟨e, he, .inl h⟩)))
                · rcases n6 b h with h | h
                  · exact .inl (hB b (.inr (.inr ⟨e, he, .inr h⟩)))
                  · simp only [dr_heap] at h; exact .inr ⟨by omega, hbl⟩
              · rw [if_neg hyt] at hxb; exact .inl (hB b (.inr (.inr ⟨y, hy, hxb⟩)))
          · rcases hb with h | h
            · have := I.lt b h; omega
            · exact h.2
          · refine hB b (.inr (.inr ⟨e, he, ?_⟩))
            rcases h with h | h
            · exact .inl h.symm
            · exact .inr h
  · have hr' : ¬ rightK s = 0 := hr
    simp [hr']
    exact h1 hr w2 I2 F2
end Go.Proofs.Ytkjhekflgghbdaa
