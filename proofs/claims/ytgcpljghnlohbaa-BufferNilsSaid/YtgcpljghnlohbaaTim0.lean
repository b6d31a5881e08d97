/-
  The heap of timers: the parts of a line, and what its methods do to them. No condition.
-/
import Derived.Test.YtgcpljghnlohbaaFacts
import Derived.Test.YtgcpljghnlohbaaM
import Derived.Test.YtgcpljghnlohbaaTimPure
set_option maxRecDepth 100000
namespace Go.Proofs.Ytgcpljghnlohbaa
open Go.Eng


def _root_.Go.Eng.It.ptr (t : It) : Value := .pointer (some ⟨t.p, 0, none⟩)

def itemAt (w : World) (t : It) (i : Nat) : Prop := w.heap[t.p]? = some (.cells #[.int .u64 t.k, .int .u64 t.a, .int .i64 i] T.timers_item (0, 0))

theorem less_ok {w : World} {g n cap i j pi pj : Nat} {x y : It} (hi : i < n) (hj : j < n) (ci : cellOf w g i = some x.ptr) (cj : cellOf w g j = some y.ptr) (hx : itemAt w x pi) (hy : itemAt w y pj) {K : KV}
    (h : K (.bool (lessI x y)) (dr w 1)) : callT P F.timers_line_Less [.slice (some ⟨g, 0, none⟩) n cap, .int .i64 i, .int .i64 j] w K := by
  apply M.timers_line_Less.calls
  unfold M.timers_line_Less
  unfold itemAt at hx hy
  obtain ⟨hx0, hx1, hx2⟩ := cells3 hx
  obtain ⟨hy0, hy1, hy2⟩ := cells3 hy
  have hi' : (i : Int) < n := by omega
  have hj' : (j : Int) < n := by omega
  have e1 : x.ptr = .pointer (some ⟨x.p, 0, none⟩) := rfl
  have e2 : y.ptr = .pointer (some ⟨y.p, 0, none⟩) := rfl
  unfold lessI at h
  clear hx hy
  by_cases h1 : x.a < y.a
  · simp [*] at h ⊢
    exact h
  · by_cases h2 : x.a = y.a
    · simp [*] at h ⊢
      exact h
    · simp [*] at h ⊢
      exact h

/-- The block in which a heap lies: its element's type, and what stands behind the heap's own two cells. -/
class HE where
  e : TypeId
  rest : List Value
  n1 : e ≠ T.p_timers_item
  n2 : e ≠ T.timers_item
variable [HE]
def hbk (v mv : Value) : Obj := .cells (v :: mv :: HE.rest).toArray HE.e (0, 0)
theorem cellsH {w : World} {b : Nat} {x y : Value} (h : w.heap[b]? = some (hbk x y)) : cellOf w b 0 = some x ∧ cellOf w b 1 = some y := ⟨by rw [cellOf_of h]; rfl, by rw [cellOf_of h]; rfl⟩
theorem hbk_set0 {w : World} {b : Nat} {x y v : Value} (h : w.heap[b]? = some (hbk x y)) : (w.setCell ⟨b, 0, none⟩ v).heap[b]? = some (hbk v y) := by
  rw [setCell_at h]; rfl
theorem hbk_set1 {w : World} {b : Nat} {x y v : Value} (h : w.heap[b]? = some (hbk x y)) : (w.setCell ⟨b, 1, none⟩ v).heap[b]? = some (hbk x v) := by
  rw [setCell_at h]; rfl

/-- A line: its slice's value v (with whatever stands beside it in the Heap's block), its items. -/
structure HL (w : World) (hb : Nat) (v mv : Value) (its : List It) : Prop where
  blk : w.heap[hb]? = some (hbk v mv)
  row : w.ownsRow 0 T.p_timers_item 1 v its.length (its.map It.ptr)
  itm : ∀ i t, its[i]? = some t → itemAt w t i

omit [HE] in
theorem itemAt_inj {w : World} {t u : It} {i j : Nat} (h : itemAt w t i) (h' : itemAt w u j) (hp : t.p = u.p) : i = j := by
  unfold itemAt at h h'
  rw [hp, h'] at h
  simp at h
  omega

def fpL (v : Value) (its : List It) (b : Nat) : Prop := v.ownBlock = some b ∨ ∃ t ∈ its, t.p = b

theorem swap_ok {w : World} {hb i j : Nat} {v mv : Value} {its : List It} {x y : It} (H : HL w hb v mv its) (hi : its[i]? = some x) (hj : its[j]? = some y) (hij : i ≠ j) {K : KV}
    (h : ∀ w', HL w' hb v mv (swapI its i j x y) → Fr (fpL v its) w w' → K (.tuple #[]) w') : callT P F.timers_line_Swap [v, .int .i64 i, .int .i64 j] w K := by
  have hil : i < its.length := (List.getElem?_eq_some_iff.1 hi).1
  have hjl : j < its.length := (List.getElem?_eq_some_iff.1 hj).1
  obtain ⟨g, cap, cur, hv, _, hgb, hnc, _, hcs, _⟩ := row_form H.row (by omega)
  have hg : v.ownBlock = some g := by rw [hv]; rfl
  have hx := H.itm i x hi
  have hy := H.itm j y hj
  have hpn : x.p ≠ y.p := fun h => hij (itemAt_inj hx hy h)
  have ci := row_cell H.row hg (i := i) (x := x.ptr) (by simp [hi])
  have cj := row_cell H.row hg (i := j) (x := y.ptr) (by simp [hj])
  have fz := row_frz H.row hg
  have gx : g ≠ x.p := ne_of_elem hgb hx (by first | decide | exact HE.n1 | exact HE.n2 | exact HE.n1.symm | exact HE.n2.symm)
  have gy : g ≠ y.p := ne_of_elem hgb hy (by first | decide | exact HE.n1 | exact HE.n2 | exact HE.n1.symm | exact HE.n2.symm)
  have hbg : hb ≠ g := ne_of_elem H.blk hgb (by first | decide | exact HE.n1 | exact HE.n2 | exact HE.n1.symm | exact HE.n2.symm)
  have hbx : hb ≠ x.p := ne_of_elem H.blk hx (by first | decide | exact HE.n1 | exact HE.n2 | exact HE.n1.symm | exact HE.n2.symm)
  have hby : hb ≠ y.p := ne_of_elem H.blk hy (by first | decide | exact HE.n1 | exact HE.n2 | exact HE.n1.symm | exact HE.n2.symm)
  obtain ⟨hx0, hx1, hx2⟩ := cells3 hx
  obtain ⟨hy0, hy1, hy2⟩ := cells3 hy
  have fx := frzOf_of hx 2
  have fy := frzOf_of hy 2
  have hi' : (i : Int) < its.length := by omega
  have hj' : (j : Int) < its.length := by omega
  have e1 : x.ptr = .pointer (some ⟨x.p, 0, none⟩) := rfl
  have e2 : y.ptr = .pointer (some ⟨y.p, 0, none⟩) := rfl
  have hji : j ≠ i := hij.symm
  apply M.timers_line_Swap.calls
  unfold M.timers_line_Swap
  subst hv
  simp [*, cellOf_setCell, frzOf_setCell]
  apply h
  · have r1 : (dr w 1).ownsRow 0 T.p_timers_item 1 (.slice (some ⟨g, 0, none⟩) its.length cap) its.length (its.map It.ptr) := row_keep H.row fun _ _ => rfl
    have r2 := row_set (row_set r1 (g := g) rfl i y.ptr) (g := g) rfl j x.ptr
    refine ⟨?_, ?_, ?_⟩
    · rw [setCell_ne hbx.symm, setCell_ne hby.symm]
      show (World.setCell _ _ _).heap[hb]? = _
      rw [setCell_ne hbg.symm, setCell_ne hbg.symm]
      exact H.blk
    · have hl : (swapI its i j x y).length = its.length := by simp [swapI]
      have hm : (swapI its i j x y).map It.ptr = (((its.map It.ptr).set i y.ptr).set j x.ptr) := by simp [swapI, List.map_set]
      rw [hl, hm]
      refine row_keep r2 fun g' hg' => ?_
      cases hg'
      rw [setCell_ne gx.symm, setCell_ne gy.symm]
      rfl
    · intro k t hk
      unfold itemAt
      simp only [swapI] at hk
      rw [List.getElem?_set] at hk
      by_cases hkj : j = k
      · subst hkj
        rw [if_pos rfl, if_pos (by simpa using hjl)] at hk
        cases hk
        have : (World.setCell (dr (World.setCell (World.setCell (dr w 1) ⟨g, i, none⟩ (.pointer (some ⟨y.p, 0, none⟩))) ⟨g, j, none⟩ (.pointer (some ⟨x.p, 0, none⟩))) 1) ⟨y.p, 2, none⟩ (.int .i64 i)).heap[x.p]? = some (.cells #[.int .u64 x.k, .int .u64 x.a, .int .i64 (i : Nat)] T.timers_item (0, 0)) := by
          rw [setCell_ne hpn.symm]
          show (World.setCell _ _ _).heap[x.p]? = _
          rw [setCell_ne gx, setCell_ne gx]
          exact hx
        rw [setCell_at this]
        rfl
      · rw [if_neg hkj, List.getElem?_set] at hk
        by_cases hki : i = k
        · subst hki
          rw [if_pos rfl, if_pos hil] at hk
          cases hk
          rw [setCell_ne hpn]
          have : (dr (World.setCell (World.setCell (dr w 1) ⟨g, i, none⟩ (.pointer (some ⟨y.p, 0, none⟩))) ⟨g, j, none⟩ (.pointer (some ⟨x.p, 0, none⟩))) 1).heap[y.p]? = some (.cells #[.int .u64 y.k, .int .u64 y.a, .int .i64 (j : Nat)] T.timers_item (0, 0)) := by
            show (World.setCell _ _ _).heap[y.p]? = _
            rw [setCell_ne gy, setCell_ne gy]
            exact hy
          rw [setCell_at this]
          rfl
        · rw [if_neg hki] at hk
          have ht := H.itm k t hk
          have n1 : x.p ≠ t.p := fun h => hki (itemAt_inj hx ht h)
          have n2 : y.p ≠ t.p := fun h => hkj (itemAt_inj hy ht h)
          have n3 : g ≠ t.p := ne_of_elem hgb ht (by first | decide | exact HE.n1 | exact HE.n2 | exact HE.n1.symm | exact HE.n2.symm)
          rw [setCell_ne n1, setCell_ne n2]
          show (World.setCell _ _ _).heap[t.p]? = _
          rw [setCell_ne n3, setCell_ne n3]
          exact ht
  · have mx : x ∈ its := List.mem_of_getElem? hi
    have my : y ∈ its := List.mem_of_getElem? hj
    exact ((((((Fr.refl _ w).dr 1).setCell (.inl (.inl rfl)) _ _).setCell (.inl (.inl rfl)) _ _).dr 1).setCell (.inl (.inr ⟨y, my, rfl⟩)) _ _).setCell (.inl (.inr ⟨x, mx, rfl⟩)) _ _

/-- (*line).Len, Less, Swap, asked through the interface value. -/
theorem inv_len {w : World} {hb : Nat} {v mv : Value} {its : List It} (H : HL w hb v mv its) (K : KV) (h : K (.int .i64 its.length) w) :
    invokeT P (.iface T.p_timers_line (.pointer (some ⟨hb, 0, none⟩))) "Len" [] w K := by
  obtain ⟨h0, _⟩ := cellsH H.blk
  rw [inv_val (f := F.timers_line_Len) (by simp) h0, M.timers_line_Len.fcall]
  apply M.timers_line_Len.calls
  unfold M.timers_line_Len
  rcases H.row.2 with ⟨rfl, hn⟩ | ⟨g, cap, cur, rfl, _⟩
  · simp [hn] at h ⊢; exact h
  · simp; exact h
theorem inv_less {w : World} {hb i j : Nat} {v mv : Value} {its : List It} {x y : It} (H : HL w hb v mv its) (hi : its[i]? = some x) (hj : its[j]? = some y) (K : KV) (h : K (.bool (lessI x y)) (dr w 1)) :
    invokeT P (.iface T.p_timers_line (.pointer (some ⟨hb, 0, none⟩))) "Less" [.int .i64 i, .int .i64 j] w K := by
  obtain ⟨h0, _⟩ := cellsH H.blk
  have hil : i < its.length := (List.getElem?_eq_some_iff.1 hi).1
  have hjl : j < its.length := (List.getElem?_eq_some_iff.1 hj).1
  rw [inv_val (f := F.timers_line_Less) (by simp) h0, M.timers_line_Less.fcall]
  obtain ⟨g, cap, cur, hv, _, hgb, _⟩ := row_form H.row (by omega)
  have hg : v.ownBlock = some g := by rw [hv]; rfl
  have ci := row_cell H.row hg (i := i) (x := x.ptr) (by simp [hi])
  have cj := row_cell H.row hg (i := j) (x := y.ptr) (by simp [hj])
  rw [hv]
  exact less_ok hil hjl ci cj (H.itm i x hi) (H.itm j y hj) h
theorem inv_swap {w : World} {hb i j : Nat} {v mv : Value} {its : List It} {x y : It} (H : HL w hb v mv its) (hi : its[i]? = some x) (hj : its[j]? = some y) (hij : i ≠ j) (K : KV)
    (h : ∀ w', HL w' hb v mv (swapI its i j x y) → Fr (fpL v its) w w' → K (.tuple #[]) w') :
    invokeT P (.iface T.p_timers_line (.pointer (some ⟨hb, 0, none⟩))) "Swap" [.int .i64 i, .int .i64 j] w K := by
  obtain ⟨h0, _⟩ := cellsH H.blk
  rw [inv_val (f := F.timers_line_Swap) (by simp) h0, M.timers_line_Swap.fcall]
  exact swap_ok H hi hj hij h
theorem HL.dr {w : World} {hb : Nat} {v mv : Value} {its : List It} (H : HL w hb v mv its) (n : Nat) : HL (dr w n) hb v mv its := ⟨H.blk, row_keep H.row fun _ _ => rfl, H.itm⟩
end Go.Proofs.Ytgcpljghnlohbaa
