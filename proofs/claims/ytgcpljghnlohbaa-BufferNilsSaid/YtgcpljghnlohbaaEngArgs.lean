/-
  What is known of an argument that can be read: its cells, and the cells that it leads to. Laws over any program. No condition.
-/
import Derived.Test.YtgcpljghnlohbaaEngSimp
import Derived.DataReads
import Derived.ChangeArms
import Derived.ChangeSame
import Derived.WalkKit
import Derived.ProofKit
namespace Go.Eng

section
variable {P : Program} {w : World}
/-- The cells are a value of the type, and what it leads to is there. -/
def TV (P : Program) (w : World) : Nat → TypeId → List Value → Prop
  | 0, _, _ => False
  | n + 1, t, cs => match P.underlying t with
    | some (.int k) => ∃ x, cs = [.int k x] ∧ (Lit.int k x).wf = true
    | some .bool => ∃ b, cs = [.bool b]
    | some .string => ∃ s, cs = [.string s] ∧ s.size ≤ maxLen
    | some (.slice e) => cs = [.slice none 0 0] ∨ ∃ a len cap, cs = [.slice (some a) len cap] ∧ len ≤ cap ∧ cap ≤ maxLen ∧ ∀ i, i < len → ∃ cs', w.cells? 0 (a.add (i * P.cellsOf e)) (P.cellsOf e) = some cs' ∧ TV P w n e cs'
    | some (.struct fs) => cs.length = P.cellsOf t ∧ ∀ (i : Nat) (f : Field), fs[i]? = some f → TV P w n f.type ((cs.drop f.offset).take (P.cellsOf f.type))
    | _ => True

theorem cells?_base {b : Nat} {a : Addr} {n : Nat} {cs : List Value} (h : w.cells? b a n = some cs) : w.cells? 0 a n = some cs := by
  unfold World.cells? at h ⊢
  split at h
  · simpa using h
  · cases h

theorem tv_of_trod {H : Type} {enc : TypeId × Value → H} {base : Nat} {spare : Nat → Bool} {held : Bool} : ∀ (fuel : Nat) {t : TypeId} {cs : List Value} {x : DataW H × List MemPlace}, DataW.trod enc P w base spare held fuel t cs = some x → TV P w fuel t cs := by
  intro fuel
  induction fuel with
  | zero => intro t cs x h; simp [DataW.trod] at h
  | succ n ih =>
    intro t cs x h
    unfold TV
    cases hu : P.underlying t with
    | none => trivial
    | some d =>
      cases d <;> simp only
      case int k => obtain ⟨x, hx, _, hw⟩ := DataW.trod_int hu h; exact ⟨x, hx, hw⟩
      case bool => obtain ⟨b, hb, _⟩ := DataW.trod_bool hu h; exact ⟨b, hb⟩
      case string => obtain ⟨s, hs, _, hl⟩ := DataW.trod_string hu h; exact ⟨s, hs, hl⟩
      case slice e =>
        rcases DataW.trod_slice hu h with ⟨h0, _⟩ | ⟨a, len, cap, elems, rest, m, hm, hcs, _, _, hl, hc, hlen, hel, _⟩
        · exact .inl h0
        · refine .inr ⟨a, len, cap, hcs, hl, hc, fun i hi => ?_⟩
          have hme : m = n := by omega
          subst hme
          have h1 := hel i hi
          rw [List.getElem?_eq_getElem (by omega)] at h1
          cases hcs' : w.cells? base (a.add (i * P.cellsOf e)) (P.cellsOf e) with
          | none => simp [hcs'] at h1
          | some cs' =>
            simp only [hcs', Option.bind_some] at h1
            exact ⟨cs', cells?_base hcs', ih h1⟩
      case struct fs =>
        obtain ⟨xs, m, hm, _, hl, hlen, hf⟩ := DataW.trod_struct hu h
        have hme : m = n := by omega
        subst hme
        refine ⟨hl, fun i f hif => ?_⟩
        have h1 := hf i f hif
        have hi : i < fs.size := (Array.getElem?_eq_some_iff.1 hif).1
        rw [List.getElem?_eq_getElem (by omega)] at h1
        exact ih h1

/-- A slice that reads as the list l, element by element ('rd' at the element's place). -/
def SlOf {α : Type} (w : World) (sz : Nat) (rd : World → Nat → Nat → α → Prop) (v : Value) (l : List α) : Prop :=
  ∃ a cap, v = .slice a l.length cap ∧ l.length ≤ cap ∧ cap ≤ maxLen ∧ ∀ i x, l[i]? = some x → ∃ b o, a = some ⟨b, o, none⟩ ∧ b < w.heap.size ∧ rd w b (o + i * sz) x

theorem addr_spot {a : Addr} {v : Value} (h : w.cell? a = some v) : a.spot = none := World.cell?_spot h
theorem sl_of_tv {α : Type} {n : Nat} {t e : TypeId} {v : Value} {sz : Nat} {rd : World → Nat → Nat → α → Prop} (hu : P.underlying t = some (.slice e)) (hs : P.cellsOf e = sz) (hpos : 0 < sz)
    (hrd : ∀ n b o cs, TV P w n e cs → cs.length = sz → (∀ j u, cs[j]? = some u → cellOf w b (o + j) = some u) → ∃ x, rd w b o x) (h : TV P w n t [v]) : ∃ l, SlOf w sz rd v l := by
  cases n with
  | zero => exact h.elim
  | succ n =>
    unfold TV at h
    simp only [hu] at h
    rcases h with h | ⟨a, len, cap, hv, hl, hc, hx⟩
    · simp only [List.cons.injEq, and_true] at h
      exact ⟨[], none, 0, h, Nat.le_refl _, Nat.zero_le _, fun i x hi => by simp at hi⟩
    · simp only [List.cons.injEq, and_true] at hv
      subst hs
      -- each element's place
      have key : ∀ i, i < len → ∃ x, ∃ b o, a = ⟨b, o, none⟩ ∧ b < w.heap.size ∧ rd w b (o + i * P.cellsOf e) x := fun i hi => by
        obtain ⟨cs', h1, h2⟩ := hx i hi
        obtain ⟨_, h3, h4⟩ := World.cells?_some h1
        have hc0 : ∃ u, w.cell? ((a.add (i * P.cellsOf e)).add 0) = some u := by
          have := h4 0 (by omega)
          rw [this]
          exact ⟨_, List.getElem?_eq_getElem (by omega)⟩
        obtain ⟨u, hu0⟩ := hc0
        obtain ⟨b, o, s⟩ := a
        have hall : ∀ j, (((⟨b, o, s⟩ : Addr).add (i * P.cellsOf e)).add j).block = b := fun j => by unfold Addr.add; split <;> split <;> rfl
        have hblt : b < w.heap.size := by
          have := World.block_lt_of_cell? w _ hu0
          rw [hall 0] at this; exact this
        by_cases hsn : s = none
        · subst hsn
          obtain ⟨x, hxr⟩ := hrd n b (o + i * P.cellsOf e) cs' h2 h3 (fun j u' hj => by
            have := h4 j (by have := (List.getElem?_eq_some_iff.1 hj).1; omega)
            rw [add_addr, add_addr, cell?_eq] at this
            rw [this]; exact hj)
          exact ⟨x, b, o, rfl, hblt, hxr⟩
        · -- an address into the middle of a cell leads to no element 0: the first element would have no cell
          exfalso
          obtain ⟨cs0, k1, k2⟩ := hx 0 (by omega)
          obtain ⟨_, k3, k4⟩ := World.cells?_some k1
          have := k4 0 (by omega)
          rw [List.getElem?_eq_getElem (by omega)] at this
          have hsp := addr_spot this
          simp [Addr.add] at hsp
          exact hsn hsp
      have key' : ∀ i, ∃ x : Option α, i < len → ∃ y, x = some y ∧ ∃ b o, a = ⟨b, o, none⟩ ∧ b < w.heap.size ∧ rd w b (o + i * P.cellsOf e) y := fun i => by
        by_cases hi : i < len
        · obtain ⟨y, hy⟩ := key i hi
          exact ⟨some y, fun _ => ⟨y, rfl, hy⟩⟩
        · exact ⟨none, fun h => absurd h hi⟩
      obtain ⟨f, hf⟩ := Classical.axiomOfChoice key'
      have hlist : ∀ m, m ≤ len → ∃ l : List α, l.length = m ∧ ∀ i x, l[i]? = some x → f i = some x := by
        intro m
        induction m with
        | zero => intro _; exact ⟨[], rfl, fun i x h => by simp at h⟩
        | succ m ih =>
          intro hm
          obtain ⟨l, h1, h2⟩ := ih (by omega)
          obtain ⟨y, hy, _⟩ := hf m (by omega)
          refine ⟨l ++ [y], by simp [h1], fun i x hi => ?_⟩
          rw [List.getElem?_append] at hi
          split at hi
          · exact h2 i x hi
          · rename_i hlt
            have : i = m := by
              have := (List.getElem?_eq_some_iff.1 hi).1
              simp at this; omega
            subst this
            rw [h1, Nat.sub_self] at hi
            simp at hi; subst hi; exact hy
      obtain ⟨l, h1, h2⟩ := hlist len (Nat.le_refl _)
      refine ⟨l, some a, cap, by rw [h1]; exact hv, by omega, hc, fun i x hi => ?_⟩
      have hil : i < len := by have := (List.getElem?_eq_some_iff.1 hi).1; omega
      obtain ⟨y, hy, b, o, ha, hb, hr⟩ := hf i hil
      rw [h2 i x hi] at hy
      cases hy
      exact ⟨b, o, by rw [ha], hb, hr⟩

theorem tv_int {n : Nat} {t : TypeId} {k : IntKind} {cs : List Value} (hu : P.underlying t = some (.int k)) (h : TV P w n t cs) : ∃ x, cs = [.int k x] ∧ (Lit.int k x).wf = true := by
  cases n with
  | zero => exact h.elim
  | succ n => unfold TV at h; simpa only [hu] using h
theorem tv_string {n : Nat} {t : TypeId} {cs : List Value} (hu : P.underlying t = some .string) (h : TV P w n t cs) : ∃ s, cs = [.string s] ∧ s.size ≤ maxLen := by
  cases n with
  | zero => exact h.elim
  | succ n => unfold TV at h; simpa only [hu] using h
theorem tv_bool {n : Nat} {t : TypeId} {cs : List Value} (hu : P.underlying t = some .bool) (h : TV P w n t cs) : ∃ b, cs = [.bool b] := by
  cases n with
  | zero => exact h.elim
  | succ n => unfold TV at h; simpa only [hu] using h
theorem tv_struct {n : Nat} {t : TypeId} {fs : Array Field} {cs : List Value} (hu : P.underlying t = some (.struct fs)) (h : TV P w n t cs) : cs.length = P.cellsOf t ∧ ∀ (i : Nat) (f : Field), fs[i]? = some f → ∃ m, TV P w m f.type ((cs.drop f.offset).take (P.cellsOf f.type)) := by
  cases n with
  | zero => exact h.elim
  | succ n => unfold TV at h; simp only [hu] at h; exact ⟨h.1, fun i f hf => ⟨n, h.2 i f hf⟩⟩
theorem SlOf.keep {α : Type} {w w' : World} {sz : Nat} {rd : World → Nat → Nat → α → Prop} {v : Value} {l : List α} (h : SlOf w sz rd v l) (hs : w.heap.size ≤ w'.heap.size) (hrd : ∀ b o x, b < w.heap.size → rd w b o x → rd w' b o x) : SlOf w' sz rd v l := by
  obtain ⟨a, cap, hv, h1, h2, h3⟩ := h
  refine ⟨a, cap, hv, h1, h2, fun i x hi => ?_⟩
  obtain ⟨b, o, ha, hb, hr⟩ := h3 i x hi
  exact ⟨b, o, ha, Nat.lt_of_lt_of_le hb hs, hrd b _ x hb hr⟩
end
end Go.Eng
