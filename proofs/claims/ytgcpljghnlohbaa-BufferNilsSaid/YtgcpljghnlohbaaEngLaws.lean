/-
  What the engine's words come to: memory, numbers, slices, maps. Laws over any program. No condition.
-/
import Derived.Test.YtgcpljghnlohbaaEngOps
import Derived.Laws.AppendOwn
namespace Go.Eng

/-! ### Memory -/
def cellOf (w : World) (b i : Nat) : Option Value := match w.heap[b]? with
  | some (.cells c _ _) => c[i]?
  | _ => none
def frzOf (w : World) (b i : Nat) : Bool := match w.heap[b]? with
  | some (.cells _ _ f) => decide (f.1 ≤ i) && decide (i < f.2)
  | _ => false
theorem cell?_eq (w : World) (b i : Nat) : w.cell? ⟨b, i, none⟩ = cellOf w b i := by
  unfold World.cell? cellOf; cases h : w.heap[b]? with
  | none => rfl
  | some o => cases o <;> rfl
theorem frozen?_eq (w : World) (b i : Nat) : w.frozen? ⟨b, i, none⟩ = frzOf w b i := by
  unfold World.frozen? frzOf; cases h : w.heap[b]? with
  | none => rfl
  | some o => cases o <;> rfl

def Obj.put (i : Nat) (v : Value) : Obj → Obj
  | .cells c e f => .cells (c.setIfInBounds i v) e f
  | o => o

theorem setCell_heap (w : World) (b i : Nat) (v : Value) (b' : Nat) : (w.setCell ⟨b, i, none⟩ v).heap[b']? = if b = b' then (w.heap[b']?).map (Obj.put i v) else w.heap[b']? := by
  unfold World.setCell
  simp only [Array.getElem?_modify]
  split
  · cases h : w.heap[b']? with
    | none => rfl
    | some o => cases o <;> simp [Obj.put]
  · rfl
theorem setCell_size (w : World) (a : Addr) (v : Value) : (w.setCell a v).heap.size = w.heap.size := by simp [World.setCell]
theorem alloc_heap (w : World) (o : Obj) (b : Nat) : (w.alloc o).heap[b]? = if b = w.heap.size then some o else w.heap[b]? := by
  unfold World.alloc
  simp only [Array.getElem?_push]
theorem alloc_size (w : World) (o : Obj) : (w.alloc o).heap.size = w.heap.size + 1 := by unfold World.alloc; exact Array.size_push ..
def World.setObj (w : World) (b : Nat) (o : Obj) : World := { w with heap := w.heap.setIfInBounds b o }
theorem setObj_size (w : World) (b : Nat) (o : Obj) : (World.setObj w b o).heap.size = w.heap.size := by simp [World.setObj]
theorem setObj_heap (w : World) (b : Nat) (o : Obj) (b' : Nat) (h : b < w.heap.size) : (World.setObj w b o).heap[b']? = if b = b' then some o else w.heap[b']? := by
  unfold World.setObj
  simp only [Array.getElem?_setIfInBounds, h, if_true]
/-- The tape has answered n times more. -/
def dr (w : World) (n : Nat) : World := { w with drawn := w.drawn + n }
theorem dr_heap (w : World) (n : Nat) : (dr w n).heap = w.heap := Eq.trans rfl rfl
theorem drawT_eq (w : World) (K : World → Prop) : drawT w K = K (dr w 1) := Eq.trans rfl rfl

/-! ### Loads and stores -/
section
variable (P : Program)
def ld1 (b i : Nat) (w : World) (K : KV) : Prop := semT P (load ⟨b, i, none⟩) w K
def st1 (b i : Nat) (v : Value) (w : World) (K : KV) : Prop := semU P (storeCells ⟨b, i, none⟩ [v]) w K
def ldN (n b i : Nat) (w : World) (K : KV) : Prop := semT P (do pure (.agg (← loadCells ⟨b, i, none⟩ n))) w K
def stN (b i : Nat) (vs : List Value) (w : World) (K : KV) : Prop := semU P (storeCells ⟨b, i, none⟩ vs) w K
end
section
variable {P : Program}
theorem ld1_eq {w : World} {b i : Nat} {v : Value} (h : cellOf w b i = some v) (K : KV) : ld1 P b i w K = K v w := by
  unfold ld1 semT load
  rw [← cell?_eq] at h
  simp only [Sem.run, h]
theorem ld1_ok {w : World} {b i : Nat} (h : (cellOf w b i).isSome = true) (K : KV) : ld1 P b i w K = K ((cellOf w b i).getD undef) w := by
  cases hc : cellOf w b i with
  | none => rw [hc] at h; cases h
  | some v => exact ld1_eq hc K

def oneC : Value → Bool
  | .agg _ => false
  | .tuple _ => false
  | _ => true

theorem run_store1 {w : World} {b i : Nat} {v : Value} (h : (cellOf w b i).isSome = true) (hf : frzOf w b i = false) (h1 : oneC v = true) (k : Sem Unit) :
    (Sem.store .plain ⟨b, i, none⟩ v k).run P w = k.run P (w.setCell ⟨b, i, none⟩ v) := by
  rw [← cell?_eq] at h
  rw [← frozen?_eq] at hf
  cases hc : w.cell? ⟨b, i, none⟩ with
  | none => rw [hc] at h; cases h
  | some u => cases v <;> first | (simp only [Sem.run, hc, hf]; rfl) | cases h1

theorem st1_ok {w : World} {b i : Nat} {v : Value} (h : (cellOf w b i).isSome = true) (hf : frzOf w b i = false) (h1 : oneC v = true) (K : KV) :
    st1 P b i v w K = K undef (w.setCell ⟨b, i, none⟩ v) := by
  unfold st1 semU
  have : (storeCells ⟨b, i, none⟩ [v] : Sem Unit) = .store .plain ⟨b, i, none⟩ v (.pure ()) := by
    simp [storeCells, store, Addr.add, bind, Sem.bind, pure]
  rw [this, run_store1 h hf h1]
  rfl

theorem add_addr (b i j : Nat) : (⟨b, i, none⟩ : Addr).add j = ⟨b, i + j, none⟩ := by
  unfold Addr.add
  split
  · next h => subst h; rfl
  · rfl

/-- A row of cells is read whole. -/
theorem run_loadCells {w : World} {b i : Nat} : ∀ (vs : List Value) (j : Nat) (acc : Array Value), (∀ k v, vs[k]? = some v → cellOf w b (i + (j + k)) = some v) →
    (loadCellsFrom ⟨b, i, none⟩ j vs.length acc).run P w = .ok (acc ++ vs.toArray) w := by
  intro vs
  induction vs with
  | nil => intro j acc _; simp [loadCellsFrom, Sem.run, pure]
  | cons v vs ih =>
    intro j acc h
    have h0 := h 0 v rfl
    rw [← cell?_eq] at h0
    simp only [List.length_cons, loadCellsFrom]
    rw [Sem.run_bind, add_addr]
    have : (load ⟨b, i + j, none⟩ : Sem Value).run P w = .ok v w := by simp only [load, Sem.run, Nat.add_zero] at h0 ⊢; rw [h0]
    rw [this]
    simp only [Result.andThen]
    rw [ih (j + 1) (acc.push v) fun k u hk => by rw [show j + 1 + k = j + (k + 1) from by omega]; exact h (k + 1) u (by simpa using hk)]
    simp
theorem ldN_eq {w : World} {b i : Nat} (vs : List Value) (n : Nat) (hn : vs.length = n) (h : ∀ k v, vs[k]? = some v → cellOf w b (i + k) = some v) (K : KV) : ldN P n b i w K = K (.agg vs.toArray) w := by
  unfold ldN semT loadCells
  subst hn
  rw [Sem.run_bind, run_loadCells vs 0 #[] fun k v hk => by rw [Nat.zero_add]; exact h k v hk]
  simp [Result.andThen, Sem.run, pure]

/-- The world with a row of cells stored. -/
def setRow (w : World) (b i : Nat) : List Value → World
  | [] => w
  | v :: vs => setRow (w.setCell ⟨b, i, none⟩ v) b (i + 1) vs

theorem cellOf_setCell (w : World) (b i : Nat) (v : Value) (b' i' : Nat) : cellOf (w.setCell ⟨b, i, none⟩ v) b' i' = if b = b' ∧ i = i' then (cellOf w b' i').map fun _ => v else cellOf w b' i' := by
  unfold cellOf
  rw [setCell_heap]
  by_cases hb : b = b'
  · subst hb
    simp only [if_true, true_and]
    cases h : w.heap[b]? with
    | none => simp
    | some o =>
      cases o <;> simp [Obj.put]
      rename_i c e f
      rw [Array.getElem?_setIfInBounds]
      split
      · rename_i hi
        subst hi
        by_cases hlt : i < c.size <;> simp [hlt]
      · rfl
  · simp [hb]
theorem frzOf_setCell (w : World) (a : Addr) (v : Value) (b' i' : Nat) (ha : a.spot = none) : frzOf (w.setCell a v) b' i' = frzOf w b' i' := by
  obtain ⟨b, i, s⟩ := a
  simp only at ha
  subst ha
  unfold frzOf
  rw [setCell_heap]
  by_cases hb : b = b'
  · rw [if_pos hb]
    cases h : w.heap[b']? with
    | none => rfl
    | some o => cases o <;> rfl
  · rw [if_neg hb]

theorem run_storeCells : ∀ (vs : List Value) (w : World) (b i j : Nat), (∀ k v, vs[k]? = some v → (cellOf w b (i + (j + k))).isSome = true ∧ frzOf w b (i + (j + k)) = false ∧ oneC v = true) →
    (storeCells ⟨b, i, none⟩ vs j).run P w = .ok () (setRow w b (i + j) vs) := by
  intro vs
  induction vs with
  | nil => intro w b i j _; simp [storeCells, Sem.run, pure, setRow]
  | cons v vs ih =>
    intro w b i j h
    obtain ⟨h1, h2, h3⟩ := h 0 v rfl
    simp only [Nat.add_zero] at h1 h2
    have : (storeCells ⟨b, i, none⟩ (v :: vs) j : Sem Unit) = .store .plain ⟨b, i + j, none⟩ v (storeCells ⟨b, i, none⟩ vs (j + 1)) := by
      simp [storeCells, store, add_addr, bind, Sem.bind]
    rw [this, run_store1 h1 h2 h3, ih _ b i (j + 1) fun k u hk => ?_]
    · rfl
    · obtain ⟨g1, g2, g3⟩ := h (k + 1) u (by simpa using hk)
      rw [show j + 1 + k = j + (k + 1) from by omega]
      refine ⟨?_, ?_, g3⟩
      · rw [cellOf_setCell]
        split
        · simpa using g1
        · exact g1
      · rw [frzOf_setCell _ _ _ _ _ rfl]; exact g2
theorem stN_eq {w : World} {b i : Nat} (vs : List Value) (h : ∀ k v, vs[k]? = some v → (cellOf w b (i + k)).isSome = true ∧ frzOf w b (i + k) = false ∧ oneC v = true) (K : KV) :
    stN P b i vs w K = K undef (setRow w b i vs) := by
  unfold stN semU
  rw [run_storeCells vs w b i 0 fun k v hk => by rw [Nat.zero_add]; exact h k v hk]
  rfl

/-! ### New memory, and what reads no memory -/
theorem box_eq (t : TypeId) (v : Value) (w : World) (K : KV) : boxT P t v w K = K (.pointer (some ⟨w.heap.size, 0, none⟩)) (w.alloc (.cells v.cells t)) := Eq.trans rfl rfl
theorem ex_2_0 (x y : Value) (w : World) (K : KV) : exT P (.tuple #[x, y]) 0 w K = K x w := Eq.trans rfl rfl
theorem ex_2_1 (x y : Value) (w : World) (K : KV) : exT P (.tuple #[x, y]) 1 w K = K y w := Eq.trans rfl rfl
theorem ex_3_0 (x y z : Value) (w : World) (K : KV) : exT P (.tuple #[x, y, z]) 0 w K = K x w := Eq.trans rfl rfl
theorem ex_3_1 (x y z : Value) (w : World) (K : KV) : exT P (.tuple #[x, y, z]) 1 w K = K y w := Eq.trans rfl rfl
theorem ex_3_2 (x y z : Value) (w : World) (K : KV) : exT P (.tuple #[x, y, z]) 2 w K = K z w := Eq.trans rfl rfl
theorem nil_some (a : Addr) (w : World) (K : KV) : nilT (.pointer (some a)) w K = K (.pointer (some a)) w := Eq.trans rfl rfl
theorem not_eq (b : Bool) (w : World) (K : KV) : unT P .not (.bool b) w K = K (.bool (!b)) w := Eq.trans rfl rfl
theorem pick_eq (t : Bool) (a b : Value) (w : World) (K : KV) : pickT (.bool t) a b w K = K (cond t a b) w := Eq.trans rfl rfl
theorem cond_true (A B : Prop) : condT (.bool true) A B = A := Eq.trans rfl rfl
theorem cond_false (A B : Prop) : condT (.bool false) A B = B := Eq.trans rfl rfl
theorem cond_bool (b : Bool) (A B : Prop) : condT (.bool b) A B = ((b = true → A) ∧ (b = false → B)) := by cases b <;> simp [condT]
theorem cond_dec (p : Prop) [Decidable p] (A B : Prop) : condT (.bool (decide p)) A B = ((p → A) ∧ (¬p → B)) := by
  by_cases h : p <;> simp [condT, h]
theorem guard_true (f : KV → Prop) (w : World) (K : KV) : guardT true f w K = f K := Eq.trans rfl rfl
theorem guard_false (f : KV → Prop) (w : World) (K : KV) : guardT false f w K = K undef w := Eq.trans rfl rfl
theorem isB_bool (b t : Bool) : isB (.bool b) t = (b == t) := Eq.trans rfl rfl
theorem gv_0 (x : Value) (l : List Value) : gv (x :: l) 0 = x := Eq.trans rfl rfl
theorem gv_s (x : Value) (l : List Value) (k : Nat) : gv (x :: l) (k + 1) = gv l k := Eq.trans rfl rfl

section ints
variable (t : TypeId) (rx ry : Operand) (k : IntKind) (x y : Int) (w : World) (K : KV)
theorem bin_lss : binT P .lss t rx ry (.int k x) (.int k y) w K = K (.bool (decide (x < y))) w := by simp [binT, semT, eqGuard, binOp, Op.intCmp, Sem.run_bind, Result.andThen, Sem.run, pure]
theorem bin_leq : binT P .leq t rx ry (.int k x) (.int k y) w K = K (.bool (decide (x ≤ y))) w := by simp [binT, semT, eqGuard, binOp, Op.intCmp, Sem.run_bind, Result.andThen, Sem.run, pure]
theorem bin_gtr : binT P .gtr t rx ry (.int k x) (.int k y) w K = K (.bool (decide (y < x))) w := by simp [binT, semT, eqGuard, binOp, Op.intCmp, Sem.run_bind, Result.andThen, Sem.run, pure]
theorem bin_geq : binT P .geq t rx ry (.int k x) (.int k y) w K = K (.bool (decide (y ≤ x))) w := by simp [binT, semT, eqGuard, binOp, Op.intCmp, Sem.run_bind, Result.andThen, Sem.run, pure]
theorem bin_eql : binT P .eql t rx ry (.int k x) (.int k y) w K = K (.bool (decide (x = y))) w := by
  have : (x == y) = decide (x = y) := rfl
  simp [binT, semT, eqGuard, binOp, Op.intCmp, Sem.run_bind, Result.andThen, Sem.run, pure, this]
theorem bin_neq : binT P .neq t rx ry (.int k x) (.int k y) w K = K (.bool (decide (x ≠ y))) w := by
  have : (x != y) = decide (x ≠ y) := by by_cases h : x = y <;> simp [h]
  simp [binT, semT, eqGuard, binOp, Op.intCmp, Sem.run_bind, Result.andThen, Sem.run, pure, this]
theorem bin_add : binT P .add t rx ry (.int k x) (.int k y) w K = K (.int k (k.wrap (x + y))) w := by simp [binT, semT, eqGuard, binOp, Op.intArith, Sem.run_bind, Result.andThen, Sem.run, pure]
theorem bin_sub : binT P .sub t rx ry (.int k x) (.int k y) w K = K (.int k (k.wrap (x - y))) w := by simp [binT, semT, eqGuard, binOp, Op.intArith, Sem.run_bind, Result.andThen, Sem.run, pure]
theorem bin_mul : binT P .mul t rx ry (.int k x) (.int k y) w K = K (.int k (k.wrap (x * y))) w := by simp [binT, semT, eqGuard, binOp, Op.intArith, Sem.run_bind, Result.andThen, Sem.run, pure]
end ints
end
end Go.Eng
