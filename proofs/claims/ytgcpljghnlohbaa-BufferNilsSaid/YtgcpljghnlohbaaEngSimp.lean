/-
  Rows that a program owns, told by their cells; and the laws that simp is to use. Laws over any program. No condition.
-/
import Derived.Test.YtgcpljghnlohbaaEngRows
namespace Go.Eng
theorem isB_undef (t : Bool) : isB undef t = false := Eq.trans rfl rfl
theorem quietT_eq (f : KV → Prop) (w : World) (K : Value → Prop) : quietT f w K = f fun v w' => w' = w ∧ K v := Eq.trans rfl rfl
theorem stabT_eq (f : KV → Prop) (w : World) (v : Value) : stabT f w v = f fun v' w' => w' = w ∧ v' = v := Eq.trans rfl rfl
theorem joinT_eq (F : KL → Prop) (K : KL) : joinT F K = F K := Eq.trans rfl rfl
attribute [simp] quietT_eq stabT_eq drawT_eq ld1_ok ia_ok sl_hi len_sl nil_some not_eq pick_eq cond_true cond_false guard_true guard_false isB_bool isB_undef
  bin_lss bin_leq bin_gtr bin_geq bin_eql bin_neq bin_add bin_sub bin_mul cellOf_dr frzOf_dr dr_heap gv_0 gv_s joinT_eq ex_2_0 ex_2_1 ex_3_0 ex_3_1 ex_3_2 box_eq setCell_size alloc_size

@[simp] theorem oneC_int (k : IntKind) (x : Int) : oneC (.int k x) = true := Eq.trans rfl rfl
@[simp] theorem cells_int (k : IntKind) (x : Int) : (Value.int k x).cells = #[.int k x] := Eq.trans rfl rfl
@[simp] theorem oneC_bool (b : Bool) : oneC (.bool b) = true := Eq.trans rfl rfl
@[simp] theorem cells_bool (b : Bool) : (Value.bool b).cells = #[.bool b] := Eq.trans rfl rfl
@[simp] theorem oneC_string (s : ByteArray) : oneC (.string s) = true := Eq.trans rfl rfl
@[simp] theorem cells_string (s : ByteArray) : (Value.string s).cells = #[.string s] := Eq.trans rfl rfl
@[simp] theorem oneC_pointer (p : Option Addr) : oneC (.pointer p) = true := Eq.trans rfl rfl
@[simp] theorem cells_pointer (p : Option Addr) : (Value.pointer p).cells = #[.pointer p] := Eq.trans rfl rfl
@[simp] theorem oneC_slice (p : Option Addr) (l c : Nat) : oneC (.slice p l c) = true := Eq.trans rfl rfl
@[simp] theorem cells_slice (p : Option Addr) (l c : Nat) : (Value.slice p l c).cells = #[.slice p l c] := Eq.trans rfl rfl
@[simp] theorem oneC_map (r : Option Nat) : oneC (.map r) = true := Eq.trans rfl rfl
@[simp] theorem cells_map (r : Option Nat) : (Value.map r).cells = #[.map r] := Eq.trans rfl rfl
@[simp] theorem oneC_func (f : Fn) (x y : Array Value) : oneC (.func f x y) = true := Eq.trans rfl rfl
@[simp] theorem cells_func (f : Fn) (x y : Array Value) : (Value.func f x y).cells = #[.func f x y] := Eq.trans rfl rfl
@[simp] theorem oneC_nilFunc  : oneC (.nilFunc ) = true := Eq.trans rfl rfl
@[simp] theorem cells_nilFunc  : (Value.nilFunc ).cells = #[.nilFunc ] := Eq.trans rfl rfl
@[simp] theorem oneC_iface (t : TypeId) (v : Value) : oneC (.iface t v) = true := Eq.trans rfl rfl
@[simp] theorem cells_iface (t : TypeId) (v : Value) : (Value.iface t v).cells = #[.iface t v] := Eq.trans rfl rfl
@[simp] theorem oneC_nilIface  : oneC (.nilIface ) = true := Eq.trans rfl rfl
@[simp] theorem cells_nilIface  : (Value.nilIface ).cells = #[.nilIface ] := Eq.trans rfl rfl
@[simp] theorem cells_agg (c : Array Value) : (Value.agg c).cells = c := Eq.trans rfl rfl

@[simp] theorem st1_int {P : Program} {w : World} {b i : Nat} (k : IntKind) (x : Int) (h : (cellOf w b i).isSome = true) (hf : frzOf w b i = false) (K : KV) : st1 P b i (.int k x) w K = K undef (w.setCell ⟨b, i, none⟩ (.int k x)) := st1_ok h hf rfl K
@[simp] theorem st1_bool {P : Program} {w : World} {b i : Nat} (b' : Bool) (h : (cellOf w b i).isSome = true) (hf : frzOf w b i = false) (K : KV) : st1 P b i (.bool b') w K = K undef (w.setCell ⟨b, i, none⟩ (.bool b')) := st1_ok h hf rfl K
@[simp] theorem st1_string {P : Program} {w : World} {b i : Nat} (s : ByteArray) (h : (cellOf w b i).isSome = true) (hf : frzOf w b i = false) (K : KV) : st1 P b i (.string s) w K = K undef (w.setCell ⟨b, i, none⟩ (.string s)) := st1_ok h hf rfl K
@[simp] theorem st1_pointer {P : Program} {w : World} {b i : Nat} (p : Option Addr) (h : (cellOf w b i).isSome = true) (hf : frzOf w b i = false) (K : KV) : st1 P b i (.pointer p) w K = K undef (w.setCell ⟨b, i, none⟩ (.pointer p)) := st1_ok h hf rfl K
@[simp] theorem st1_slice {P : Program} {w : World} {b i : Nat} (p : Option Addr) (l c : Nat) (h : (cellOf w b i).isSome = true) (hf : frzOf w b i = false) (K : KV) : st1 P b i (.slice p l c) w K = K undef (w.setCell ⟨b, i, none⟩ (.slice p l c)) := st1_ok h hf rfl K
@[simp] theorem st1_map {P : Program} {w : World} {b i : Nat} (r : Option Nat) (h : (cellOf w b i).isSome = true) (hf : frzOf w b i = false) (K : KV) : st1 P b i (.map r) w K = K undef (w.setCell ⟨b, i, none⟩ (.map r)) := st1_ok h hf rfl K
@[simp] theorem st1_func {P : Program} {w : World} {b i : Nat} (f : Fn) (x y : Array Value) (h : (cellOf w b i).isSome = true) (hf : frzOf w b i = false) (K : KV) : st1 P b i (.func f x y) w K = K undef (w.setCell ⟨b, i, none⟩ (.func f x y)) := st1_ok h hf rfl K
@[simp] theorem st1_nilFunc {P : Program} {w : World} {b i : Nat}  (h : (cellOf w b i).isSome = true) (hf : frzOf w b i = false) (K : KV) : st1 P b i (.nilFunc ) w K = K undef (w.setCell ⟨b, i, none⟩ (.nilFunc )) := st1_ok h hf rfl K
@[simp] theorem st1_iface {P : Program} {w : World} {b i : Nat} (t : TypeId) (v : Value) (h : (cellOf w b i).isSome = true) (hf : frzOf w b i = false) (K : KV) : st1 P b i (.iface t v) w K = K undef (w.setCell ⟨b, i, none⟩ (.iface t v)) := st1_ok h hf rfl K
@[simp] theorem st1_nilIface {P : Program} {w : World} {b i : Nat}  (h : (cellOf w b i).isSome = true) (hf : frzOf w b i = false) (K : KV) : st1 P b i (.nilIface ) w K = K undef (w.setCell ⟨b, i, none⟩ (.nilIface )) := st1_ok h hf rfl K

section
variable {w w' : World} {base : Nat} {e : TypeId} {sz n : Nat} {v : Value} {xs : List Value}
theorem row_form (h : w.ownsRow base e sz v n xs) (hn : 0 < n) : ∃ g cap cur, v = .slice (some ⟨g, 0, none⟩) n cap ∧ base ≤ g ∧ w.heap[g]? = some (.cells cur e (0, 0)) ∧ n ≤ cap ∧ cap ≤ maxLen ∧ cur.size = cap * sz ∧ cur.toList.take (n * sz) = xs := by
  rcases h.2 with ⟨_, h0⟩ | ⟨g, cap, cur, hv, h⟩
  · omega
  · exact ⟨g, cap, cur, hv, h⟩
theorem row_len (h : w.ownsRow base e sz v n xs) : xs.length = n * sz := h.1
theorem row_at (h : w.ownsRow base e sz v n xs) {g : Nat} (hg : v.ownBlock = some g) : ∃ cap cur, v = .slice (some ⟨g, 0, none⟩) n cap ∧ base ≤ g ∧ w.heap[g]? = some (.cells cur e (0, 0)) ∧ n ≤ cap ∧ cap ≤ maxLen ∧ cur.size = cap * sz ∧ cur.toList.take (n * sz) = xs := by
  rcases h.2 with ⟨rfl, _⟩ | ⟨g', cap, cur, rfl, h'⟩
  · simp [Value.ownBlock] at hg
  · simp only [Value.ownBlock, Option.some.injEq] at hg
    subst hg
    exact ⟨cap, cur, rfl, h'.1, h'.2⟩
theorem row_cell (h : w.ownsRow base e sz v n xs) {g : Nat} (hg : v.ownBlock = some g) {i : Nat} {x : Value} (hx : xs[i]? = some x) : cellOf w g i = some x := by
  obtain ⟨cap, cur, _, _, hb, _, _, _, ht⟩ := row_at h hg
  rw [cellOf_of hb]
  rw [← ht, List.getElem?_take] at hx
  split at hx
  · simpa using hx
  · cases hx
theorem row_frz (h : w.ownsRow base e sz v n xs) {g : Nat} (hg : v.ownBlock = some g) (i : Nat) : frzOf w g i = false := by
  obtain ⟨cap, cur, _, _, hb, _⟩ := row_at h hg
  exact frzOf_of hb i
theorem row_set (h : w.ownsRow base e sz v n xs) {g : Nat} (hg : v.ownBlock = some g) (i : Nat) (x : Value) : (w.setCell ⟨g, i, none⟩ x).ownsRow base e sz v n (xs.set i x) := by
  obtain ⟨cap, cur, hv, hb0, hb, h1, h2, h3, ht⟩ := row_at h hg
  refine ⟨by rw [List.length_set]; exact h.1, .inr ⟨g, cap, cur.setIfInBounds i x, hv, hb0, ?_, h1, h2, by simpa using h3, ?_⟩⟩
  · rw [setCell_heap, if_pos rfl, hb]; rfl
  · rw [Array.toList_setIfInBounds, List.take_set, ht]
theorem row_keep (h : w.ownsRow base e sz v n xs) (hk : ∀ g, v.ownBlock = some g → w'.heap[g]? = w.heap[g]?) : w'.ownsRow base e sz v n xs := by
  refine ⟨h.1, ?_⟩
  rcases h.2 with hn | ⟨g, cap, cur, rfl, hb, hg, rest⟩
  · exact .inl hn
  · exact .inr ⟨g, cap, cur, rfl, hb, (hk g rfl).trans hg, rest⟩
theorem row_take {g cap : Nat} (h : w.ownsRow base e sz (.slice (some ⟨g, 0, none⟩) n cap) n xs) {m : Nat} (hm : m ≤ n) : w.ownsRow base e sz (.slice (some ⟨g, 0, none⟩) m cap) m (xs.take (m * sz)) := by
  obtain ⟨cap', cur, hv, hb0, hb, h1, h2, h3, ht⟩ := row_at h rfl
  injection hv with _ _ hc
  subst hc
  have hms : m * sz ≤ n * sz := Nat.mul_le_mul_right _ hm
  refine ⟨?_, .inr ⟨g, cap, cur, rfl, hb0, hb, Nat.le_trans hm h1, h2, h3, ?_⟩⟩
  · rw [List.length_take, h.1]; omega
  · rw [← ht, List.take_take]; congr 1; omega
end
theorem setCell_ne {w : World} {b i : Nat} {v : Value} {b' : Nat} (h : b ≠ b') : (w.setCell ⟨b, i, none⟩ v).heap[b']? = w.heap[b']? := by rw [setCell_heap, if_neg h]
theorem setCell_at {w : World} {b i : Nat} {v : Value} {c : Array Value} {e : TypeId} {f : Nat × Nat} (h : w.heap[b]? = some (.cells c e f)) : (w.setCell ⟨b, i, none⟩ v).heap[b]? = some (.cells (c.setIfInBounds i v) e f) := by
  rw [setCell_heap, if_pos rfl, h]; rfl
theorem wrap_id {x : Int} (h0 : -9223372036854775808 ≤ x) (h1 : x < 9223372036854775808) : IntKind.i64.wrap x = x := by
  show (if (true && decide (x % 18446744073709551616 ≥ 9223372036854775808)) = true then x % 18446744073709551616 - 18446744073709551616 else x % 18446744073709551616) = x
  split <;> rename_i h <;> simp at h <;> omega
theorem wrap_u64 {x : Int} (h0 : 0 ≤ x) (h1 : x < 18446744073709551616) : IntKind.u64.wrap x = x := by
  show (if (false && decide (x % 18446744073709551616 ≥ 9223372036854775808)) = true then x % 18446744073709551616 - 18446744073709551616 else x % 18446744073709551616) = x
  simp; omega
theorem bin_quo2 {P : Program} (t : TypeId) (rx ry : Operand) (k : IntKind) (x : Int) (w : World) (K : KV) : binT P .quo t rx ry (.int k x) (.int k 2) w K = K (.int k (k.wrap (x.tdiv 2))) w := by
  simp [binT, semT, eqGuard, binOp, Op.intDiv, Sem.run_bind, Result.andThen, Sem.run, pure]
attribute [simp] bin_quo2
/-- The number in a place of a loop's values, as a measure. -/
def ms (x : List Value) (i : Nat) : Nat := match gv x i with
  | .int _ k => k.toNat
  | _ => 0
end Go.Eng
