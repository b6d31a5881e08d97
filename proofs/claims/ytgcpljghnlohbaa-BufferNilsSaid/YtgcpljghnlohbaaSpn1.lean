/-
  Spans: what is right, their cells. No condition.
-/
import Derived.Test.YtgcpljghnlohbaaSpn0
set_option maxRecDepth 100000
namespace Go.Proofs.Ytgcpljghnlohbaa
open Go.Eng

structure Spn where
  trace : Int
  id : Int
  parent : Int
  start : Int
  len : Int
  service : ByteArray
  name : ByteArray
  fail : Bool
def encS (s : Spn) : List Value := [.int .u64 s.trace, .int .u64 s.id, .int .u64 s.parent, .int .u64 s.start, .int .u64 s.len, .string s.service, .string s.name, .bool s.fail]
def aggS (s : Spn) : Value := .agg #[.int .u64 s.trace, .int .u64 s.id, .int .u64 s.parent, .int .u64 s.start, .int .u64 s.len, .string s.service, .string s.name, .bool s.fail]
theorem encS_len (s : Spn) : (encS s).length = 8 := rfl
theorem encS_one (s : Spn) : ∀ u ∈ encS s, oneC u = true := fun u hu => by
  simp only [encS, List.mem_cons, List.not_mem_nil, or_false] at hu
  rcases hu with rfl | rfl | rfl | rfl | rfl | rfl | rfl | rfl <;> rfl

@[simp] theorem max_int (t1 t2 ty : TypeId) (cs : List Bool) (k : IntKind) (x y : Int) (w : World) (K : KV) : biT P .max #[t1, t2] ty cs [.int k x, .int k y] w K = K (.int k (max x y)) w := by
  have : (if x < y then y else x) = max x y := by split <;> omega
  simp [biT, nextT, builtin, Builtin.max_, Builtin.max2, Sem.run_bind, Result.andThen, Sem.run_pure, this]
@[simp] theorem min_int (t1 t2 ty : TypeId) (cs : List Bool) (k : IntKind) (x y : Int) (w : World) (K : KV) : biT P .min #[t1, t2] ty cs [.int k x, .int k y] w K = K (.int k (min x y)) w := by
  have : (if y < x then y else x) = min x y := by split <;> omega
  simp [biT, nextT, builtin, Builtin.min_, Builtin.min2, Sem.run_bind, Result.andThen, Sem.run_pure, this]

/-! ### The first kind that is not OK -/
def encK (k : Int) : List Value := [.int .i64 k]
def orK (l : List Int) : Int := (l.find? fun k => !decide (k = 0)).getD 0
def OrI (w : World) (l : List Int) : KL := fun x w1 => ∃ (a b : Value) (i : Nat), x = [a, b, .int .i64 (i : Nat)] ∧ w1 = w ∧ i ≤ l.length ∧ ∀ (j : Nat) k, l[j]? = some k → j < i → k = 0
theorem or_ok {w : World} {v : Value} {l : List Int} (hs : Sl w 1 encK v l) (hlen : l.length ≤ 1000) {K : KV} (h : K (.int .i64 (orK l)) w) : callT P F.cmp_Or_api_Kind [v] w K := by
  apply M.cmp_Or_api_Kind.calls
  unfold M.cmp_Or_api_Kind
  simp only [joinT_eq]
  rw [hs.len_ok (by simp)]
  refine ⟨OrI w l, fun x _ => l.length - ms x 2, ⟨_, _, 0, rfl, rfl, Nat.zero_le _, fun j k _ h => by omega⟩, ?_⟩
  rintro x w1 ⟨a, b, i, rfl, rfl, hi, hz⟩
  have gv2 : gv [a, b, .int .i64 (i : Int)] 2 = .int .i64 (i : Int) := rfl
  simp only [gv2]
  by_cases hil : i < l.length
  · obtain ⟨bb, o, cap, rfl, hb, _, hr⟩ := hs.at hil
    have e0 := hr 0 _ rfl
    simp only [Nat.mul_one, Nat.add_zero] at e0
    have hw : IntKind.i64.wrap ((i : Int) + 1) = ((i + 1 : Nat) : Int) := by rw [wrap_id (by omega) (by omega)]; rfl
    simp [hil]
    unfold M.cmp_Or_api_Kind.j2
    simp only [joinT_eq, gv2]
    by_cases hk : l[i] = 0
    · simp [hil, e0, hk, hw]
      refine ⟨⟨_, _, i + 1, rfl, rfl, by omega, fun j k hj hlt => ?_⟩, by simp [ms, gv]; omega⟩
      by_cases hji : j = i
      · subst hji
        rw [List.getElem?_eq_getElem hil] at hj
        cases hj; exact hk
      · exact hz j k hj (by omega)
    · simp [hil, e0, hk]
      have : orK l = l[i] := by
        unfold orK
        have : l.find? (fun k => !decide (k = 0)) = some l[i] := by
          rw [List.find?_eq_some_iff_getElem]
          refine ⟨by simpa using hk, i, hil, rfl, fun j hj => ?_⟩
          have := hz j _ (List.getElem?_eq_getElem (by omega)) hj
          simp [this]
        rw [this]; rfl
      rw [this] at h; exact h
  · simp [hil]
    have : orK l = 0 := by
      unfold orK
      have : l.find? (fun k => !decide (k = 0)) = none := by
        rw [List.find?_eq_none]
        intro k hk
        obtain ⟨j, hj, rfl⟩ := List.mem_iff_getElem.1 hk
        have := hz j _ (List.getElem?_eq_getElem hj) (by omega)
        simp [this]
      rw [this]; rfl
    rw [this] at h; exact h

def rightK (s : Spn) : Int := if s.trace = 0 ∨ s.id = 0 ∨ 1099511627776 < max s.start s.len then 1 else orK [nameK s.service, nameK s.name]
theorem right_ok {w : World} (s : Spn) {K : KV} (h : ∀ w', Fr (fun _ => False) w w' → K (.int .i64 (rightK s)) w') : callT P F.span_Right [aggS s] w K := by
  apply M.span_Right.calls
  unfold M.span_Right aggS
  simp only [joinT_eq, box_eq, cells_agg]
  generalize hwa : w.alloc (.cells #[.int .u64 s.trace, .int .u64 s.id, .int .u64 s.parent, .int .u64 s.start, .int .u64 s.len, .string s.service, .string s.name, .bool s.fail] T.api_Span) = wa
  have hb : wa.heap[w.heap.size]? = some (.cells #[.int .u64 s.trace, .int .u64 s.id, .int .u64 s.parent, .int .u64 s.start, .int .u64 s.len, .string s.service, .string s.name, .bool s.fail] T.api_Span (0, 0)) := by rw [← hwa, alloc_heap, if_pos rfl]
  have hf : Fr (fun _ => False) w wa := by rw [← hwa]; exact (Fr.refl _ w).alloc _
  have c0 := cellOf_of hb 0
  have c1 := cellOf_of hb 1
  have c3 := cellOf_of hb 3
  have c4 := cellOf_of hb 4
  have c5 := cellOf_of hb 5
  have c6 := cellOf_of hb 6
  simp at c0 c1 c3 c4 c5 c6
  unfold rightK at h
  by_cases h0 : s.trace = 0
  · simp [c0, h0] at h ⊢
    exact h wa hf
  · by_cases h1 : s.id = 0
    · simp [c0, c1, h0, h1] at h ⊢
      exact h wa hf
    · by_cases h2 : 1099511627776 < max s.start s.len
      · simp [c0, c1, c3, c4, h0, h1, h2] at h ⊢
        exact h wa hf
      · simp [c0, c1, c3, c4, h0, h1, h2] at h ⊢
        unfold M.span_Right.j0
        simp [c5, c6]
        rw [M.span_Name.fcall]
        refine name_ok _ fun w2 f2 => ?_
        have f2' : Fr (fun _ => False) wa w2 := ⟨f2.size, f2.keep, f2.tape, f2.os, f2.output⟩
        have d6 : cellOf w2 w.heap.size 6 = some (.string s.name) := by rw [cellOf_heap (f2'.keep _ (heap_lt hb) fun h => h)]; exact c6
        simp [d6]
        rw [M.span_Name.fcall]
        refine name_ok _ fun w3 f3 => ?_
        simp
        rw [M.cmp_Or_api_Kind.fcall]
        have hsl : Sl (w3.alloc (.cells #[.int .i64 (nameK s.service), .int .i64 (nameK s.name)] T.api_Kind)) 1 encK (.slice (some ⟨w3.heap.size, 0, none⟩) 2 2) [nameK s.service, nameK s.name] := by
          refine ⟨_, 2, rfl, Nat.le_refl _, by decide, fun i x hi => ⟨_, 0, rfl, by simp, fun j u hu => ?_⟩⟩
          rw [cellOf_new rfl]
          match i with
          | 0 => simp at hi; subst hi; match j with
            | 0 => simpa [encK] using hu
            | j + 1 => simp [encK] at hu
          | 1 => simp at hi; subst hi; match j with
            | 0 => simpa [encK] using hu
            | j + 1 => simp [encK] at hu
          | i + 2 => simp at hi
        exact or_ok hsl (by simp) (h _ (((hf.trans f2').trans f3).alloc _))
end Go.Proofs.Ytgcpljghnlohbaa
