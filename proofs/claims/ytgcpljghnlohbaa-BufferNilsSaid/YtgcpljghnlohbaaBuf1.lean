/-
  A buffer of traces: does a trace have a span? No condition.
-/
import Derived.Test.YtgcpljghnlohbaaBuf0
set_option maxRecDepth 100000
namespace Go.Proofs.Ytgcpljghnlohbaa
open Go.Eng

/-- The box of a span. -/
def boxS (w : World) (b : Nat) (s : Spn) : Prop := w.heap[b]? = some (.cells #[.int .u64 s.trace, .int .u64 s.id, .int .u64 s.parent, .int .u64 s.start, .int .u64 s.len, .string s.service, .string s.name, .bool s.fail] T.api_Span (0, 0))
theorem box_agg (s : Spn) (w : World) (K : KV) : boxT P T.api_Span (aggS s) w K = K (.pointer (some ⟨w.heap.size, 0, none⟩)) (w.alloc (.cells #[.int .u64 s.trace, .int .u64 s.id, .int .u64 s.parent, .int .u64 s.start, .int .u64 s.len, .string s.service, .string s.name, .bool s.fail] T.api_Span)) := by
  rw [box_eq]; rfl
theorem boxS_new (w : World) (s : Spn) : boxS (w.alloc (.cells #[.int .u64 s.trace, .int .u64 s.id, .int .u64 s.parent, .int .u64 s.start, .int .u64 s.len, .string s.service, .string s.name, .bool s.fail] T.api_Span)) w.heap.size s := by
  unfold boxS; rw [alloc_heap, if_pos rfl]
theorem boxS_at {w : World} {b : Nat} {s : Spn} (h : boxS w b s) : ∀ k v, (encS s)[k]? = some v → cellOf w b k = some v := fun k v hk => by
  rw [cellOf_of h]
  have : (#[.int .u64 s.trace, .int .u64 s.id, .int .u64 s.parent, .int .u64 s.start, .int .u64 s.len, .string s.service, .string s.name, .bool s.fail] : Array Value) = (encS s).toArray := rfl
  rw [this]; simpa using hk
theorem ldS {w : World} {b i : Nat} {s : Spn} (h : ∀ k v, (encS s)[k]? = some v → cellOf w b (i + k) = some v) (K : KV) : ldN P 8 b i w K = K (aggS s) w := ldN_eq (encS s) 8 rfl h K

theorem clos_ok {w : World} {sb : Nat} (x : Spn) {id : Int} (hc : cellOf w sb 1 = some (.int .u64 id)) (hlt : sb < w.heap.size) {K : KV} (h : ∀ w', Fr (fun _ => False) w w' → K (.bool (decide (x.id = id))) w') : callT P F.pbuffer_Buffer_Put_1 [aggS x, .pointer (some ⟨sb, 0, none⟩)] w K := by
  apply M.pbuffer_Buffer_Put_1.calls
  unfold M.pbuffer_Buffer_Put_1
  rw [box_agg]
  generalize hwa : w.alloc (.cells #[.int .u64 x.trace, .int .u64 x.id, .int .u64 x.parent, .int .u64 x.start, .int .u64 x.len, .string x.service, .string x.name, .bool x.fail] T.api_Span) = wa
  have hb : boxS wa w.heap.size x := by rw [← hwa]; exact boxS_new w x
  have hf : Fr (fun _ => False) w wa := by rw [← hwa]; exact (Fr.refl _ w).alloc _
  have c1 := boxS_at hb 1 _ rfl
  have d1 : cellOf wa sb 1 = some (.int .u64 id) := by rw [cellOf_heap (hf.keep sb hlt fun h => h)]; exact hc
  simp [c1, d1]
  exact h wa hf

def IdxI (w : World) (l : List Spn) (id : Int) : KL := fun x w1 => ∃ (a b : Value) (i : Nat), x = [a, b, .int .i64 (i : Nat)] ∧ Fr (fun _ => False) w w1 ∧ i ≤ l.length ∧ ∀ (j : Nat) s, l[j]? = some s → j < i → s.id ≠ id
theorem contains_ok {w : World} {v : Value} {l : List Spn} (hs : SlS w v l) (hlen : l.length ≤ 1000000) {sb : Nat} {id : Int} (hc : cellOf w sb 1 = some (.int .u64 id)) (hlt : sb < w.heap.size) {K : KV}
    (h : ∀ w', Fr (fun _ => False) w w' → K (.bool (l.any fun s => decide (s.id = id))) w') : callT P F.slices_ContainsFunc_api_Span_api_Span [v, .func (.func F.pbuffer_Buffer_Put_1) [].toArray [.pointer (some ⟨sb, 0, none⟩)].toArray] w K := by
  apply M.slices_ContainsFunc_api_Span_api_Span.calls
  unfold M.slices_ContainsFunc_api_Span_api_Span
  rw [M.slices_IndexFunc_api_Span_api_Span.fcall]
  apply M.slices_IndexFunc_api_Span_api_Span.calls
  unfold M.slices_IndexFunc_api_Span_api_Span
  simp only [joinT_eq]
  rw [hs.len_ok (by simp)]
  refine ⟨IdxI w l id, fun x _ => l.length - ms x 2, ⟨_, _, 0, rfl, Fr.refl _ _, Nat.zero_le _, fun j k _ h => by omega⟩, ?_⟩
  rintro x w1 ⟨a, b, i, rfl, f1, hi, hz⟩
  have gv2 : gv [a, b, .int .i64 (i : Int)] 2 = .int .i64 (i : Int) := rfl
  simp only [gv2]
  have hs1 : SlS w1 v l := hs.fr f1 fun _ _ _ h => h
  by_cases hil : i < l.length
  · obtain ⟨bb, o, cap, rfl, hb, _, hr⟩ := hs1.at hil
    have hw : IntKind.i64.wrap ((i : Int) + 1) = ((i + 1 : Nat) : Int) := by rw [wrap_id (by omega) (by omega)]; rfl
    simp [hil]
    unfold M.slices_IndexFunc_api_Span_api_Span.j2
    simp only [joinT_eq, gv2]
    simp [hil]
    rw [ldS hr]
    have hcv := callV_eq (P := P) F.pbuffer_Buffer_Put_1 [] [.pointer (some ⟨sb, 0, none⟩)] [aggS l[i]] w1
    simp only [List.nil_append, List.cons_append] at hcv
    rw [hcv, M.pbuffer_Buffer_Put_1.fcall]
    refine clos_ok l[i] (id := id) (by rw [cellOf_heap (f1.keep sb hlt fun h => h)]; exact hc) (Nat.lt_of_lt_of_le hlt f1.size) fun w2 f2 => ?_
    by_cases hk : l[i].id = id
    · simp [hk]
      have : (l.any fun s => decide (s.id = id)) = true := List.any_eq_true.2 ⟨l[i], List.getElem_mem hil, by simpa using hk⟩
      have hh := h w2 (f1.trans f2)
      rw [this] at hh; exact hh
    · simp [hk, hw]
      refine ⟨⟨_, _, i + 1, rfl, f1.trans f2, by omega, fun j s hj hlt => ?_⟩, by simp [ms, gv]; omega⟩
      by_cases hji : j = i
      · subst hji
        rw [List.getElem?_eq_getElem hil] at hj
        cases hj; exact hk
      · exact hz j s hj (by omega)
  · simp [hil]
    have : (l.any fun s => decide (s.id = id)) = false := by
      rw [List.any_eq_false]
      intro s hs
      obtain ⟨j, hj, rfl⟩ := List.mem_iff_getElem.1 hs
      have := hz j _ (List.getElem?_eq_getElem hj) (by omega)
      simpa using this
    have hh := h w1 f1
    rw [this] at hh; exact hh
end Go.Proofs.Ytgcpljghnlohbaa
