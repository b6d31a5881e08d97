/-
  The law BufferNils. No condition.
-/
import Derived.Test.YtgcpljghnlohbaaBufH
set_option maxRecDepth 100000
namespace Go.Proofs.Ytgcpljghnlohbaa
open Go.Eng

theorem spn_of {w : World} {n : Nat} {cs : List Value} (ht : TV P w n T.api_Span cs) : ∃ s, cs = encS s := by
  obtain ⟨hl, hf⟩ := tv_struct Try.underlying31 ht
  have hl8 : Try.prog.cellsOf T.api_Span = 8 := by kernel_rfl
  rw [hl8] at hl
  obtain ⟨m0, t0⟩ := hf 0 _ rfl
  obtain ⟨m1, t1⟩ := hf 1 _ rfl
  obtain ⟨m2, t2⟩ := hf 2 _ rfl
  obtain ⟨m3, t3⟩ := hf 3 _ rfl
  obtain ⟨m4, t4⟩ := hf 4 _ rfl
  obtain ⟨m5, t5⟩ := hf 5 _ rfl
  obtain ⟨m6, t6⟩ := hf 6 _ rfl
  obtain ⟨m7, t7⟩ := hf 7 _ rfl
  obtain ⟨x0, e0, _⟩ := tv_int Try.underlying22 t0
  obtain ⟨x1, e1, _⟩ := tv_int Try.underlying22 t1
  obtain ⟨x2, e2, _⟩ := tv_int Try.underlying22 t2
  obtain ⟨x3, e3, _⟩ := tv_int Try.underlying22 t3
  obtain ⟨x4, e4, _⟩ := tv_int Try.underlying22 t4
  obtain ⟨x5, e5, _⟩ := tv_string Try.underlying9 t5
  obtain ⟨x6, e6, _⟩ := tv_string Try.underlying9 t6
  obtain ⟨x7, e7⟩ := tv_bool Try.underlying4 t7
  have c0 : Try.prog.cellsOf 22 = 1 := by kernel_rfl
  have c1 : Try.prog.cellsOf 9 = 1 := by kernel_rfl
  have c2 : Try.prog.cellsOf 4 = 1 := by kernel_rfl
  match cs, hl with
  | [u0, u1, u2, u3, u4, u5, u6, u7], _ =>
    simp [c0, c1, c2] at e0 e1 e2 e3 e4 e5 e6 e7
    subst e0 e1 e2 e3 e4 e5 e6 e7
    exact ⟨⟨x0, x1, x2, x3, x4, x5, x6, x7⟩, rfl⟩
theorem agg_of {w : World} {n : Nat} {c : Array Value} (ht : TV P w n T.api_Span c.toList) : ∃ s, (Value.agg c) = aggS s := by
  obtain ⟨s, hs⟩ := spn_of ht
  refine ⟨s, ?_⟩
  unfold aggS
  congr 1
  apply Array.toList_inj.1
  rw [hs]; rfl

theorem get_nil {w : World} {k : Int} {K : KV} (h : K (.tuple #[.slice none 0 0, .bool false, .bool false]) w) : callT P F.pbuffer_Buffer_Get [.pointer none, .int .u64 k] w K := by
  apply M.pbuffer_Buffer_Get.calls
  unfold M.pbuffer_Buffer_Get
  simp
  exact h
theorem put_nil {w : World} (s : Spn) {k : Int} {K : KV} (h : ∀ w', Fr (fun _ => False) w w' → K (.int .i64 13) w') : callT P F.pbuffer_Buffer_Put [.pointer none, aggS s, .int .u64 k] w K := by
  apply M.pbuffer_Buffer_Put.calls
  unfold M.pbuffer_Buffer_Put
  rw [box_agg]
  simp
  exact h _ ((Fr.refl _ w).alloc _)
theorem due_nil {w : World} {k : Int} {K : KV} (h : K (.slice none 0 0) w) : callT P F.pbuffer_Buffer_Due [.pointer none, .int .u64 k] w K := by
  apply M.pbuffer_Buffer_Due.calls
  unfold M.pbuffer_Buffer_Due
  simp
  exact h
theorem take_nil {w : World} {k : Int} {K : KV} (h : K (.slice none 0 0) w) : callT P F.pbuffer_Buffer_Take [.pointer none, .int .u64 k] w K := by
  apply M.pbuffer_Buffer_Take.calls
  unfold M.pbuffer_Buffer_Take
  simp
  exact h
theorem traces_nil {w : World} {K : KV} (h : K (.slice none 0 0) w) : callT P F.pbuffer_Buffer_Traces [.pointer none] w K := by
  apply M.pbuffer_Buffer_Traces.calls
  unfold M.pbuffer_Buffer_Traces
  simp
  exact h
theorem delay_nil {w : World} {k t : Int} {K : KV} (h : K (.bool false) w) : callT P F.pbuffer_Buffer_Delay [.pointer none, .int .u64 k, .int .u64 t] w K := by
  apply M.pbuffer_Buffer_Delay.calls
  unfold M.pbuffer_Buffer_Delay
  simp
  exact h

theorem bufferNils_ok {W : World} (s : Spn) {now : Int} {K : KV} (h : ∀ w', Fr (fun _ => False) W w' → K (.bool true) w') : callT P F.winnowlaw16_BufferNils [aggS s, .int .u64 now] W K := by
  apply M.winnowlaw16_BufferNils.calls
  unfold M.winnowlaw16_BufferNils
  rw [box_agg]
  generalize hwa : W.alloc (.cells #[.int .u64 s.trace, .int .u64 s.id, .int .u64 s.parent, .int .u64 s.start, .int .u64 s.len, .string s.service, .string s.name, .bool s.fail] T.api_Span) = wa
  have hb : boxS wa W.heap.size s := by rw [← hwa]; exact boxS_new W s
  have hf : Fr (fun _ => False) W wa := by rw [← hwa]; exact (Fr.refl _ W).alloc _
  have c0 := boxS_at hb 0 _ rfl
  have c6 := boxS_at hb 6 _ rfl
  have c5 := boxS_at hb 5 _ rfl
  simp only [joinT_eq]
  by_cases h6 : 200 < s.name.size
  · have h6' : (200 : Int) < s.name.size := by omega
    simp [c6, h6']
    rw [M.winnowlaw16_alive.fcall]
    exact alive_ok fun w' f => h w' (hf.trans f)
  have h6' : ¬ (200 : Int) < s.name.size := by omega
  by_cases h5 : 200 < s.service.size
  · have h5' : (200 : Int) < s.service.size := by omega
    simp [c6, h6', c5, h5']
    rw [M.winnowlaw16_alive.fcall]
    exact alive_ok fun w' f => h w' (hf.trans f)
  have h5' : ¬ (200 : Int) < s.service.size := by omega
  simp [c6, h6', c5, h5']
  unfold M.winnowlaw16_BufferNils.j0
  simp [c0]
  rw [M.pbuffer_Buffer_Get.fcall]
  refine get_nil ?_
  simp
  rw [ldBox hb, M.pbuffer_Buffer_Put.fcall]
  refine put_nil s fun w2 f2 => ?_
  simp
  rw [M.pbuffer_Buffer_Due.fcall]
  refine due_nil ?_
  simp
  rw [M.pbuffer_Buffer_Take.fcall]
  refine take_nil ?_
  have w0 : IntKind.i64.wrap 0 = 0 := wrap_id (by omega) (by omega)
  simp [w0]
  rw [M.pbuffer_Buffer_Traces.fcall]
  refine traces_nil ?_
  simp [w0]
  rw [M.pbuffer_Buffer_Delay.fcall]
  refine delay_nil ?_
  simp
  rw [M.winnowlaw16_alive.fcall]
  refine alive_ok fun w' f => ?_
  exact h w' ((hf.trans f2).trans f)

theorem BufferNils_law {W : World} {n0 : Nat} {c0 : Array Value} (h0 : TV P W n0 T.api_Span c0.toList) {a1 : Int} (h1 : (Lit.int .u64 a1).wf = true) {K : KV}
    (h : ∀ w', Fr (fun _ => False) W w' → K (.bool true) w') : callT P F.winnowlaw16_BufferNils [.agg c0, .int .u64 a1] W K := by
  obtain ⟨s, hs⟩ := agg_of h0
  rw [hs]
  exact bufferNils_ok s h
end Go.Proofs.Ytgcpljghnlohbaa
