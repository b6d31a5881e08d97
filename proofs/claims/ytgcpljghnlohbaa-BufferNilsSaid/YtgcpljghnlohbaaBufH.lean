/-
  The law BufferDue, from what is known of its arguments. No condition.
-/
import Derived.Test.YtgcpljghnlohbaaBufG
set_option maxRecDepth 100000
namespace Go.Proofs.Ytgcpljghnlohbaa
open Go.Eng

theorem wf_u64 {x : Int} (h : (Lit.int .u64 x).wf = true) : 0 ≤ x ∧ x ≤ 18446744073709551615 := by
  simp [Lit.wf, IntKind.min, IntKind.max, IntKind.bits, IntKind.signed] at h
  exact ⟨h.1, h.2⟩
theorem spans_of {w : World} {n : Nat} {v : Value} (h : TV P w n T.sl_api_Span [v]) : ∃ l, SlS w v l := by
  refine sl_of_tv (sz := 8) (rd := rdE encS) Try.underlying23 (by kernel_rfl) (by decide) (fun n b o cs ht hl hc => ?_) h
  obtain ⟨_, hf⟩ := tv_struct Try.underlying31 ht
  obtain ⟨m0, t0⟩ := hf 0 _ rfl
  obtain ⟨m1, t1⟩ := hf 1 _ rfl
  obtain ⟨m2, t2⟩ := hf 2 _ rfl
  obtain ⟨m3, t3⟩ := hf 3 _ rfl
  obtain ⟨m4, t4⟩ := hf 4 _ rfl
  obtain ⟨m5, t5⟩ := hf 5 _ rfl
  obtain ⟨m6, t6⟩ := hf 6 _ rfl
  obtain ⟨m7, t7⟩ := hf 7 _ rfl
  obtain ⟨x0, e0, _⟩ := tv_int Try.underlying22 t0
  obtain ⟨x1, e1, _⟩ := tv_int Try.underlying22 t1
  obtain ⟨x2, e2, _⟩ := tv_int Try.underlying22 t2
  obtain ⟨x3, e3, _⟩ := tv_int Try.underlying22 t3
  obtain ⟨x4, e4, _⟩ := tv_int Try.underlying22 t4
  obtain ⟨x5, e5, _⟩ := tv_string Try.underlying9 t5
  obtain ⟨x6, e6, _⟩ := tv_string Try.underlying9 t6
  obtain ⟨x7, e7⟩ := tv_bool Try.underlying4 t7
  have c0 : Try.prog.cellsOf 22 = 1 := by kernel_rfl
  have c1 : Try.prog.cellsOf 9 = 1 := by kernel_rfl
  have c2 : Try.prog.cellsOf 4 = 1 := by kernel_rfl
  match cs, hl with
  | [u0, u1, u2, u3, u4, u5, u6, u7], _ =>
    simp [c0, c1, c2] at e0 e1 e2 e3 e4 e5 e6 e7
    subst e0 e1 e2 e3 e4 e5 e6 e7
    exact ⟨⟨x0, x1, x2, x3, x4, x5, x6, x7⟩, fun j u hj => hc j u hj⟩

theorem BufferDue_law {W : World} {a0 : Int} (h0 : (Lit.int .u64 a0).wf = true) {n1 : Nat} {v1 : Value} (h1 : TV P W n1 T.sl_api_Span [v1]) {a2 : Int} (h2 : (Lit.int .u64 a2).wf = true) {a3 : Int} (h3 : (Lit.int .u64 a3).wf = true) {K : KV}
    (h : ∀ w', Fr (fun _ => False) W w' → K (.bool true) w') : callT P F.winnowlaw16_BufferDue [.int .u64 a0, v1, .int .u64 a2, .int .u64 a3] W K := by
  obtain ⟨l, hl⟩ := spans_of h1
  exact bufferDue_ok (wf_u64 h0).1 (wf_u64 h2).1 (wf_u64 h3).1 hl h
end Go.Proofs.Ytgcpljghnlohbaa
