/-
  The laws of the timers, from what is known of their arguments. No condition.
-/
import Derived.Test.YtiolnbhnahlphaaRows
import Derived.Test.YtiolnbhnahlphaaTim7
namespace Go.Proofs.Ytiolnbhnahlphaa
open Go.Eng

theorem wf_u64 {x : Int} (h : (Lit.int .u64 x).wf = true) : 0 ≤ x ∧ x ≤ 18446744073709551615 := by
  simp [Lit.wf, IntKind.min, IntKind.max, IntKind.bits, IntKind.signed] at h
  exact ⟨h.1, h.2⟩
theorem dues {w : World} {n : Nat} {v : Value} (h : TV P w n T.sl_winnowref15_Due [v]) : ∃ l, SlOf w 2 rdDue v l := by
  refine sl_of_tv (sz := 2) Try.underlying22 (by kernel_rfl) (by decide) (fun n b o cs ht hl hc => ?_) h
  obtain ⟨_, hf⟩ := tv_struct Try.underlying33 ht
  obtain ⟨m0, t0⟩ := hf 0 _ rfl
  obtain ⟨m1, t1⟩ := hf 1 _ rfl
  obtain ⟨x0, e0, w0⟩ := tv_int Try.underlying31 t0
  obtain ⟨x1, e1, w1⟩ := tv_int Try.underlying31 t1
  have c1 : Try.prog.cellsOf 31 = 1 := by kernel_rfl
  match cs, hl with
  | [u0, u1], _ =>
    simp [c1] at e0 e1
    subst e0 e1
    exact ⟨(x0, x1), hc 0 _ rfl, hc 1 _ rfl, wf_u64 w0, wf_u64 w1⟩

theorem TimersLast_law {W : World} {n0 : Nat} {v0 : Value} (h0 : TV P W n0 T.sl_winnowref15_Due [v0]) {a1 : Int} (_ : (Lit.int .u64 a1).wf = true) {a2 : Int} (_ : (Lit.int .u64 a2).wf = true) {K : KV} (h : ∀ w', Fr (fun _ => False) W w' → K (.bool true) w') : callT P F.winnowlaw15_TimersLast [v0, .int .u64 a1, .int .u64 a2] W K := by
  obtain ⟨l, hl⟩ := dues h0
  exact last_ok hl a1 a2 h
end Go.Proofs.Ytiolnbhnahlphaa
