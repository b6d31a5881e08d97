/-
  The statement ReplicaOnce. No condition.
-/
import Derived.Test.YtfnhoaemapheoaaGreatRows
import Derived.Test.YtfnhoaemapheoaaGreatZRp33
import Derived.WalkKit
import Derived.ProofKit
import Derived.OpenShut
import Derived.ShutString
import Derived.ChangeOld
import Derived.Below
namespace Go.Proofs.YtfnhoaemapheoaaGreat.replicaOnce
open Go.ChangeShapes Go.WideShapes Go.ChangeAt Go.RowKit Go.Eng
theorem own : ownKnob Tryz.prog.godebug = none := by kernel_rfl
theorem bbx : laidOutB Tryz.prog = true := by kernel_rfl
theorem ara {w w' : World} (h : Fr (fun _ => False) w w') : Below w.heap.size w w' := ⟨h.os, h.tape, h.output, h.size, fun b hb => h.ip b hb fun h => h⟩
set_option maxRecDepth 1000000 in
theorem bed (os : Os) (started : os.Started) (H : Type) (enc : TypeId × Value → H) :
  ReturnsInHanded {} Tryz.checked os 3 .any (Rows.replicaOnceSpec.pre6 enc Tryz.prog Tryz.f3 Rows.replicaOnceRow.domain false) (Rows.replicaOnceSpec.post enc Tryz.prog Tryz.f3 false true false false) := by
 refine returnsInHanded_of_change (C := Tryz.checked) own started (by kernel_rfl) Tryz.func3
  (ChangeSpec.witness6 (enc := enc) (C := Tryz.checked) false ⟨#[], #[.slice none 0 0], []⟩ 16 (by kernel_rfl) (by kernel_rfl) (by kernel_rfl) (by kernel_rfl)) ?_
 intro W base args ds gs before hval0 hW hcnd _
 have hval : ∀ (j : Nat) t v, Tryz.f3.params[j]? = some t → args[j]? = some v → Value.okWide Tryz.prog W .any base t v := hval0
 have hW' := hW
 obtain ⟨p, q, hA0, hV, rfl, hfz, hnd⟩ := hW
 have hA : DataW.TrodAll enc Tryz.prog W 0 (fun _ => true) true Tryz.f3.params.toList args.toList ds p := hA0
 rw [Tryz.params3] at hA hval
 obtain ⟨v0, vs0, d0, ds0, p0, q0, hargs, rfl, rfl, h0, r0⟩ := trodAll_cons hA
 obtain ⟨rfl, rfl, rfl⟩ := trodAll_nil r0
 obtain rfl : args = #[v0] := by cases args; simp_all
 obtain ⟨rfl, rfl⟩ := trodVars_none hV
 obtain ⟨x0, y0, z0, rfl⟩ := okWide_slice Tryz.underlying22 (hval 0 22 v0 rfl rfl)
 have k0 := h0
 have lt0 : ∀ x ∈ p0, x.block < W.heap.size := by obtain ⟨m, hm⟩ := k0; exact DataW.trod_lt m _ _ _ hm
 obtain ⟨m0, hm0⟩ := h0
 replace hm0 := asm _ hm0
 clear hA0 hval0
 have hcall := YtfnhoaemapheoaaGreat.ajp (K := fun v w' => v = .bool true ∧ Fr (fun _ => False) W w') hm0 fun _ hf => ⟨rfl, hf⟩
 have hcalls : Calls Tryz.prog F.cf _ W fun e W' => e = .returned (.bool true) ∧ Below W.heap.size W W' := hcall.mono fun _ _ ⟨_, he, hv, hf⟩ => ⟨by rw [he, hv], ara hf⟩
 refine hcalls.mono fun e W' ⟨he, bel⟩ => ?_
 subst he
 exact ⟨_, rfl, _, _, _, [], _, [], hW', trodAll_mk1 (shut_bool Tryz.underlying4 _), (trodAll_cons_mk (Below.trod bbx (by kernel_rfl) (of_decide_eq_true (by kernel_rfl)) k0 bel lt0) trodAll_mk0), rfl, bel.frame _, fun h => by cases h⟩
theorem nw : Rows.replicaOnceRow.holds Tryz.pinned (OpenSpec.ofChange Rows.replicaOnceSpec) :=
 OpenClaim.holds_of_wide 3 Tryz.f3 rfl rfl rfl rfl rfl rfl rfl ⟨rfl, rfl, rfl, rfl, rfl⟩ rfl rfl rfl rfl rfl (by kernel_rfl) Tryz.func3 (by kernel_rfl)
  (of_decide_eq_true (by kernel_rfl)) (by unfold Func.isWrapper; first | (rw [if_pos (by decide +kernel)]; kernel_rfl) | (rw [if_neg (by decide +kernel)]; exact ⟨rfl, rfl⟩))
  (fun os started H enc _ => bed os started H enc)
end Go.Proofs.YtfnhoaemapheoaaGreat.replicaOnce
namespace Go.Proofs.YtfnhoaemapheoaaGreat
theorem replicaOnceProved : Rows.ReplicaOnceSaid := replicaOnce.nw
#print axioms replicaOnceProved
end Go.Proofs.YtfnhoaemapheoaaGreat
