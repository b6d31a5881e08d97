/-
  The statement StoreCrash. No condition.
-/
import Derived.Test.YtfnhoaemapheoaaGreatRows
import Derived.Test.YtfnhoaemapheoaaGreatZStL
import Derived.WalkKit
import Derived.ProofKit
import Derived.OpenShut
import Derived.ShutString
import Derived.ChangeOld
import Derived.Below
namespace Go.Proofs.YtfnhoaemapheoaaGreat.storeCrash
open Go.ChangeShapes Go.WideShapes Go.ChangeAt Go.RowKit Go.Eng
theorem own : ownKnob Tryz.prog.godebug = none := by kernel_rfl
theorem bka : laidOutB Tryz.prog = true := by kernel_rfl
theorem awj {w w' : World} (h : Fz w w') : Below w.heap.size w w' := ⟨h.os, h.tape, h.output, h.size, fun b hb => h.ke b hb fun h => h⟩
set_option maxRecDepth 1000000 in
theorem bng (os : Os) (started : os.Started) (H : Type) (enc : TypeId × Value → H) :
  ReturnsInHanded {} Tryz.checked os 12 .any (Rows.storeCrashSpec.pre6 enc Tryz.prog Tryz.f12 Rows.storeCrashRow.domain false) (Rows.storeCrashSpec.post enc Tryz.prog Tryz.f12 false true false false) := by
 refine returnsInHanded_of_change (C := Tryz.checked) own started (by kernel_rfl) Tryz.func12
  (ChangeSpec.witness6 (enc := enc) (C := Tryz.checked) false ⟨#[], #[.int .i64 0, .slice none 0 0], []⟩ 16 (by kernel_rfl) (by kernel_rfl) (by kernel_rfl) (by kernel_rfl)) ?_
 intro W base args ds gs before hval0 hW hcnd _
 have hval : ∀ (j : Nat) t v, Tryz.f12.params[j]? = some t → args[j]? = some v → Value.okWide Tryz.prog W .any base t v := hval0
 have hW' := hW
 obtain ⟨p, q, hA0, hV, rfl, hfz, hnd⟩ := hW
 have hA : DataW.TrodAll enc Tryz.prog W 0 (fun _ => true) true Tryz.f12.params.toList args.toList ds p := hA0
 rw [Tryz.params12] at hA hval
 obtain ⟨v0, vs0, d0, ds0, p0, q0, hargs, rfl, rfl, h0, r0⟩ := trodAll_cons hA
 obtain ⟨v1, vs1, d1, ds1, p1, q1, rfl, rfl, rfl, h1, r1⟩ := trodAll_cons r0
 obtain ⟨rfl, rfl, rfl⟩ := trodAll_nil r1
 obtain rfl : args = #[v0, v1] := by cases args; simp_all
 obtain ⟨rfl, rfl⟩ := trodVars_none hV
 obtain ⟨a0, rfl, rfl, rfl, w0⟩ := open_int Tryz.underlying3 (hval 0 3 v0 rfl rfl) h0
 obtain ⟨x1, y1, z1, rfl⟩ := okWide_slice Tryz.underlying86 (hval 1 86 v1 rfl rfl)
 have k1 := h1
 have lt1 : ∀ x ∈ p1, x.block < W.heap.size := by obtain ⟨m, hm⟩ := k1; exact DataW.trod_lt m _ _ _ hm
 obtain ⟨m1, hm1⟩ := h1
 replace hm1 := aze _ hm1
 clear hA0 hval0
 have hcall := YtfnhoaemapheoaaGreat.aoj (K := fun v w' => v = .bool true ∧ Fz W w') w0 hm1 fun _ hf => ⟨rfl, hf⟩
 have hcalls : Calls Tryz.prog F.dm _ W fun e W' => e = .returned (.bool true) ∧ Below W.heap.size W W' := hcall.mono fun _ _ ⟨_, he, hv, hf⟩ => ⟨by rw [he, hv], awj hf⟩
 refine hcalls.mono fun e W' ⟨he, bel⟩ => ?_
 subst he
 exact ⟨_, rfl, _, _, _, [], _, [], hW', trodAll_mk1 (shut_bool Tryz.underlying4 _), (trodAll_cons_mk (shut_int Tryz.underlying3 w0) (trodAll_cons_mk (Below.trod bka (by kernel_rfl) (of_decide_eq_true (by kernel_rfl)) k1 bel lt1) trodAll_mk0)), rfl, bel.frame _, fun h => by cases h⟩
theorem qt : Rows.storeCrashRow.holds Tryz.pinned (OpenSpec.ofChange Rows.storeCrashSpec) :=
 OpenClaim.holds_of_wide 12 Tryz.f12 rfl rfl rfl rfl rfl rfl rfl ⟨rfl, rfl, rfl, rfl, rfl⟩ rfl rfl rfl rfl rfl (by kernel_rfl) Tryz.func12 (by kernel_rfl)
  (of_decide_eq_true (by kernel_rfl)) (by unfold Func.isWrapper; first | (rw [if_pos (by decide +kernel)]; kernel_rfl) | (rw [if_neg (by decide +kernel)]; exact ⟨rfl, rfl⟩))
  (fun os started H enc _ => bng os started H enc)
end Go.Proofs.YtfnhoaemapheoaaGreat.storeCrash
namespace Go.Proofs.YtfnhoaemapheoaaGreat
theorem storeCrashProved : Rows.StoreCrashSaid := storeCrash.qt
#print axioms storeCrashProved
end Go.Proofs.YtfnhoaemapheoaaGreat
