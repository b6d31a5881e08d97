/-
  The statement CollectorHands. No condition.
-/
import Derived.Test.YtgepcfcicngceaaGreatDoorRows
import Derived.Test.YtgepcfcicngceaaGreatDoorCards
import Derived.Test.YtgepcfcicngceaaGreatDoorTie
import Derived.Test.YtgepcfcicngceaaGreatDoorZIng0
import Derived.WalkKit
import Derived.ProofKit
import Derived.OpenShut
import Derived.ShutString
import Derived.ChangeOld
import Derived.Below
import Derived.LaidMore
import Derived.Lay
import Derived.SevenTiedAt
namespace Go.Proofs.YtgepcfcicngceaaGreatDoor.collectorHands
open Go.ChangeShapes Go.WideShapes Go.ChangeAt Go.RowKit Go.Eng
theorem own : ownKnob Tryz.prog.godebug = none := by kernel_rfl
theorem axc : laidOutB Tryz.prog = true := by kernel_rfl
theorem avq {w w' : World} (h : Fz w w') : Below w.heap.size w w' := ⟨h.os, h.tape, h.output, h.size, fun b hb => h.jl b hb fun h => h⟩
set_option maxRecDepth 1000000 in
theorem boy (os : Os) (started : os.Started) (H : Type) (enc : TypeId × Value → H) :
  ReturnsInHanded {} Tryz.checked os 6 .any (fun w args => (Rows.collectorHandsSpec.pre enc Tryz.prog Tryz.f6 [] false w args ∧ laidMetH Tryz.prog Rows.collectorHandsRow.laid w) ∧ sizedMet enc Tryz.prog Tryz.f6 (OpenSpec.ofChange Rows.collectorHandsSpec) false w args) (Rows.collectorHandsSpec.post enc Tryz.prog Tryz.f6 false true false false) := by
 refine returnsInHanded_of_change_and (C := Tryz.checked) (X := fun w _ => laidMetH Tryz.prog Rows.collectorHandsRow.laid w) (fun _ _ _ hh h => h.of_heap hh) own started (by kernel_rfl) Tryz.func6
  (ChangeSpec.witness_shaped (enc := enc) (C := Tryz.checked) (os := os) (X := fun w _ => laidMetH Tryz.prog Rows.collectorHandsRow.laid w) false (World.laidAll Tryz.prog os Rows.collectorHandsRow.laid) #[.slice none 0 0, .int .u64 0] 16 (World.laidAll_os _ _ _)
   (World.shaped_of_ZipB (by kernel_rfl) (by kernel_rfl)) (by kernel_rfl) (by kernel_rfl) (by kernel_rfl)
   (by rw [MakeChecks.laidMetH_plain _ _ _ (by kernel_rfl)]; exact laidMet_laidAll _ (by kernel_rfl) (by kernel_rfl))) ?_
 intro W base args ds gs before hval0 hW _ _ _ _
 have hval : ∀ (j : Nat) t v, Tryz.f6.params[j]? = some t → args[j]? = some v → Value.okWide Tryz.prog W .any base t v := hval0
 have hW' := hW
 obtain ⟨p, q, hA0, hV, rfl, hfz, hnd⟩ := hW
 have hA : DataW.TrodAll enc Tryz.prog W 0 (fun _ => true) true Tryz.f6.params.toList args.toList ds p := hA0
 rw [Tryz.params6] at hA hval
 obtain ⟨v0, vs0, d0, ds0, p0, q0, hargs, rfl, rfl, h0, r0⟩ := trodAll_cons hA
 obtain ⟨v1, vs1, d1, ds1, p1, q1, rfl, rfl, rfl, h1, r1⟩ := trodAll_cons r0
 obtain ⟨rfl, rfl, rfl⟩ := trodAll_nil r1
 obtain rfl : args = #[v0, v1] := by cases args; simp_all
 obtain ⟨rfl, rfl⟩ := trodVars_none hV
 obtain ⟨x0, y0, z0, rfl⟩ := okWide_slice Tryz.underlying50 (hval 0 50 v0 rfl rfl)
 have k0 := h0
 have lt0 : ∀ x ∈ p0, x.block < W.heap.size := by obtain ⟨m, hm⟩ := k0; exact DataW.trod_lt m _ _ _ hm
 obtain ⟨m0, hm0⟩ := h0
 replace hm0 := aym _ hm0
 obtain ⟨a1, rfl, rfl, rfl, w1⟩ := open_int Tryz.underlying23 (hval 1 23 v1 rfl rfl) h1
 clear hA0 hval0
 have hcall := YtgepcfcicngceaaGreatDoor.ajq (K := fun v w' => v = .bool true ∧ Fz W w') hm0 w1 fun _ hf => ⟨rfl, hf⟩
 have hcalls : Calls Tryz.prog F.dc _ W fun e W' => e = .returned (.bool true) ∧ Below W.heap.size W W' := hcall.mono fun _ _ ⟨_, he, hv, hf⟩ => ⟨by rw [he, hv], avq hf⟩
 refine hcalls.mono fun e W' ⟨he, bel⟩ => ?_
 subst he
 exact ⟨_, rfl, _, _, _, [], _, [], hW', trodAll_mk1 (shut_bool Tryz.underlying4 _), (trodAll_cons_mk (Below.trod axc (by kernel_rfl) (of_decide_eq_true (by kernel_rfl)) k0 bel lt0) (trodAll_cons_mk (shut_int Tryz.underlying23 w1) trodAll_mk0)), rfl, bel.frame _, fun h => by cases h⟩
theorem k1 : Rows.collectorHandsRow.wf (OpenSpec.ofChange Rows.collectorHandsSpec) = true := by kernel_rfl
theorem k2 : laidOutB Tryz.pinned.checked.prog = true := axc
theorem k3 : mapsRowed Tryz.pinned.checked.prog = true := by kernel_rfl
theorem k10 : (Rows.collectorHandsRow.inPlace == Tryz.pinned.checked.prog.inPlace 6) = true := by kernel_rfl
theorem k11 : (Rows.collectorHandsRow.unfollowed == Tryz.pinned.checked.prog.unfollowed 6) = true := by kernel_rfl
theorem k12 : (Rows.collectorHandsRow.recurses == Tryz.pinned.checked.prog.recurses 6) = true := by kernel_rfl
theorem k13 : (Rows.collectorHandsRow.named == Tryz.pinned.checked.prog.varsNamed 6) = true := by kernel_rfl
theorem k22 : (Rows.collectorHandsRow.plainKeys == Tryz.pinned.checked.prog.plainKeys) = true := by kernel_rfl
theorem aji : joinedFacts Tryz.pinned.checked.prog 6 Tryz.f6 Rows.collectorHandsSpec Rows.collectorHandsRow = true := by
 unfold joinedFacts
 rw [k1, k2, k3, k10, k11, k12, k13, k22]
 kernel_rfl
theorem nt : Rows.collectorHandsRow.holds Tryz.pinned (OpenSpec.ofChange Rows.collectorHandsSpec) :=
 OpenClaim.holds_of_wide 6 Tryz.f6 rfl rfl rfl rfl rfl rfl rfl ⟨rfl, rfl, rfl, rfl, rfl⟩ rfl rfl rfl rfl rfl (by kernel_rfl) Tryz.func6 aji
  (of_decide_eq_true (by kernel_rfl)) (by unfold Func.isWrapper; first | (rw [if_pos (by decide +kernel)]; kernel_rfl) | (rw [if_neg (by decide +kernel)]; exact ⟨rfl, rfl⟩))
  (fun os started H enc _ => boy os started H enc)
theorem ayu : Claim7.holds Tryz.pinned (.plain (OpenSpec.ofChange Rows.collectorHandsSpec)) Rows.collectorHandsCard :=
 Claim7.holds_tied_plain_at .later [] [.data, .data, .data, .data, .sentinel, .sentinel, .pinned] true (true, "c592ae09b617549adee18319149589621c825234e986ad1eee310880f05e4544") true nt (fun _ h => by cases h) (by kernel_rfl) (fun _ h => by cases h) collectorHands_row_tie rfl ⟨rfl, rfl⟩ (by kernel_rfl) rfl
  (fun f fn hf hfn => by
   obtain rfl : f = 6 := Option.some.inj ((show Tryz.prog.funcNamed "winnow/winnowlaw19.CollectorHands" = some 6 by kernel_rfl).symm.trans hf) |>.symm
   obtain rfl : fn = Tryz.f6 := (Option.some.inj (Tryz.func6.symm.trans hfn)).symm
   exact ⟨by kernel_rfl, fun j t ht => by
    rw [Tryz.params6] at ht
    have hm : t ∈ [50, 23] := by simpa using Array.mem_of_getElem? ht
    have hall : ([50, 23].all fun u => !Tryz.prog.wantsStandIn u) = true := by kernel_rfl
    exact (show Tryz.prog.wantsStandIn t = false by simpa using List.all_eq_true.1 hall t hm)⟩)
  (by kernel_rfl)
end Go.Proofs.YtgepcfcicngceaaGreatDoor.collectorHands
namespace Go.Proofs.YtgepcfcicngceaaGreatDoor
theorem collectorHandsCardProved : Rows.CollectorHandsCardSaid := collectorHands.ayu
#print axioms collectorHandsCardProved
end Go.Proofs.YtgepcfcicngceaaGreatDoor
