/-
  No cell of these rows narrows 'for every input' (looked for: loops, veiled, ifaces, maps, wideKeys, modest, calm, conditions, laid).
  DERIVED. THE GIVEN ROWS OF THIS SEAT. 6 by the template 'for every input the law returns true; each argument reads behind the call as it read before'; 0 by the template 'total and deterministic' (their statements: YtbcamfheaonbaaaTotals.lean).
  GIVEN WITH THE SEED: the statements are not yours to turn. If you find one false, say at which input.
  Laid BY PROGRAM, IN A SANDBOX (cutbox-rows.mjs): the forced cells as the released guide's own fill.sh prints them over the translation 1f862f69ea16e669… (all of the seat's roots in one cut). By AI agents, Wed Nov 11 2026. No macro, syntax, notation, axiom, sorry.
-/
import Derived.Test.YtbcamfheaonbaaaChecked
import GoSem.Claim
import GoSem.ClaimJoined
import GoSem.ClaimMapViews
import Derived.JoinedTies
import Derived.KernelRfl
namespace Go.Proofs.Ytbcamfheaonbaaa
/- THE CELL 'sum', in the pinned program and in every row, IS THE sha256 OF THE DUMP (.gsa) THAT YtbcamfheaonbaaaProg.lean LOADS. Nothing in Lean hashes anything: it is a label: what it is worth is what the hold of that sum in a sandbox is worth. -/
noncomputable def Try.pinned : Pinned := { name := "ytbcamfheaonbaaa", sum := "1f862f69ea16e669362f1c50d8b42e4a7929f72ca8d7e9371a363a909b5a766a", checked := Try.checked }
namespace Rows
def none {H : Type} : Left H := { results := [], args := [] }

/-- 'winnowlaw09.ViewNewer': WHATEVER THE INPUT: true; the input reads as it did. -/
def viewNewerSpec : ChangeSpec := { name := "viewNewer", fn := fun _ => fun
  | [d1, d2, d3] => { results := [.lit (.bool true)], args := [d1, d2, d3] }
  | _ => none }
def viewNewerRow : OpenClaim := { program := "ytbcamfheaonbaaa", sum := "1f862f69ea16e669362f1c50d8b42e4a7929f72ca8d7e9371a363a909b5a766a", func := "winnow/winnowlaw09.ViewNewer", spec := "viewNewer", unfollowed := true, recurses := true, apart := false }
def ViewNewerSaid : Prop := viewNewerRow.holds Try.pinned (OpenSpec.ofChange viewNewerSpec)

/-- ITS FALSE NEIGHBOUR: 'it returns false'. Refute it at one input. -/
def viewNewerWrong : ChangeSpec := { name := "viewNewer", fn := fun _ => fun
  | [d1, d2, d3] => { results := [.lit (.bool false)], args := [d1, d2, d3] }
  | _ => none }
def ViewNewerWrongFalsely : Prop := viewNewerRow.holds Try.pinned (OpenSpec.ofChange viewNewerWrong)

/-- 'winnowlaw09.ViewRight': WHATEVER THE INPUT: true; the input reads as it did. -/
def viewRightSpec : ChangeSpec := { name := "viewRight", fn := fun _ => fun
  | [d1, d2, d3, d4, d5] => { results := [.lit (.bool true)], args := [d1, d2, d3, d4, d5] }
  | _ => none }
def viewRightRow : OpenClaim := { program := "ytbcamfheaonbaaa", sum := "1f862f69ea16e669362f1c50d8b42e4a7929f72ca8d7e9371a363a909b5a766a", func := "winnow/winnowlaw09.ViewRight", spec := "viewRight", unfollowed := true, recurses := true, apart := false }
def ViewRightSaid : Prop := viewRightRow.holds Try.pinned (OpenSpec.ofChange viewRightSpec)

/-- ITS FALSE NEIGHBOUR: 'it returns false'. Refute it at one input. -/
def viewRightWrong : ChangeSpec := { name := "viewRight", fn := fun _ => fun
  | [d1, d2, d3, d4, d5] => { results := [.lit (.bool false)], args := [d1, d2, d3, d4, d5] }
  | _ => none }
def ViewRightWrongFalsely : Prop := viewRightRow.holds Try.pinned (OpenSpec.ofChange viewRightWrong)

/-- 'winnowlaw09.ViewRises': WHATEVER THE INPUT: true; the input reads as it did. -/
def viewRisesSpec : ChangeSpec := { name := "viewRises", fn := fun _ => fun
  | [d1, d2] => { results := [.lit (.bool true)], args := [d1, d2] }
  | _ => none }
def viewRisesRow : OpenClaim := { program := "ytbcamfheaonbaaa", sum := "1f862f69ea16e669362f1c50d8b42e4a7929f72ca8d7e9371a363a909b5a766a", func := "winnow/winnowlaw09.ViewRises", spec := "viewRises", inPlace := ["math/bits.Add64"], unfollowed := true, recurses := true, apart := false }
def ViewRisesSaid : Prop := viewRisesRow.holds Try.pinned (OpenSpec.ofChange viewRisesSpec)

/-- ITS FALSE NEIGHBOUR: 'it returns false'. Refute it at one input. -/
def viewRisesWrong : ChangeSpec := { name := "viewRises", fn := fun _ => fun
  | [d1, d2] => { results := [.lit (.bool false)], args := [d1, d2] }
  | _ => none }
def ViewRisesWrongFalsely : Prop := viewRisesRow.holds Try.pinned (OpenSpec.ofChange viewRisesWrong)

/-- 'winnowlaw09.ViewVersions': WHATEVER THE INPUT: true; the input reads as it did. -/
def viewVersionsSpec : ChangeSpec := { name := "viewVersions", fn := fun _ => fun
  | [d] => { results := [.lit (.bool true)], args := [d] }
  | _ => none }
def viewVersionsRow : OpenClaim := { program := "ytbcamfheaonbaaa", sum := "1f862f69ea16e669362f1c50d8b42e4a7929f72ca8d7e9371a363a909b5a766a", func := "winnow/winnowlaw09.ViewVersions", spec := "viewVersions", inPlace := ["math/bits.Add64"], unfollowed := true, recurses := true, apart := false }
def ViewVersionsSaid : Prop := viewVersionsRow.holds Try.pinned (OpenSpec.ofChange viewVersionsSpec)

/-- ITS FALSE NEIGHBOUR: 'it returns false'. Refute it at one input. -/
def viewVersionsWrong : ChangeSpec := { name := "viewVersions", fn := fun _ => fun
  | [d] => { results := [.lit (.bool false)], args := [d] }
  | _ => none }
def ViewVersionsWrongFalsely : Prop := viewVersionsRow.holds Try.pinned (OpenSpec.ofChange viewVersionsWrong)

/-- 'winnowlaw09.ViewMerges': WHATEVER THE INPUT: true; the input reads as it did. -/
def viewMergesSpec : ChangeSpec := { name := "viewMerges", fn := fun _ => fun
  | [d1, d2] => { results := [.lit (.bool true)], args := [d1, d2] }
  | _ => none }
def viewMergesRow : OpenClaim := { program := "ytbcamfheaonbaaa", sum := "1f862f69ea16e669362f1c50d8b42e4a7929f72ca8d7e9371a363a909b5a766a", func := "winnow/winnowlaw09.ViewMerges", spec := "viewMerges", unfollowed := true, recurses := true, apart := false }
def ViewMergesSaid : Prop := viewMergesRow.holds Try.pinned (OpenSpec.ofChange viewMergesSpec)

/-- ITS FALSE NEIGHBOUR: 'it returns false'. Refute it at one input. -/
def viewMergesWrong : ChangeSpec := { name := "viewMerges", fn := fun _ => fun
  | [d1, d2] => { results := [.lit (.bool false)], args := [d1, d2] }
  | _ => none }
def ViewMergesWrongFalsely : Prop := viewMergesRow.holds Try.pinned (OpenSpec.ofChange viewMergesWrong)

/-- 'winnowlaw09.ViewJoins': WHATEVER THE INPUT: true; the input reads as it did. -/
def viewJoinsSpec : ChangeSpec := { name := "viewJoins", fn := fun _ => fun
  | [d1, d2, d3] => { results := [.lit (.bool true)], args := [d1, d2, d3] }
  | _ => none }
def viewJoinsRow : OpenClaim := { program := "ytbcamfheaonbaaa", sum := "1f862f69ea16e669362f1c50d8b42e4a7929f72ca8d7e9371a363a909b5a766a", func := "winnow/winnowlaw09.ViewJoins", spec := "viewJoins", unfollowed := true, recurses := true, apart := false }
def ViewJoinsSaid : Prop := viewJoinsRow.holds Try.pinned (OpenSpec.ofChange viewJoinsSpec)

/-- ITS FALSE NEIGHBOUR: 'it returns false'. Refute it at one input. -/
def viewJoinsWrong : ChangeSpec := { name := "viewJoins", fn := fun _ => fun
  | [d1, d2, d3] => { results := [.lit (.bool false)], args := [d1, d2, d3] }
  | _ => none }
def ViewJoinsWrongFalsely : Prop := viewJoinsRow.holds Try.pinned (OpenSpec.ofChange viewJoinsWrong)

/- THE SECOND FORM. 'bulk': how many values and letters a reading holds, each counted each time it is reached (what is shared counts as often as it is met; a slice's spare places count too). A statement '..UptoSaid' is the law's where the arguments, and the package variables that the reading takes, are together of bulk at most 1048576: NARROWER than '..Said'. Prove '..Said' where nothing that the law and all that it calls make is longer than what came in: it says more and counts as full. Else prove '..UptoSaid'. A law counts once. -/
mutual
def uptoBulk {H : Type} : DataW H → Nat
  | .lit (.string bytes) => bytes.length + 1
  | .lit _ => 1
  | .nil => 1
  | .ptr d => uptoBulk d + 1
  | .slice elems spare => uptoBulkAll elems + uptoBulkAll spare + 1
  | .agg parts => uptoBulkAll parts + 1
  | .iface _ d => uptoBulk d + 1
  | .map entries => uptoBulkEntries entries + 1
  | .held _ => 1
def uptoBulkAll {H : Type} : List (DataW H) → Nat
  | [] => 0
  | d :: r => uptoBulk d + uptoBulkAll r
def uptoBulkEntries {H : Type} : List (Lit × DataW H) → Nat
  | [] => 0
  | x :: r => uptoBulkEntry x + uptoBulkEntries r
def uptoBulkEntry {H : Type} : Lit × DataW H → Nat
  | (.string bytes, d) => bytes.length + uptoBulk d + 1
  | (_, d) => uptoBulk d + 1
 end
def uptoSmall : (H : Type) → List (DataW H) → Bool := fun _ ds => decide (uptoBulkAll ds ≤ 1048576)
def OpenSpec.upto (s : _root_.Go.ChangeSpec) : _root_.Go.OpenSpec := { _root_.Go.OpenSpec.ofChange s with cond := some uptoSmall }

/-- 'winnowlaw09.ViewNewer', WHERE WHAT IT READS IS OF BULK AT MOST 1048576: true; the input reads as it did. -/
def viewNewerUptoRow : OpenClaim := { program := "ytbcamfheaonbaaa", sum := "1f862f69ea16e669362f1c50d8b42e4a7929f72ca8d7e9371a363a909b5a766a", func := "winnow/winnowlaw09.ViewNewer", spec := "viewNewer", unfollowed := true, recurses := true, apart := false, narrowed := true }
def ViewNewerUptoSaid : Prop := viewNewerUptoRow.holds Try.pinned (OpenSpec.upto viewNewerSpec)

/-- 'winnowlaw09.ViewRight', WHERE WHAT IT READS IS OF BULK AT MOST 1048576: true; the input reads as it did. -/
def viewRightUptoRow : OpenClaim := { program := "ytbcamfheaonbaaa", sum := "1f862f69ea16e669362f1c50d8b42e4a7929f72ca8d7e9371a363a909b5a766a", func := "winnow/winnowlaw09.ViewRight", spec := "viewRight", unfollowed := true, recurses := true, apart := false, narrowed := true }
def ViewRightUptoSaid : Prop := viewRightUptoRow.holds Try.pinned (OpenSpec.upto viewRightSpec)

/-- 'winnowlaw09.ViewRises', WHERE WHAT IT READS IS OF BULK AT MOST 1048576: true; the input reads as it did. -/
def viewRisesUptoRow : OpenClaim := { program := "ytbcamfheaonbaaa", sum := "1f862f69ea16e669362f1c50d8b42e4a7929f72ca8d7e9371a363a909b5a766a", func := "winnow/winnowlaw09.ViewRises", spec := "viewRises", inPlace := ["math/bits.Add64"], unfollowed := true, recurses := true, apart := false, narrowed := true }
def ViewRisesUptoSaid : Prop := viewRisesUptoRow.holds Try.pinned (OpenSpec.upto viewRisesSpec)

/-- 'winnowlaw09.ViewVersions', WHERE WHAT IT READS IS OF BULK AT MOST 1048576: true; the input reads as it did. -/
def viewVersionsUptoRow : OpenClaim := { program := "ytbcamfheaonbaaa", sum := "1f862f69ea16e669362f1c50d8b42e4a7929f72ca8d7e9371a363a909b5a766a", func := "winnow/winnowlaw09.ViewVersions", spec := "viewVersions", inPlace := ["math/bits.Add64"], unfollowed := true, recurses := true, apart := false, narrowed := true }
def ViewVersionsUptoSaid : Prop := viewVersionsUptoRow.holds Try.pinned (OpenSpec.upto viewVersionsSpec)

/-- 'winnowlaw09.ViewMerges', WHERE WHAT IT READS IS OF BULK AT MOST 1048576: true; the input reads as it did. -/
def viewMergesUptoRow : OpenClaim := { program := "ytbcamfheaonbaaa", sum := "1f862f69ea16e669362f1c50d8b42e4a7929f72ca8d7e9371a363a909b5a766a", func := "winnow/winnowlaw09.ViewMerges", spec := "viewMerges", unfollowed := true, recurses := true, apart := false, narrowed := true }
def ViewMergesUptoSaid : Prop := viewMergesUptoRow.holds Try.pinned (OpenSpec.upto viewMergesSpec)

/-- 'winnowlaw09.ViewJoins', WHERE WHAT IT READS IS OF BULK AT MOST 1048576: true; the input reads as it did. -/
def viewJoinsUptoRow : OpenClaim := { program := "ytbcamfheaonbaaa", sum := "1f862f69ea16e669362f1c50d8b42e4a7929f72ca8d7e9371a363a909b5a766a", func := "winnow/winnowlaw09.ViewJoins", spec := "viewJoins", unfollowed := true, recurses := true, apart := false, narrowed := true }
def ViewJoinsUptoSaid : Prop := viewJoinsUptoRow.holds Try.pinned (OpenSpec.upto viewJoinsSpec)

end Rows
end Go.Proofs.Ytbcamfheaonbaaa
