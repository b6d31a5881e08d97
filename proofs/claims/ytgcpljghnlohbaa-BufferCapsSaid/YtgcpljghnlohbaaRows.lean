/-
  No cell of these rows narrows 'for every input' (looked for: loops, veiled, ifaces, maps, wideKeys, modest, calm, conditions, laid).
  DERIVED. THE GIVEN ROWS OF THIS SEAT. 12 by the template 'for every input the law returns true; each argument reads behind the call as it read before'; 0 by the template 'total and deterministic' (their statements: YtgcpljghnlohbaaTotals.lean).
  GIVEN WITH THE SEED: the statements are not yours to turn. If you find one false, say at which input.
  Laid BY PROGRAM, IN A SANDBOX (cutbox-rows.mjs): the forced cells as the released guide's own fill.sh prints them over the translation 7782b3db0b11ad3e… (all of the seat's roots in one cut). By AI agents, Wed Nov 11 2026. No macro, syntax, notation, axiom, sorry.
-/
import Derived.Test.YtgcpljghnlohbaaChecked
import GoSem.Claim
import GoSem.ClaimJoined
import GoSem.ClaimMapViews
import Derived.JoinedTies
import Derived.KernelRfl
namespace Go.Proofs.Ytgcpljghnlohbaa
/- THE CELL 'sum', in the pinned program and in every row, IS THE sha256 OF THE DUMP (.gsa) THAT YtgcpljghnlohbaaProg.lean LOADS. Nothing in Lean hashes anything: it is a label: what it is worth is what the hold of that sum in a sandbox is worth. -/
noncomputable def Try.pinned : Pinned := { name := "ytgcpljghnlohbaa", sum := "7782b3db0b11ad3e803ea7e710bcbd8927fb458218a1fab9291f41f8bb67e89e", checked := Try.checked }
namespace Rows
def none {H : Type} : Left H := { results := [], args := [] }

/-- 'winnowlaw16.BufferDue': WHATEVER THE INPUT: true; the input reads as it did. -/
def bufferDueSpec : ChangeSpec := { name := "bufferDue", fn := fun _ => fun
  | [d1, d2, d3, d4] => { results := [.lit (.bool true)], args := [d1, d2, d3, d4] }
  | _ => none }
def bufferDueRow : OpenClaim := { program := "ytgcpljghnlohbaa", sum := "7782b3db0b11ad3e803ea7e710bcbd8927fb458218a1fab9291f41f8bb67e89e", func := "winnow/winnowlaw16.BufferDue", spec := "bufferDue", unfollowed := true, recurses := true, apart := false }
def BufferDueSaid : Prop := bufferDueRow.holds Try.pinned (OpenSpec.ofChange bufferDueSpec)

/-- ITS FALSE NEIGHBOUR: 'it returns false'. Refute it at one input. -/
def bufferDueWrong : ChangeSpec := { name := "bufferDue", fn := fun _ => fun
  | [d1, d2, d3, d4] => { results := [.lit (.bool false)], args := [d1, d2, d3, d4] }
  | _ => none }
def BufferDueWrongFalsely : Prop := bufferDueRow.holds Try.pinned (OpenSpec.ofChange bufferDueWrong)

/-- 'winnowlaw16.BufferTwice': WHATEVER THE INPUT: true; the input reads as it did. -/
def bufferTwiceSpec : ChangeSpec := { name := "bufferTwice", fn := fun _ => fun
  | [d1, d2, d3] => { results := [.lit (.bool true)], args := [d1, d2, d3] }
  | _ => none }
def bufferTwiceRow : OpenClaim := { program := "ytgcpljghnlohbaa", sum := "7782b3db0b11ad3e803ea7e710bcbd8927fb458218a1fab9291f41f8bb67e89e", func := "winnow/winnowlaw16.BufferTwice", spec := "bufferTwice", unfollowed := true, recurses := true, apart := false }
def BufferTwiceSaid : Prop := bufferTwiceRow.holds Try.pinned (OpenSpec.ofChange bufferTwiceSpec)

/-- ITS FALSE NEIGHBOUR: 'it returns false'. Refute it at one input. -/
def bufferTwiceWrong : ChangeSpec := { name := "bufferTwice", fn := fun _ => fun
  | [d1, d2, d3] => { results := [.lit (.bool false)], args := [d1, d2, d3] }
  | _ => none }
def BufferTwiceWrongFalsely : Prop := bufferTwiceRow.holds Try.pinned (OpenSpec.ofChange bufferTwiceWrong)

/-- 'winnowlaw06.DiskTwice': WHATEVER THE INPUT: true; the input reads as it did. -/
def diskTwiceSpec : ChangeSpec := { name := "diskTwice", fn := fun _ => fun
  | [d1, d2] => { results := [.lit (.bool true)], args := [d1, d2] }
  | _ => none }
def diskTwiceRow : OpenClaim := { program := "ytgcpljghnlohbaa", sum := "7782b3db0b11ad3e803ea7e710bcbd8927fb458218a1fab9291f41f8bb67e89e", func := "winnow/winnowlaw06.DiskTwice", spec := "diskTwice", unfollowed := true, recurses := true, apart := false }
def DiskTwiceSaid : Prop := diskTwiceRow.holds Try.pinned (OpenSpec.ofChange diskTwiceSpec)

/-- ITS FALSE NEIGHBOUR: 'it returns false'. Refute it at one input. -/
def diskTwiceWrong : ChangeSpec := { name := "diskTwice", fn := fun _ => fun
  | [d1, d2] => { results := [.lit (.bool false)], args := [d1, d2] }
  | _ => none }
def DiskTwiceWrongFalsely : Prop := diskTwiceRow.holds Try.pinned (OpenSpec.ofChange diskTwiceWrong)

/-- 'winnowlaw06.DiskArmed': WHATEVER THE INPUT: true; the input reads as it did. -/
def diskArmedSpec : ChangeSpec := { name := "diskArmed", fn := fun _ => fun
  | [d1, d2] => { results := [.lit (.bool true)], args := [d1, d2] }
  | _ => none }
def diskArmedRow : OpenClaim := { program := "ytgcpljghnlohbaa", sum := "7782b3db0b11ad3e803ea7e710bcbd8927fb458218a1fab9291f41f8bb67e89e", func := "winnow/winnowlaw06.DiskArmed", spec := "diskArmed", unfollowed := true, recurses := true, apart := false }
def DiskArmedSaid : Prop := diskArmedRow.holds Try.pinned (OpenSpec.ofChange diskArmedSpec)

/-- ITS FALSE NEIGHBOUR: 'it returns false'. Refute it at one input. -/
def diskArmedWrong : ChangeSpec := { name := "diskArmed", fn := fun _ => fun
  | [d1, d2] => { results := [.lit (.bool false)], args := [d1, d2] }
  | _ => none }
def DiskArmedWrongFalsely : Prop := diskArmedRow.holds Try.pinned (OpenSpec.ofChange diskArmedWrong)

/-- 'winnowlaw06.DiskFast': WHATEVER THE INPUT: true; the input reads as it did. -/
def diskFastSpec : ChangeSpec := { name := "diskFast", fn := fun _ => fun
  | [d1, d2] => { results := [.lit (.bool true)], args := [d1, d2] }
  | _ => none }
def diskFastRow : OpenClaim := { program := "ytgcpljghnlohbaa", sum := "7782b3db0b11ad3e803ea7e710bcbd8927fb458218a1fab9291f41f8bb67e89e", func := "winnow/winnowlaw06.DiskFast", spec := "diskFast", unfollowed := true, recurses := true, apart := false }
def DiskFastSaid : Prop := diskFastRow.holds Try.pinned (OpenSpec.ofChange diskFastSpec)

/-- ITS FALSE NEIGHBOUR: 'it returns false'. Refute it at one input. -/
def diskFastWrong : ChangeSpec := { name := "diskFast", fn := fun _ => fun
  | [d1, d2] => { results := [.lit (.bool false)], args := [d1, d2] }
  | _ => none }
def DiskFastWrongFalsely : Prop := diskFastRow.holds Try.pinned (OpenSpec.ofChange diskFastWrong)

/-- 'winnowlaw06.DiskPlays': WHATEVER THE INPUT: true; the input reads as it did. -/
def diskPlaysSpec : ChangeSpec := { name := "diskPlays", fn := fun _ => fun
  | [d1, d2] => { results := [.lit (.bool true)], args := [d1, d2] }
  | _ => none }
def diskPlaysRow : OpenClaim := { program := "ytgcpljghnlohbaa", sum := "7782b3db0b11ad3e803ea7e710bcbd8927fb458218a1fab9291f41f8bb67e89e", func := "winnow/winnowlaw06.DiskPlays", spec := "diskPlays", unfollowed := true, recurses := true, apart := false }
def DiskPlaysSaid : Prop := diskPlaysRow.holds Try.pinned (OpenSpec.ofChange diskPlaysSpec)

/-- ITS FALSE NEIGHBOUR: 'it returns false'. Refute it at one input. -/
def diskPlaysWrong : ChangeSpec := { name := "diskPlays", fn := fun _ => fun
  | [d1, d2] => { results := [.lit (.bool false)], args := [d1, d2] }
  | _ => none }
def DiskPlaysWrongFalsely : Prop := diskPlaysRow.holds Try.pinned (OpenSpec.ofChange diskPlaysWrong)

/-- 'winnowlaw06.DiskNils': WHATEVER THE INPUT: true; the input reads as it did. -/
def diskNilsSpec : ChangeSpec := { name := "diskNils", fn := fun _ => fun
  | [d1, d2, d3] => { results := [.lit (.bool true)], args := [d1, d2, d3] }
  | _ => none }
def diskNilsRow : OpenClaim := { program := "ytgcpljghnlohbaa", sum := "7782b3db0b11ad3e803ea7e710bcbd8927fb458218a1fab9291f41f8bb67e89e", func := "winnow/winnowlaw06.DiskNils", spec := "diskNils", unfollowed := true, recurses := true, apart := false }
def DiskNilsSaid : Prop := diskNilsRow.holds Try.pinned (OpenSpec.ofChange diskNilsSpec)

/-- ITS FALSE NEIGHBOUR: 'it returns false'. Refute it at one input. -/
def diskNilsWrong : ChangeSpec := { name := "diskNils", fn := fun _ => fun
  | [d1, d2, d3] => { results := [.lit (.bool false)], args := [d1, d2, d3] }
  | _ => none }
def DiskNilsWrongFalsely : Prop := diskNilsRow.holds Try.pinned (OpenSpec.ofChange diskNilsWrong)

/-- 'winnowlaw16.BufferCaps': WHATEVER THE INPUT: true; the input reads as it did. -/
def bufferCapsSpec : ChangeSpec := { name := "bufferCaps", fn := fun _ => fun
  | [d1, d2, d3] => { results := [.lit (.bool true)], args := [d1, d2, d3] }
  | _ => none }
def bufferCapsRow : OpenClaim := { program := "ytgcpljghnlohbaa", sum := "7782b3db0b11ad3e803ea7e710bcbd8927fb458218a1fab9291f41f8bb67e89e", func := "winnow/winnowlaw16.BufferCaps", spec := "bufferCaps", unfollowed := true, recurses := true, apart := false }
def BufferCapsSaid : Prop := bufferCapsRow.holds Try.pinned (OpenSpec.ofChange bufferCapsSpec)

/-- ITS FALSE NEIGHBOUR: 'it returns false'. Refute it at one input. -/
def bufferCapsWrong : ChangeSpec := { name := "bufferCaps", fn := fun _ => fun
  | [d1, d2, d3] => { results := [.lit (.bool false)], args := [d1, d2, d3] }
  | _ => none }
def BufferCapsWrongFalsely : Prop := bufferCapsRow.holds Try.pinned (OpenSpec.ofChange bufferCapsWrong)

/-- 'winnowlaw16.BufferPlays': WHATEVER THE INPUT: true; the input reads as it did. -/
def bufferPlaysSpec : ChangeSpec := { name := "bufferPlays", fn := fun _ => fun
  | [d1, d2, d3, d4] => { results := [.lit (.bool true)], args := [d1, d2, d3, d4] }
  | _ => none }
def bufferPlaysRow : OpenClaim := { program := "ytgcpljghnlohbaa", sum := "7782b3db0b11ad3e803ea7e710bcbd8927fb458218a1fab9291f41f8bb67e89e", func := "winnow/winnowlaw16.BufferPlays", spec := "bufferPlays", unfollowed := true, recurses := true, apart := false }
def BufferPlaysSaid : Prop := bufferPlaysRow.holds Try.pinned (OpenSpec.ofChange bufferPlaysSpec)

/-- ITS FALSE NEIGHBOUR: 'it returns false'. Refute it at one input. -/
def bufferPlaysWrong : ChangeSpec := { name := "bufferPlays", fn := fun _ => fun
  | [d1, d2, d3, d4] => { results := [.lit (.bool false)], args := [d1, d2, d3, d4] }
  | _ => none }
def BufferPlaysWrongFalsely : Prop := bufferPlaysRow.holds Try.pinned (OpenSpec.ofChange bufferPlaysWrong)

/-- 'winnowlaw16.BufferNils': WHATEVER THE INPUT: true; the input reads as it did. -/
def bufferNilsSpec : ChangeSpec := { name := "bufferNils", fn := fun _ => fun
  | [d1, d2] => { results := [.lit (.bool true)], args := [d1, d2] }
  | _ => none }
def bufferNilsRow : OpenClaim := { program := "ytgcpljghnlohbaa", sum := "7782b3db0b11ad3e803ea7e710bcbd8927fb458218a1fab9291f41f8bb67e89e", func := "winnow/winnowlaw16.BufferNils", spec := "bufferNils", unfollowed := true, recurses := true, apart := false }
def BufferNilsSaid : Prop := bufferNilsRow.holds Try.pinned (OpenSpec.ofChange bufferNilsSpec)

/-- ITS FALSE NEIGHBOUR: 'it returns false'. Refute it at one input. -/
def bufferNilsWrong : ChangeSpec := { name := "bufferNils", fn := fun _ => fun
  | [d1, d2] => { results := [.lit (.bool false)], args := [d1, d2] }
  | _ => none }
def BufferNilsWrongFalsely : Prop := bufferNilsRow.holds Try.pinned (OpenSpec.ofChange bufferNilsWrong)

/-- 'winnowlaw09.ViewMerges': WHATEVER THE INPUT: true; the input reads as it did. -/
def viewMergesSpec : ChangeSpec := { name := "viewMerges", fn := fun _ => fun
  | [d1, d2] => { results := [.lit (.bool true)], args := [d1, d2] }
  | _ => none }
def viewMergesRow : OpenClaim := { program := "ytgcpljghnlohbaa", sum := "7782b3db0b11ad3e803ea7e710bcbd8927fb458218a1fab9291f41f8bb67e89e", func := "winnow/winnowlaw09.ViewMerges", spec := "viewMerges", unfollowed := true, recurses := true, apart := false }
def ViewMergesSaid : Prop := viewMergesRow.holds Try.pinned (OpenSpec.ofChange viewMergesSpec)

/-- ITS FALSE NEIGHBOUR: 'it returns false'. Refute it at one input. -/
def viewMergesWrong : ChangeSpec := { name := "viewMerges", fn := fun _ => fun
  | [d1, d2] => { results := [.lit (.bool false)], args := [d1, d2] }
  | _ => none }
def ViewMergesWrongFalsely : Prop := viewMergesRow.holds Try.pinned (OpenSpec.ofChange viewMergesWrong)

/-- 'winnowlaw09.ViewJoins': WHATEVER THE INPUT: true; the input reads as it did. -/
def viewJoinsSpec : ChangeSpec := { name := "viewJoins", fn := fun _ => fun
  | [d1, d2, d3] => { results := [.lit (.bool true)], args := [d1, d2, d3] }
  | _ => none }
def viewJoinsRow : OpenClaim := { program := "ytgcpljghnlohbaa", sum := "7782b3db0b11ad3e803ea7e710bcbd8927fb458218a1fab9291f41f8bb67e89e", func := "winnow/winnowlaw09.ViewJoins", spec := "viewJoins", unfollowed := true, recurses := true, apart := false }
def ViewJoinsSaid : Prop := viewJoinsRow.holds Try.pinned (OpenSpec.ofChange viewJoinsSpec)

/-- ITS FALSE NEIGHBOUR: 'it returns false'. Refute it at one input. -/
def viewJoinsWrong : ChangeSpec := { name := "viewJoins", fn := fun _ => fun
  | [d1, d2, d3] => { results := [.lit (.bool false)], args := [d1, d2, d3] }
  | _ => none }
def ViewJoinsWrongFalsely : Prop := viewJoinsRow.holds Try.pinned (OpenSpec.ofChange viewJoinsWrong)

/- THE SECOND FORM. 'bulk': how many values and letters a reading holds, each counted each time it is reached (what is shared counts as often as it is met; a slice's spare places count too). A statement '..UptoSaid' is the law's where the arguments, and the package variables that the reading takes, are together of bulk at most 1048576: NARROWER than '..Said'. Prove '..Said' where nothing that the law and all that it calls make is longer than what came in: it says more and counts as full. Else prove '..UptoSaid'. A law counts once. -/
mutual
def uptoBulk {H : Type} : DataW H → Nat
  | .lit (.string bytes) => bytes.length + 1
  | .lit _ => 1
  | .nil => 1
  | .ptr d => uptoBulk d + 1
  | .slice elems spare => uptoBulkAll elems + uptoBulkAll spare + 1
  | .agg parts => uptoBulkAll parts + 1
  | .iface _ d => uptoBulk d + 1
  | .map entries => uptoBulkEntries entries + 1
  | .held _ => 1
def uptoBulkAll {H : Type} : List (DataW H) → Nat
  | [] => 0
  | d :: r => uptoBulk d + uptoBulkAll r
def uptoBulkEntries {H : Type} : List (Lit × DataW H) → Nat
  | [] => 0
  | x :: r => uptoBulkEntry x + uptoBulkEntries r
def uptoBulkEntry {H : Type} : Lit × DataW H → Nat
  | (.string bytes, d) => bytes.length + uptoBulk d + 1
  | (_, d) => uptoBulk d + 1
 end
def uptoSmall : (H : Type) → List (DataW H) → Bool := fun _ ds => decide (uptoBulkAll ds ≤ 1048576)
def OpenSpec.upto (s : _root_.Go.ChangeSpec) : _root_.Go.OpenSpec := { _root_.Go.OpenSpec.ofChange s with cond := some uptoSmall }

/-- 'winnowlaw16.BufferDue', WHERE WHAT IT READS IS OF BULK AT MOST 1048576: true; the input reads as it did. -/
def bufferDueUptoRow : OpenClaim := { program := "ytgcpljghnlohbaa", sum := "7782b3db0b11ad3e803ea7e710bcbd8927fb458218a1fab9291f41f8bb67e89e", func := "winnow/winnowlaw16.BufferDue", spec := "bufferDue", unfollowed := true, recurses := true, apart := false, narrowed := true }
def BufferDueUptoSaid : Prop := bufferDueUptoRow.holds Try.pinned (OpenSpec.upto bufferDueSpec)

/-- 'winnowlaw16.BufferTwice', WHERE WHAT IT READS IS OF BULK AT MOST 1048576: true; the input reads as it did. -/
def bufferTwiceUptoRow : OpenClaim := { program := "ytgcpljghnlohbaa", sum := "7782b3db0b11ad3e803ea7e710bcbd8927fb458218a1fab9291f41f8bb67e89e", func := "winnow/winnowlaw16.BufferTwice", spec := "bufferTwice", unfollowed := true, recurses := true, apart := false, narrowed := true }
def BufferTwiceUptoSaid : Prop := bufferTwiceUptoRow.holds Try.pinned (OpenSpec.upto bufferTwiceSpec)

/-- 'winnowlaw06.DiskTwice', WHERE WHAT IT READS IS OF BULK AT MOST 1048576: true; the input reads as it did. -/
def diskTwiceUptoRow : OpenClaim := { program := "ytgcpljghnlohbaa", sum := "7782b3db0b11ad3e803ea7e710bcbd8927fb458218a1fab9291f41f8bb67e89e", func := "winnow/winnowlaw06.DiskTwice", spec := "diskTwice", unfollowed := true, recurses := true, apart := false, narrowed := true }
def DiskTwiceUptoSaid : Prop := diskTwiceUptoRow.holds Try.pinned (OpenSpec.upto diskTwiceSpec)

/-- 'winnowlaw06.DiskArmed', WHERE WHAT IT READS IS OF BULK AT MOST 1048576: true; the input reads as it did. -/
def diskArmedUptoRow : OpenClaim := { program := "ytgcpljghnlohbaa", sum := "7782b3db0b11ad3e803ea7e710bcbd8927fb458218a1fab9291f41f8bb67e89e", func := "winnow/winnowlaw06.DiskArmed", spec := "diskArmed", unfollowed := true, recurses := true, apart := false, narrowed := true }
def DiskArmedUptoSaid : Prop := diskArmedUptoRow.holds Try.pinned (OpenSpec.upto diskArmedSpec)

/-- 'winnowlaw06.DiskFast', WHERE WHAT IT READS IS OF BULK AT MOST 1048576: true; the input reads as it did. -/
def diskFastUptoRow : OpenClaim := { program := "ytgcpljghnlohbaa", sum := "7782b3db0b11ad3e803ea7e710bcbd8927fb458218a1fab9291f41f8bb67e89e", func := "winnow/winnowlaw06.DiskFast", spec := "diskFast", unfollowed := true, recurses := true, apart := false, narrowed := true }
def DiskFastUptoSaid : Prop := diskFastUptoRow.holds Try.pinned (OpenSpec.upto diskFastSpec)

/-- 'winnowlaw06.DiskPlays', WHERE WHAT IT READS IS OF BULK AT MOST 1048576: true; the input reads as it did. -/
def diskPlaysUptoRow : OpenClaim := { program := "ytgcpljghnlohbaa", sum := "7782b3db0b11ad3e803ea7e710bcbd8927fb458218a1fab9291f41f8bb67e89e", func := "winnow/winnowlaw06.DiskPlays", spec := "diskPlays", unfollowed := true, recurses := true, apart := false, narrowed := true }
def DiskPlaysUptoSaid : Prop := diskPlaysUptoRow.holds Try.pinned (OpenSpec.upto diskPlaysSpec)

/-- 'winnowlaw06.DiskNils', WHERE WHAT IT READS IS OF BULK AT MOST 1048576: true; the input reads as it did. -/
def diskNilsUptoRow : OpenClaim := { program := "ytgcpljghnlohbaa", sum := "7782b3db0b11ad3e803ea7e710bcbd8927fb458218a1fab9291f41f8bb67e89e", func := "winnow/winnowlaw06.DiskNils", spec := "diskNils", unfollowed := true, recurses := true, apart := false, narrowed := true }
def DiskNilsUptoSaid : Prop := diskNilsUptoRow.holds Try.pinned (OpenSpec.upto diskNilsSpec)

/-- 'winnowlaw16.BufferCaps', WHERE WHAT IT READS IS OF BULK AT MOST 1048576: true; the input reads as it did. -/
def bufferCapsUptoRow : OpenClaim := { program := "ytgcpljghnlohbaa", sum := "7782b3db0b11ad3e803ea7e710bcbd8927fb458218a1fab9291f41f8bb67e89e", func := "winnow/winnowlaw16.BufferCaps", spec := "bufferCaps", unfollowed := true, recurses := true, apart := false, narrowed := true }
def BufferCapsUptoSaid : Prop := bufferCapsUptoRow.holds Try.pinned (OpenSpec.upto bufferCapsSpec)

/-- 'winnowlaw16.BufferPlays', WHERE WHAT IT READS IS OF BULK AT MOST 1048576: true; the input reads as it did. -/
def bufferPlaysUptoRow : OpenClaim := { program := "ytgcpljghnlohbaa", sum := "7782b3db0b11ad3e803ea7e710bcbd8927fb458218a1fab9291f41f8bb67e89e", func := "winnow/winnowlaw16.BufferPlays", spec := "bufferPlays", unfollowed := true, recurses := true, apart := false, narrowed := true }
def BufferPlaysUptoSaid : Prop := bufferPlaysUptoRow.holds Try.pinned (OpenSpec.upto bufferPlaysSpec)

/-- 'winnowlaw16.BufferNils', WHERE WHAT IT READS IS OF BULK AT MOST 1048576: true; the input reads as it did. -/
def bufferNilsUptoRow : OpenClaim := { program := "ytgcpljghnlohbaa", sum := "7782b3db0b11ad3e803ea7e710bcbd8927fb458218a1fab9291f41f8bb67e89e", func := "winnow/winnowlaw16.BufferNils", spec := "bufferNils", unfollowed := true, recurses := true, apart := false, narrowed := true }
def BufferNilsUptoSaid : Prop := bufferNilsUptoRow.holds Try.pinned (OpenSpec.upto bufferNilsSpec)

/-- 'winnowlaw09.ViewMerges', WHERE WHAT IT READS IS OF BULK AT MOST 1048576: true; the input reads as it did. -/
def viewMergesUptoRow : OpenClaim := { program := "ytgcpljghnlohbaa", sum := "7782b3db0b11ad3e803ea7e710bcbd8927fb458218a1fab9291f41f8bb67e89e", func := "winnow/winnowlaw09.ViewMerges", spec := "viewMerges", unfollowed := true, recurses := true, apart := false, narrowed := true }
def ViewMergesUptoSaid : Prop := viewMergesUptoRow.holds Try.pinned (OpenSpec.upto viewMergesSpec)

/-- 'winnowlaw09.ViewJoins', WHERE WHAT IT READS IS OF BULK AT MOST 1048576: true; the input reads as it did. -/
def viewJoinsUptoRow : OpenClaim := { program := "ytgcpljghnlohbaa", sum := "7782b3db0b11ad3e803ea7e710bcbd8927fb458218a1fab9291f41f8bb67e89e", func := "winnow/winnowlaw09.ViewJoins", spec := "viewJoins", unfollowed := true, recurses := true, apart := false, narrowed := true }
def ViewJoinsUptoSaid : Prop := viewJoinsUptoRow.holds Try.pinned (OpenSpec.upto viewJoinsSpec)

end Rows
end Go.Proofs.Ytgcpljghnlohbaa
