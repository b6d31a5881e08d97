/-
  No cell of these rows narrows 'for every input' (looked for: loops, veiled, ifaces, maps, wideKeys, modest, calm, conditions, laid).
  DERIVED. THE GIVEN ROWS OF THIS SEAT. 11 by the template 'for every input the law returns true; each argument reads behind the call as it read before'; 0 by the template 'total and deterministic' (their statements: YtkjhekflgghbdaaTotals.lean).
  GIVEN WITH THE SEED: the statements are not yours to turn. If you find one false, say at which input.
  Laid BY PROGRAM, IN A SANDBOX (cutbox-rows.mjs): the forced cells as the released guide's own fill.sh prints them over the translation 26944134cd7636c0… (all of the seat's roots in one cut). By AI agents, Wed Nov 11 2026. No macro, syntax, notation, axiom, sorry.
-/
import Derived.Test.YtkjhekflgghbdaaChecked
import GoSem.Claim
import GoSem.ClaimJoined
import GoSem.ClaimMapViews
import Derived.JoinedTies
import Derived.KernelRfl
namespace Go.Proofs.Ytkjhekflgghbdaa
/- THE CELL 'sum', in the pinned program and in every row, IS THE sha256 OF THE DUMP (.gsa) THAT YtkjhekflgghbdaaProg.lean LOADS. Nothing in Lean hashes anything: it is a label: what it is worth is what the hold of that sum in a sandbox is worth. -/
noncomputable def Try.pinned : Pinned := { name := "ytkjhekflgghbdaa", sum := "26944134cd7636c02a96dcdae28bf85a9dfa7624fb52472e9dd9f8ed7663fd16", checked := Try.checked }
namespace Rows
def none {H : Type} : Left H := { results := [], args := [] }

/-- 'winnowlaw16.BufferPlays': WHATEVER THE INPUT: true; the input reads as it did. -/
def bufferPlaysSpec : ChangeSpec := { name := "bufferPlays", fn := fun _ => fun
  | [d1, d2, d3, d4] => { results := [.lit (.bool true)], args := [d1, d2, d3, d4] }
  | _ => none }
def bufferPlaysRow : OpenClaim := { program := "ytkjhekflgghbdaa", sum := "26944134cd7636c02a96dcdae28bf85a9dfa7624fb52472e9dd9f8ed7663fd16", func := "winnow/winnowlaw16.BufferPlays", spec := "bufferPlays", unfollowed := true, recurses := true, apart := false }
def BufferPlaysSaid : Prop := bufferPlaysRow.holds Try.pinned (OpenSpec.ofChange bufferPlaysSpec)

/-- ITS FALSE NEIGHBOUR: 'it returns false'. Refute it at one input. -/
def bufferPlaysWrong : ChangeSpec := { name := "bufferPlays", fn := fun _ => fun
  | [d1, d2, d3, d4] => { results := [.lit (.bool false)], args := [d1, d2, d3, d4] }
  | _ => none }
def BufferPlaysWrongFalsely : Prop := bufferPlaysRow.holds Try.pinned (OpenSpec.ofChange bufferPlaysWrong)

/-- 'winnowlaw09.ViewMerges': WHATEVER THE INPUT: true; the input reads as it did. -/
def viewMergesSpec : ChangeSpec := { name := "viewMerges", fn := fun _ => fun
  | [d1, d2] => { results := [.lit (.bool true)], args := [d1, d2] }
  | _ => none }
def viewMergesRow : OpenClaim := { program := "ytkjhekflgghbdaa", sum := "26944134cd7636c02a96dcdae28bf85a9dfa7624fb52472e9dd9f8ed7663fd16", func := "winnow/winnowlaw09.ViewMerges", spec := "viewMerges", unfollowed := true, recurses := true, apart := false }
def ViewMergesSaid : Prop := viewMergesRow.holds Try.pinned (OpenSpec.ofChange viewMergesSpec)

/-- ITS FALSE NEIGHBOUR: 'it returns false'. Refute it at one input. -/
def viewMergesWrong : ChangeSpec := { name := "viewMerges", fn := fun _ => fun
  | [d1, d2] => { results := [.lit (.bool false)], args := [d1, d2] }
  | _ => none }
def ViewMergesWrongFalsely : Prop := viewMergesRow.holds Try.pinned (OpenSpec.ofChange viewMergesWrong)

/-- 'winnowlaw10.GossipMeets': WHATEVER THE INPUT: true; the input reads as it did. -/
def gossipMeetsSpec : ChangeSpec := { name := "gossipMeets", fn := fun _ => fun
  | [d1, d2] => { results := [.lit (.bool true)], args := [d1, d2] }
  | _ => none }
def gossipMeetsRow : OpenClaim := { program := "ytkjhekflgghbdaa", sum := "26944134cd7636c02a96dcdae28bf85a9dfa7624fb52472e9dd9f8ed7663fd16", func := "winnow/winnowlaw10.GossipMeets", spec := "gossipMeets", unfollowed := true, recurses := true, apart := false }
def GossipMeetsSaid : Prop := gossipMeetsRow.holds Try.pinned (OpenSpec.ofChange gossipMeetsSpec)

/-- ITS FALSE NEIGHBOUR: 'it returns false'. Refute it at one input. -/
def gossipMeetsWrong : ChangeSpec := { name := "gossipMeets", fn := fun _ => fun
  | [d1, d2] => { results := [.lit (.bool false)], args := [d1, d2] }
  | _ => none }
def GossipMeetsWrongFalsely : Prop := gossipMeetsRow.holds Try.pinned (OpenSpec.ofChange gossipMeetsWrong)

/-- 'winnowlaw10.GossipHeard': WHATEVER THE INPUT: true; the input reads as it did. -/
def gossipHeardSpec : ChangeSpec := { name := "gossipHeard", fn := fun _ => fun
  | [d1, d2, d3] => { results := [.lit (.bool true)], args := [d1, d2, d3] }
  | _ => none }
def gossipHeardRow : OpenClaim := { program := "ytkjhekflgghbdaa", sum := "26944134cd7636c02a96dcdae28bf85a9dfa7624fb52472e9dd9f8ed7663fd16", func := "winnow/winnowlaw10.GossipHeard", spec := "gossipHeard", unfollowed := true, recurses := true, apart := false }
def GossipHeardSaid : Prop := gossipHeardRow.holds Try.pinned (OpenSpec.ofChange gossipHeardSpec)

/-- ITS FALSE NEIGHBOUR: 'it returns false'. Refute it at one input. -/
def gossipHeardWrong : ChangeSpec := { name := "gossipHeard", fn := fun _ => fun
  | [d1, d2, d3] => { results := [.lit (.bool false)], args := [d1, d2, d3] }
  | _ => none }
def GossipHeardWrongFalsely : Prop := gossipHeardRow.holds Try.pinned (OpenSpec.ofChange gossipHeardWrong)

/-- 'winnowlaw10.GossipRises': WHATEVER THE INPUT: true; the input reads as it did. -/
def gossipRisesSpec : ChangeSpec := { name := "gossipRises", fn := fun _ => fun
  | [d1, d2, d3, d4, d5] => { results := [.lit (.bool true)], args := [d1, d2, d3, d4, d5] }
  | _ => none }
def gossipRisesRow : OpenClaim := { program := "ytkjhekflgghbdaa", sum := "26944134cd7636c02a96dcdae28bf85a9dfa7624fb52472e9dd9f8ed7663fd16", func := "winnow/winnowlaw10.GossipRises", spec := "gossipRises", unfollowed := true, recurses := true, apart := false }
def GossipRisesSaid : Prop := gossipRisesRow.holds Try.pinned (OpenSpec.ofChange gossipRisesSpec)

/-- ITS FALSE NEIGHBOUR: 'it returns false'. Refute it at one input. -/
def gossipRisesWrong : ChangeSpec := { name := "gossipRises", fn := fun _ => fun
  | [d1, d2, d3, d4, d5] => { results := [.lit (.bool false)], args := [d1, d2, d3, d4, d5] }
  | _ => none }
def GossipRisesWrongFalsely : Prop := gossipRisesRow.holds Try.pinned (OpenSpec.ofChange gossipRisesWrong)

/-- 'winnowlaw10.GossipNils': WHATEVER THE INPUT: true; the input reads as it did. -/
def gossipNilsSpec : ChangeSpec := { name := "gossipNils", fn := fun _ => fun
  | [d1, d2, d3] => { results := [.lit (.bool true)], args := [d1, d2, d3] }
  | _ => none }
def gossipNilsRow : OpenClaim := { program := "ytkjhekflgghbdaa", sum := "26944134cd7636c02a96dcdae28bf85a9dfa7624fb52472e9dd9f8ed7663fd16", func := "winnow/winnowlaw10.GossipNils", spec := "gossipNils", unfollowed := true, recurses := true, apart := false }
def GossipNilsSaid : Prop := gossipNilsRow.holds Try.pinned (OpenSpec.ofChange gossipNilsSpec)

/-- ITS FALSE NEIGHBOUR: 'it returns false'. Refute it at one input. -/
def gossipNilsWrong : ChangeSpec := { name := "gossipNils", fn := fun _ => fun
  | [d1, d2, d3] => { results := [.lit (.bool false)], args := [d1, d2, d3] }
  | _ => none }
def GossipNilsWrongFalsely : Prop := gossipNilsRow.holds Try.pinned (OpenSpec.ofChange gossipNilsWrong)

/-- 'winnowlaw10.GossipLeaves': WHATEVER THE INPUT: true; the input reads as it did. -/
def gossipLeavesSpec : ChangeSpec := { name := "gossipLeaves", fn := fun _ => fun
  | [d1, d2] => { results := [.lit (.bool true)], args := [d1, d2] }
  | _ => none }
def gossipLeavesRow : OpenClaim := { program := "ytkjhekflgghbdaa", sum := "26944134cd7636c02a96dcdae28bf85a9dfa7624fb52472e9dd9f8ed7663fd16", func := "winnow/winnowlaw10.GossipLeaves", spec := "gossipLeaves", unfollowed := true, recurses := true, apart := false }
def GossipLeavesSaid : Prop := gossipLeavesRow.holds Try.pinned (OpenSpec.ofChange gossipLeavesSpec)

/-- ITS FALSE NEIGHBOUR: 'it returns false'. Refute it at one input. -/
def gossipLeavesWrong : ChangeSpec := { name := "gossipLeaves", fn := fun _ => fun
  | [d1, d2] => { results := [.lit (.bool false)], args := [d1, d2] }
  | _ => none }
def GossipLeavesWrongFalsely : Prop := gossipLeavesRow.holds Try.pinned (OpenSpec.ofChange gossipLeavesWrong)

/-- 'winnowlaw07.WalTorn': WHATEVER THE INPUT: true; the input reads as it did. -/
def walTornSpec : ChangeSpec := { name := "walTorn", fn := fun _ => fun
  | [d1, d2, d3] => { results := [.lit (.bool true)], args := [d1, d2, d3] }
  | _ => none }
def walTornRow : OpenClaim := { program := "ytkjhekflgghbdaa", sum := "26944134cd7636c02a96dcdae28bf85a9dfa7624fb52472e9dd9f8ed7663fd16", func := "winnow/winnowlaw07.WalTorn", spec := "walTorn", unfollowed := true, recurses := true, apart := false }
def WalTornSaid : Prop := walTornRow.holds Try.pinned (OpenSpec.ofChange walTornSpec)

/-- ITS FALSE NEIGHBOUR: 'it returns false'. Refute it at one input. -/
def walTornWrong : ChangeSpec := { name := "walTorn", fn := fun _ => fun
  | [d1, d2, d3] => { results := [.lit (.bool false)], args := [d1, d2, d3] }
  | _ => none }
def WalTornWrongFalsely : Prop := walTornRow.holds Try.pinned (OpenSpec.ofChange walTornWrong)

/-- 'winnowlaw07.WalFiles': WHATEVER THE INPUT: true; the input reads as it did. -/
def walFilesSpec : ChangeSpec := { name := "walFiles", fn := fun _ => fun
  | [d1, d2, d3] => { results := [.lit (.bool true)], args := [d1, d2, d3] }
  | _ => none }
def walFilesRow : OpenClaim := { program := "ytkjhekflgghbdaa", sum := "26944134cd7636c02a96dcdae28bf85a9dfa7624fb52472e9dd9f8ed7663fd16", func := "winnow/winnowlaw07.WalFiles", spec := "walFiles", unfollowed := true, recurses := true, apart := false }
def WalFilesSaid : Prop := walFilesRow.holds Try.pinned (OpenSpec.ofChange walFilesSpec)

/-- ITS FALSE NEIGHBOUR: 'it returns false'. Refute it at one input. -/
def walFilesWrong : ChangeSpec := { name := "walFiles", fn := fun _ => fun
  | [d1, d2, d3] => { results := [.lit (.bool false)], args := [d1, d2, d3] }
  | _ => none }
def WalFilesWrongFalsely : Prop := walFilesRow.holds Try.pinned (OpenSpec.ofChange walFilesWrong)

/-- 'winnowlaw07.WalPrefix': WHATEVER THE INPUT: true; the input reads as it did. -/
def walPrefixSpec : ChangeSpec := { name := "walPrefix", fn := fun _ => fun
  | [d1, d2] => { results := [.lit (.bool true)], args := [d1, d2] }
  | _ => none }
def walPrefixRow : OpenClaim := { program := "ytkjhekflgghbdaa", sum := "26944134cd7636c02a96dcdae28bf85a9dfa7624fb52472e9dd9f8ed7663fd16", func := "winnow/winnowlaw07.WalPrefix", spec := "walPrefix", unfollowed := true, recurses := true, apart := false }
def WalPrefixSaid : Prop := walPrefixRow.holds Try.pinned (OpenSpec.ofChange walPrefixSpec)

/-- ITS FALSE NEIGHBOUR: 'it returns false'. Refute it at one input. -/
def walPrefixWrong : ChangeSpec := { name := "walPrefix", fn := fun _ => fun
  | [d1, d2] => { results := [.lit (.bool false)], args := [d1, d2] }
  | _ => none }
def WalPrefixWrongFalsely : Prop := walPrefixRow.holds Try.pinned (OpenSpec.ofChange walPrefixWrong)

/-- 'winnowlaw07.WalDrops': WHATEVER THE INPUT: true; the input reads as it did. -/
def walDropsSpec : ChangeSpec := { name := "walDrops", fn := fun _ => fun
  | [d1, d2, d3] => { results := [.lit (.bool true)], args := [d1, d2, d3] }
  | _ => none }
def walDropsRow : OpenClaim := { program := "ytkjhekflgghbdaa", sum := "26944134cd7636c02a96dcdae28bf85a9dfa7624fb52472e9dd9f8ed7663fd16", func := "winnow/winnowlaw07.WalDrops", spec := "walDrops", unfollowed := true, recurses := true, apart := false }
def WalDropsSaid : Prop := walDropsRow.holds Try.pinned (OpenSpec.ofChange walDropsSpec)

/-- ITS FALSE NEIGHBOUR: 'it returns false'. Refute it at one input. -/
def walDropsWrong : ChangeSpec := { name := "walDrops", fn := fun _ => fun
  | [d1, d2, d3] => { results := [.lit (.bool false)], args := [d1, d2, d3] }
  | _ => none }
def WalDropsWrongFalsely : Prop := walDropsRow.holds Try.pinned (OpenSpec.ofChange walDropsWrong)

/- THE SECOND FORM. 'bulk': how many values and letters a reading holds, each counted each time it is reached (what is shared counts as often as it is met; a slice's spare places count too). A statement '..UptoSaid' is the law's where the arguments, and the package variables that the reading takes, are together of bulk at most 1048576: NARROWER than '..Said'. Prove '..Said' where nothing that the law and all that it calls make is longer than what came in: it says more and counts as full. Else prove '..UptoSaid'. A law counts once. -/
mutual
def uptoBulk {H : Type} : DataW H → Nat
  | .lit (.string bytes) => bytes.length + 1
  | .lit _ => 1
  | .nil => 1
  | .ptr d => uptoBulk d + 1
  | .slice elems spare => uptoBulkAll elems + uptoBulkAll spare + 1
  | .agg parts => uptoBulkAll parts + 1
  | .iface _ d => uptoBulk d + 1
  | .map entries => uptoBulkEntries entries + 1
  | .held _ => 1
def uptoBulkAll {H : Type} : List (DataW H) → Nat
  | [] => 0
  | d :: r => uptoBulk d + uptoBulkAll r
def uptoBulkEntries {H : Type} : List (Lit × DataW H) → Nat
  | [] => 0
  | x :: r => uptoBulkEntry x + uptoBulkEntries r
def uptoBulkEntry {H : Type} : Lit × DataW H → Nat
  | (.string bytes, d) => bytes.length + uptoBulk d + 1
  | (_, d) => uptoBulk d + 1
 end
def uptoSmall : (H : Type) → List (DataW H) → Bool := fun _ ds => decide (uptoBulkAll ds ≤ 1048576)
def OpenSpec.upto (s : _root_.Go.ChangeSpec) : _root_.Go.OpenSpec := { _root_.Go.OpenSpec.ofChange s with cond := some uptoSmall }

/-- 'winnowlaw16.BufferPlays', WHERE WHAT IT READS IS OF BULK AT MOST 1048576: true; the input reads as it did. -/
def bufferPlaysUptoRow : OpenClaim := { program := "ytkjhekflgghbdaa", sum := "26944134cd7636c02a96dcdae28bf85a9dfa7624fb52472e9dd9f8ed7663fd16", func := "winnow/winnowlaw16.BufferPlays", spec := "bufferPlays", unfollowed := true, recurses := true, apart := false, narrowed := true }
def BufferPlaysUptoSaid : Prop := bufferPlaysUptoRow.holds Try.pinned (OpenSpec.upto bufferPlaysSpec)

/-- 'winnowlaw09.ViewMerges', WHERE WHAT IT READS IS OF BULK AT MOST 1048576: true; the input reads as it did. -/
def viewMergesUptoRow : OpenClaim := { program := "ytkjhekflgghbdaa", sum := "26944134cd7636c02a96dcdae28bf85a9dfa7624fb52472e9dd9f8ed7663fd16", func := "winnow/winnowlaw09.ViewMerges", spec := "viewMerges", unfollowed := true, recurses := true, apart := false, narrowed := true }
def ViewMergesUptoSaid : Prop := viewMergesUptoRow.holds Try.pinned (OpenSpec.upto viewMergesSpec)

/-- 'winnowlaw10.GossipMeets', WHERE WHAT IT READS IS OF BULK AT MOST 1048576: true; the input reads as it did. -/
def gossipMeetsUptoRow : OpenClaim := { program := "ytkjhekflgghbdaa", sum := "26944134cd7636c02a96dcdae28bf85a9dfa7624fb52472e9dd9f8ed7663fd16", func := "winnow/winnowlaw10.GossipMeets", spec := "gossipMeets", unfollowed := true, recurses := true, apart := false, narrowed := true }
def GossipMeetsUptoSaid : Prop := gossipMeetsUptoRow.holds Try.pinned (OpenSpec.upto gossipMeetsSpec)

/-- 'winnowlaw10.GossipHeard', WHERE WHAT IT READS IS OF BULK AT MOST 1048576: true; the input reads as it did. -/
def gossipHeardUptoRow : OpenClaim := { program := "ytkjhekflgghbdaa", sum := "26944134cd7636c02a96dcdae28bf85a9dfa7624fb52472e9dd9f8ed7663fd16", func := "winnow/winnowlaw10.GossipHeard", spec := "gossipHeard", unfollowed := true, recurses := true, apart := false, narrowed := true }
def GossipHeardUptoSaid : Prop := gossipHeardUptoRow.holds Try.pinned (OpenSpec.upto gossipHeardSpec)

/-- 'winnowlaw10.GossipRises', WHERE WHAT IT READS IS OF BULK AT MOST 1048576: true; the input reads as it did. -/
def gossipRisesUptoRow : OpenClaim := { program := "ytkjhekflgghbdaa", sum := "26944134cd7636c02a96dcdae28bf85a9dfa7624fb52472e9dd9f8ed7663fd16", func := "winnow/winnowlaw10.GossipRises", spec := "gossipRises", unfollowed := true, recurses := true, apart := false, narrowed := true }
def GossipRisesUptoSaid : Prop := gossipRisesUptoRow.holds Try.pinned (OpenSpec.upto gossipRisesSpec)

/-- 'winnowlaw10.GossipNils', WHERE WHAT IT READS IS OF BULK AT MOST 1048576: true; the input reads as it did. -/
def gossipNilsUptoRow : OpenClaim := { program := "ytkjhekflgghbdaa", sum := "26944134cd7636c02a96dcdae28bf85a9dfa7624fb52472e9dd9f8ed7663fd16", func := "winnow/winnowlaw10.GossipNils", spec := "gossipNils", unfollowed := true, recurses := true, apart := false, narrowed := true }
def GossipNilsUptoSaid : Prop := gossipNilsUptoRow.holds Try.pinned (OpenSpec.upto gossipNilsSpec)

/-- 'winnowlaw10.GossipLeaves', WHERE WHAT IT READS IS OF BULK AT MOST 1048576: true; the input reads as it did. -/
def gossipLeavesUptoRow : OpenClaim := { program := "ytkjhekflgghbdaa", sum := "26944134cd7636c02a96dcdae28bf85a9dfa7624fb52472e9dd9f8ed7663fd16", func := "winnow/winnowlaw10.GossipLeaves", spec := "gossipLeaves", unfollowed := true, recurses := true, apart := false, narrowed := true }
def GossipLeavesUptoSaid : Prop := gossipLeavesUptoRow.holds Try.pinned (OpenSpec.upto gossipLeavesSpec)

/-- 'winnowlaw07.WalTorn', WHERE WHAT IT READS IS OF BULK AT MOST 1048576: true; the input reads as it did. -/
def walTornUptoRow : OpenClaim := { program := "ytkjhekflgghbdaa", sum := "26944134cd7636c02a96dcdae28bf85a9dfa7624fb52472e9dd9f8ed7663fd16", func := "winnow/winnowlaw07.WalTorn", spec := "walTorn", unfollowed := true, recurses := true, apart := false, narrowed := true }
def WalTornUptoSaid : Prop := walTornUptoRow.holds Try.pinned (OpenSpec.upto walTornSpec)

/-- 'winnowlaw07.WalFiles', WHERE WHAT IT READS IS OF BULK AT MOST 1048576: true; the input reads as it did. -/
def walFilesUptoRow : OpenClaim := { program := "ytkjhekflgghbdaa", sum := "26944134cd7636c02a96dcdae28bf85a9dfa7624fb52472e9dd9f8ed7663fd16", func := "winnow/winnowlaw07.WalFiles", spec := "walFiles", unfollowed := true, recurses := true, apart := false, narrowed := true }
def WalFilesUptoSaid : Prop := walFilesUptoRow.holds Try.pinned (OpenSpec.upto walFilesSpec)

/-- 'winnowlaw07.WalPrefix', WHERE WHAT IT READS IS OF BULK AT MOST 1048576: true; the input reads as it did. -/
def walPrefixUptoRow : OpenClaim := { program := "ytkjhekflgghbdaa", sum := "26944134cd7636c02a96dcdae28bf85a9dfa7624fb52472e9dd9f8ed7663fd16", func := "winnow/winnowlaw07.WalPrefix", spec := "walPrefix", unfollowed := true, recurses := true, apart := false, narrowed := true }
def WalPrefixUptoSaid : Prop := walPrefixUptoRow.holds Try.pinned (OpenSpec.upto walPrefixSpec)

/-- 'winnowlaw07.WalDrops', WHERE WHAT IT READS IS OF BULK AT MOST 1048576: true; the input reads as it did. -/
def walDropsUptoRow : OpenClaim := { program := "ytkjhekflgghbdaa", sum := "26944134cd7636c02a96dcdae28bf85a9dfa7624fb52472e9dd9f8ed7663fd16", func := "winnow/winnowlaw07.WalDrops", spec := "walDrops", unfollowed := true, recurses := true, apart := false, narrowed := true }
def WalDropsUptoSaid : Prop := walDropsUptoRow.holds Try.pinned (OpenSpec.upto walDropsSpec)

end Rows
end Go.Proofs.Ytkjhekflgghbdaa
