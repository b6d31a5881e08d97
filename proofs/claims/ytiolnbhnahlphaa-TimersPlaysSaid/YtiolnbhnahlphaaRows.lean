/-
  No cell of these rows narrows 'for every input' (looked for: loops, veiled, ifaces, maps, wideKeys, modest, calm, conditions, laid).
  DERIVED. THE GIVEN ROWS OF THIS SEAT. 4 by the template 'for every input the law returns true; each argument reads behind the call as it read before'; 0 by the template 'total and deterministic' (their statements: YtiolnbhnahlphaaTotals.lean).
  GIVEN WITH THE SEED: the statements are not yours to turn. If you find one false, say at which input.
  Laid BY PROGRAM, IN A SANDBOX (cutbox-rows.mjs): the forced cells as the released guide's own fill.sh prints them over the translation 58a5624f1c1f2ddf… (all of the seat's roots in one cut). By AI agents, Wed Nov 11 2026. No macro, syntax, notation, axiom, sorry.
-/
import Derived.Test.YtiolnbhnahlphaaChecked
import GoSem.Claim
import GoSem.ClaimJoined
import GoSem.ClaimMapViews
import Derived.JoinedTies
import Derived.KernelRfl
namespace Go.Proofs.Ytiolnbhnahlphaa
/- THE CELL 'sum', in the pinned program and in every row, IS THE sha256 OF THE DUMP (.gsa) THAT YtiolnbhnahlphaaProg.lean LOADS. Nothing in Lean hashes anything: it is a label: what it is worth is what the hold of that sum in a sandbox is worth. -/
noncomputable def Try.pinned : Pinned := { name := "ytiolnbhnahlphaa", sum := "58a5624f1c1f2ddf8e040ed3bdb67ea29da5d779eeb1603d16332d5733396120", checked := Try.checked }
namespace Rows
def none {H : Type} : Left H := { results := [], args := [] }

/-- 'winnowlaw15.TimersSorted': WHATEVER THE INPUT: true; the input reads as it did. -/
def timersSortedSpec : ChangeSpec := { name := "timersSorted", fn := fun _ => fun
  | [d] => { results := [.lit (.bool true)], args := [d] }
  | _ => none }
def timersSortedRow : OpenClaim := { program := "ytiolnbhnahlphaa", sum := "58a5624f1c1f2ddf8e040ed3bdb67ea29da5d779eeb1603d16332d5733396120", func := "winnow/winnowlaw15.TimersSorted", spec := "timersSorted", unfollowed := true, recurses := true, apart := false }
def TimersSortedSaid : Prop := timersSortedRow.holds Try.pinned (OpenSpec.ofChange timersSortedSpec)

/-- ITS FALSE NEIGHBOUR: 'it returns false'. Refute it at one input. -/
def timersSortedWrong : ChangeSpec := { name := "timersSorted", fn := fun _ => fun
  | [d] => { results := [.lit (.bool false)], args := [d] }
  | _ => none }
def TimersSortedWrongFalsely : Prop := timersSortedRow.holds Try.pinned (OpenSpec.ofChange timersSortedWrong)

/-- 'winnowlaw15.TimersPlays': WHATEVER THE INPUT: true; the input reads as it did. -/
def timersPlaysSpec : ChangeSpec := { name := "timersPlays", fn := fun _ => fun
  | [d] => { results := [.lit (.bool true)], args := [d] }
  | _ => none }
def timersPlaysRow : OpenClaim := { program := "ytiolnbhnahlphaa", sum := "58a5624f1c1f2ddf8e040ed3bdb67ea29da5d779eeb1603d16332d5733396120", func := "winnow/winnowlaw15.TimersPlays", spec := "timersPlays", unfollowed := true, recurses := true, apart := false }
def TimersPlaysSaid : Prop := timersPlaysRow.holds Try.pinned (OpenSpec.ofChange timersPlaysSpec)

/-- ITS FALSE NEIGHBOUR: 'it returns false'. Refute it at one input. -/
def timersPlaysWrong : ChangeSpec := { name := "timersPlays", fn := fun _ => fun
  | [d] => { results := [.lit (.bool false)], args := [d] }
  | _ => none }
def TimersPlaysWrongFalsely : Prop := timersPlaysRow.holds Try.pinned (OpenSpec.ofChange timersPlaysWrong)

/-- 'winnowlaw15.TimersNils': WHATEVER THE INPUT: true; the input reads as it did. -/
def timersNilsSpec : ChangeSpec := { name := "timersNils", fn := fun _ => fun
  | [d1, d2] => { results := [.lit (.bool true)], args := [d1, d2] }
  | _ => none }
def timersNilsRow : OpenClaim := { program := "ytiolnbhnahlphaa", sum := "58a5624f1c1f2ddf8e040ed3bdb67ea29da5d779eeb1603d16332d5733396120", func := "winnow/winnowlaw15.TimersNils", spec := "timersNils", unfollowed := true, recurses := true, apart := false }
def TimersNilsSaid : Prop := timersNilsRow.holds Try.pinned (OpenSpec.ofChange timersNilsSpec)

/-- ITS FALSE NEIGHBOUR: 'it returns false'. Refute it at one input. -/
def timersNilsWrong : ChangeSpec := { name := "timersNils", fn := fun _ => fun
  | [d1, d2] => { results := [.lit (.bool false)], args := [d1, d2] }
  | _ => none }
def TimersNilsWrongFalsely : Prop := timersNilsRow.holds Try.pinned (OpenSpec.ofChange timersNilsWrong)

/-- 'winnowlaw15.TimersLast': WHATEVER THE INPUT: true; the input reads as it did. -/
def timersLastSpec : ChangeSpec := { name := "timersLast", fn := fun _ => fun
  | [d1, d2, d3] => { results := [.lit (.bool true)], args := [d1, d2, d3] }
  | _ => none }
def timersLastRow : OpenClaim := { program := "ytiolnbhnahlphaa", sum := "58a5624f1c1f2ddf8e040ed3bdb67ea29da5d779eeb1603d16332d5733396120", func := "winnow/winnowlaw15.TimersLast", spec := "timersLast", unfollowed := true, recurses := true, apart := false }
def TimersLastSaid : Prop := timersLastRow.holds Try.pinned (OpenSpec.ofChange timersLastSpec)

/-- ITS FALSE NEIGHBOUR: 'it returns false'. Refute it at one input. -/
def timersLastWrong : ChangeSpec := { name := "timersLast", fn := fun _ => fun
  | [d1, d2, d3] => { results := [.lit (.bool false)], args := [d1, d2, d3] }
  | _ => none }
def TimersLastWrongFalsely : Prop := timersLastRow.holds Try.pinned (OpenSpec.ofChange timersLastWrong)

/- THE SECOND FORM. 'bulk': how many values and letters a reading holds, each counted each time it is reached (what is shared counts as often as it is met; a slice's spare places count too). A statement '..UptoSaid' is the law's where the arguments, and the package variables that the reading takes, are together of bulk at most 1048576: NARROWER than '..Said'. Prove '..Said' where nothing that the law and all that it calls make is longer than what came in: it says more and counts as full. Else prove '..UptoSaid'. A law counts once. -/
mutual
def uptoBulk {H : Type} : DataW H → Nat
  | .lit (.string bytes) => bytes.length + 1
  | .lit _ => 1
  | .nil => 1
  | .ptr d => uptoBulk d + 1
  | .slice elems spare => uptoBulkAll elems + uptoBulkAll spare + 1
  | .agg parts => uptoBulkAll parts + 1
  | .iface _ d => uptoBulk d + 1
  | .map entries => uptoBulkEntries entries + 1
  | .held _ => 1
def uptoBulkAll {H : Type} : List (DataW H) → Nat
  | [] => 0
  | d :: r => uptoBulk d + uptoBulkAll r
def uptoBulkEntries {H : Type} : List (Lit × DataW H) → Nat
  | [] => 0
  | x :: r => uptoBulkEntry x + uptoBulkEntries r
def uptoBulkEntry {H : Type} : Lit × DataW H → Nat
  | (.string bytes, d) => bytes.length + uptoBulk d + 1
  | (_, d) => uptoBulk d + 1
 end
def uptoSmall : (H : Type) → List (DataW H) → Bool := fun _ ds => decide (uptoBulkAll ds ≤ 1048576)
def OpenSpec.upto (s : _root_.Go.ChangeSpec) : _root_.Go.OpenSpec := { _root_.Go.OpenSpec.ofChange s with cond := some uptoSmall }

/-- 'winnowlaw15.TimersSorted', WHERE WHAT IT READS IS OF BULK AT MOST 1048576: true; the input reads as it did. -/
def timersSortedUptoRow : OpenClaim := { program := "ytiolnbhnahlphaa", sum := "58a5624f1c1f2ddf8e040ed3bdb67ea29da5d779eeb1603d16332d5733396120", func := "winnow/winnowlaw15.TimersSorted", spec := "timersSorted", unfollowed := true, recurses := true, apart := false, narrowed := true }
def TimersSortedUptoSaid : Prop := timersSortedUptoRow.holds Try.pinned (OpenSpec.upto timersSortedSpec)

/-- 'winnowlaw15.TimersPlays', WHERE WHAT IT READS IS OF BULK AT MOST 1048576: true; the input reads as it did. -/
def timersPlaysUptoRow : OpenClaim := { program := "ytiolnbhnahlphaa", sum := "58a5624f1c1f2ddf8e040ed3bdb67ea29da5d779eeb1603d16332d5733396120", func := "winnow/winnowlaw15.TimersPlays", spec := "timersPlays", unfollowed := true, recurses := true, apart := false, narrowed := true }
def TimersPlaysUptoSaid : Prop := timersPlaysUptoRow.holds Try.pinned (OpenSpec.upto timersPlaysSpec)

/-- 'winnowlaw15.TimersNils', WHERE WHAT IT READS IS OF BULK AT MOST 1048576: true; the input reads as it did. -/
def timersNilsUptoRow : OpenClaim := { program := "ytiolnbhnahlphaa", sum := "58a5624f1c1f2ddf8e040ed3bdb67ea29da5d779eeb1603d16332d5733396120", func := "winnow/winnowlaw15.TimersNils", spec := "timersNils", unfollowed := true, recurses := true, apart := false, narrowed := true }
def TimersNilsUptoSaid : Prop := timersNilsUptoRow.holds Try.pinned (OpenSpec.upto timersNilsSpec)

/-- 'winnowlaw15.TimersLast', WHERE WHAT IT READS IS OF BULK AT MOST 1048576: true; the input reads as it did. -/
def timersLastUptoRow : OpenClaim := { program := "ytiolnbhnahlphaa", sum := "58a5624f1c1f2ddf8e040ed3bdb67ea29da5d779eeb1603d16332d5733396120", func := "winnow/winnowlaw15.TimersLast", spec := "timersLast", unfollowed := true, recurses := true, apart := false, narrowed := true }
def TimersLastUptoSaid : Prop := timersLastUptoRow.holds Try.pinned (OpenSpec.upto timersLastSpec)

end Rows
end Go.Proofs.Ytiolnbhnahlphaa
