/-
  No cell of these rows narrows 'for every input' (looked for: loops, veiled, ifaces, maps, wideKeys, modest, calm, conditions, laid).
  DERIVED. THE GIVEN ROWS OF THIS SEAT. 11 by the template 'for every input the law returns true; each argument reads behind the call as it read before'; 0 by the template 'total and deterministic' (their statements: YtfnhoaemapheoaaGreatTotals.lean).
  GIVEN WITH THE SEED: the statements are not yours to turn. If you find one false, say at which input.
  Laid BY PROGRAM, IN A SANDBOX (cutbox-rows.mjs): the forced cells as the released guide's own fill.sh prints them over the translation 5ffee25aeebbd682… (all of the seat's roots in one cut). By AI agents, Wed Nov 11 2026. No macro, syntax, notation, axiom, sorry.
-/
import Derived.Test.YtfnhoaemapheoaaGreatChecked
import GoSem.Claim
import GoSem.ClaimJoined
import GoSem.ClaimMapViews
import Derived.JoinedTies
import Derived.KernelRfl
namespace Go.Proofs.YtfnhoaemapheoaaGreat
/- THE CELL 'sum', in the pinned program and in every row, IS THE sha256 OF THE DUMP (.gsa) THAT YtfnhoaemapheoaaGreatProg.lean LOADS. Nothing in Lean hashes anything: it is a label: what it is worth is what the hold of that sum in a sandbox is worth. -/
noncomputable def Tryz.pinned : Pinned := { name := "ytfnhoaemapheoaagreat", sum := "5ffee25aeebbd682cbb11663364334b552cf27abdb89c58190a58fb368edef57", checked := Tryz.checked }
namespace Rows
def none {H : Type} : Left H := { results := [], args := [] }

/-- 'winnowlaw13.ReplicaOnce': WHATEVER THE INPUT: true; the input reads as it did. -/
def replicaOnceSpec : ChangeSpec := { name := "replicaOnce", fn := fun _ => fun
  | [d] => { results := [.lit (.bool true)], args := [d] }
  | _ => none }
def replicaOnceRow : OpenClaim := { program := "ytfnhoaemapheoaagreat", sum := "5ffee25aeebbd682cbb11663364334b552cf27abdb89c58190a58fb368edef57", func := "winnow/winnowlaw13.ReplicaOnce", spec := "replicaOnce", unfollowed := true, recurses := true, apart := false }
def ReplicaOnceSaid : Prop := replicaOnceRow.holds Tryz.pinned (OpenSpec.ofChange replicaOnceSpec)

/-- ITS FALSE NEIGHBOUR: 'it returns false'. Refute it at one input. -/
def replicaOnceWrong : ChangeSpec := { name := "replicaOnce", fn := fun _ => fun
  | [d] => { results := [.lit (.bool false)], args := [d] }
  | _ => none }
def ReplicaOnceWrongFalsely : Prop := replicaOnceRow.holds Tryz.pinned (OpenSpec.ofChange replicaOnceWrong)

/-- 'winnowlaw13.ReplicaPlays': WHATEVER THE INPUT: true; the input reads as it did. -/
def replicaPlaysSpec : ChangeSpec := { name := "replicaPlays", fn := fun _ => fun
  | [d1, d2] => { results := [.lit (.bool true)], args := [d1, d2] }
  | _ => none }
def replicaPlaysRow : OpenClaim := { program := "ytfnhoaemapheoaagreat", sum := "5ffee25aeebbd682cbb11663364334b552cf27abdb89c58190a58fb368edef57", func := "winnow/winnowlaw13.ReplicaPlays", spec := "replicaPlays", unfollowed := true, recurses := true, apart := false }
def ReplicaPlaysSaid : Prop := replicaPlaysRow.holds Tryz.pinned (OpenSpec.ofChange replicaPlaysSpec)

/-- ITS FALSE NEIGHBOUR: 'it returns false'. Refute it at one input. -/
def replicaPlaysWrong : ChangeSpec := { name := "replicaPlays", fn := fun _ => fun
  | [d1, d2] => { results := [.lit (.bool false)], args := [d1, d2] }
  | _ => none }
def ReplicaPlaysWrongFalsely : Prop := replicaPlaysRow.holds Tryz.pinned (OpenSpec.ofChange replicaPlaysWrong)

/-- 'winnowlaw13.ReplicaCrash': WHATEVER THE INPUT: true; the input reads as it did. -/
def replicaCrashSpec : ChangeSpec := { name := "replicaCrash", fn := fun _ => fun
  | [d1, d2] => { results := [.lit (.bool true)], args := [d1, d2] }
  | _ => none }
def replicaCrashRow : OpenClaim := { program := "ytfnhoaemapheoaagreat", sum := "5ffee25aeebbd682cbb11663364334b552cf27abdb89c58190a58fb368edef57", func := "winnow/winnowlaw13.ReplicaCrash", spec := "replicaCrash", unfollowed := true, recurses := true, apart := false }
def ReplicaCrashSaid : Prop := replicaCrashRow.holds Tryz.pinned (OpenSpec.ofChange replicaCrashSpec)

/-- ITS FALSE NEIGHBOUR: 'it returns false'. Refute it at one input. -/
def replicaCrashWrong : ChangeSpec := { name := "replicaCrash", fn := fun _ => fun
  | [d1, d2] => { results := [.lit (.bool false)], args := [d1, d2] }
  | _ => none }
def ReplicaCrashWrongFalsely : Prop := replicaCrashRow.holds Tryz.pinned (OpenSpec.ofChange replicaCrashWrong)

/-- 'winnowlaw13.ReplicaDown': WHATEVER THE INPUT: true; the input reads as it did. -/
def replicaDownSpec : ChangeSpec := { name := "replicaDown", fn := fun _ => fun
  | [d1, d2, d3] => { results := [.lit (.bool true)], args := [d1, d2, d3] }
  | _ => none }
def replicaDownRow : OpenClaim := { program := "ytfnhoaemapheoaagreat", sum := "5ffee25aeebbd682cbb11663364334b552cf27abdb89c58190a58fb368edef57", func := "winnow/winnowlaw13.ReplicaDown", spec := "replicaDown", unfollowed := true, recurses := true, apart := false }
def ReplicaDownSaid : Prop := replicaDownRow.holds Tryz.pinned (OpenSpec.ofChange replicaDownSpec)

/-- ITS FALSE NEIGHBOUR: 'it returns false'. Refute it at one input. -/
def replicaDownWrong : ChangeSpec := { name := "replicaDown", fn := fun _ => fun
  | [d1, d2, d3] => { results := [.lit (.bool false)], args := [d1, d2, d3] }
  | _ => none }
def ReplicaDownWrongFalsely : Prop := replicaDownRow.holds Tryz.pinned (OpenSpec.ofChange replicaDownWrong)

/-- 'winnowlaw13.ReplicaRises': WHATEVER THE INPUT: true; the input reads as it did. -/
def replicaRisesSpec : ChangeSpec := { name := "replicaRises", fn := fun _ => fun
  | [d] => { results := [.lit (.bool true)], args := [d] }
  | _ => none }
def replicaRisesRow : OpenClaim := { program := "ytfnhoaemapheoaagreat", sum := "5ffee25aeebbd682cbb11663364334b552cf27abdb89c58190a58fb368edef57", func := "winnow/winnowlaw13.ReplicaRises", spec := "replicaRises", unfollowed := true, recurses := true, apart := false }
def ReplicaRisesSaid : Prop := replicaRisesRow.holds Tryz.pinned (OpenSpec.ofChange replicaRisesSpec)

/-- ITS FALSE NEIGHBOUR: 'it returns false'. Refute it at one input. -/
def replicaRisesWrong : ChangeSpec := { name := "replicaRises", fn := fun _ => fun
  | [d] => { results := [.lit (.bool false)], args := [d] }
  | _ => none }
def ReplicaRisesWrongFalsely : Prop := replicaRisesRow.holds Tryz.pinned (OpenSpec.ofChange replicaRisesWrong)

/-- 'winnowlaw13.ReplicaCompacts': WHATEVER THE INPUT: true; the input reads as it did. -/
def replicaCompactsSpec : ChangeSpec := { name := "replicaCompacts", fn := fun _ => fun
  | [d] => { results := [.lit (.bool true)], args := [d] }
  | _ => none }
def replicaCompactsRow : OpenClaim := { program := "ytfnhoaemapheoaagreat", sum := "5ffee25aeebbd682cbb11663364334b552cf27abdb89c58190a58fb368edef57", func := "winnow/winnowlaw13.ReplicaCompacts", spec := "replicaCompacts", unfollowed := true, recurses := true, apart := false }
def ReplicaCompactsSaid : Prop := replicaCompactsRow.holds Tryz.pinned (OpenSpec.ofChange replicaCompactsSpec)

/-- ITS FALSE NEIGHBOUR: 'it returns false'. Refute it at one input. -/
def replicaCompactsWrong : ChangeSpec := { name := "replicaCompacts", fn := fun _ => fun
  | [d] => { results := [.lit (.bool false)], args := [d] }
  | _ => none }
def ReplicaCompactsWrongFalsely : Prop := replicaCompactsRow.holds Tryz.pinned (OpenSpec.ofChange replicaCompactsWrong)

/-- 'winnowlaw18.StoreTwice': WHATEVER THE INPUT: true; the input reads as it did. -/
def storeTwiceSpec : ChangeSpec := { name := "storeTwice", fn := fun _ => fun
  | [d1, d2] => { results := [.lit (.bool true)], args := [d1, d2] }
  | _ => none }
def storeTwiceRow : OpenClaim := { program := "ytfnhoaemapheoaagreat", sum := "5ffee25aeebbd682cbb11663364334b552cf27abdb89c58190a58fb368edef57", func := "winnow/winnowlaw18.StoreTwice", spec := "storeTwice", unfollowed := true, recurses := true, apart := false }
def StoreTwiceSaid : Prop := storeTwiceRow.holds Tryz.pinned (OpenSpec.ofChange storeTwiceSpec)

/-- ITS FALSE NEIGHBOUR: 'it returns false'. Refute it at one input. -/
def storeTwiceWrong : ChangeSpec := { name := "storeTwice", fn := fun _ => fun
  | [d1, d2] => { results := [.lit (.bool false)], args := [d1, d2] }
  | _ => none }
def StoreTwiceWrongFalsely : Prop := storeTwiceRow.holds Tryz.pinned (OpenSpec.ofChange storeTwiceWrong)

/-- 'winnowlaw18.StorePlays': WHATEVER THE INPUT: true; the input reads as it did. -/
def storePlaysSpec : ChangeSpec := { name := "storePlays", fn := fun _ => fun
  | [d1, d2] => { results := [.lit (.bool true)], args := [d1, d2] }
  | _ => none }
def storePlaysRow : OpenClaim := { program := "ytfnhoaemapheoaagreat", sum := "5ffee25aeebbd682cbb11663364334b552cf27abdb89c58190a58fb368edef57", func := "winnow/winnowlaw18.StorePlays", spec := "storePlays", unfollowed := true, recurses := true, apart := false }
def StorePlaysSaid : Prop := storePlaysRow.holds Tryz.pinned (OpenSpec.ofChange storePlaysSpec)

/-- ITS FALSE NEIGHBOUR: 'it returns false'. Refute it at one input. -/
def storePlaysWrong : ChangeSpec := { name := "storePlays", fn := fun _ => fun
  | [d1, d2] => { results := [.lit (.bool false)], args := [d1, d2] }
  | _ => none }
def StorePlaysWrongFalsely : Prop := storePlaysRow.holds Tryz.pinned (OpenSpec.ofChange storePlaysWrong)

/-- 'winnowlaw18.StoreOrder': WHATEVER THE INPUT: true; the input reads as it did. -/
def storeOrderSpec : ChangeSpec := { name := "storeOrder", fn := fun _ => fun
  | [d1, d2, d3] => { results := [.lit (.bool true)], args := [d1, d2, d3] }
  | _ => none }
def storeOrderRow : OpenClaim := { program := "ytfnhoaemapheoaagreat", sum := "5ffee25aeebbd682cbb11663364334b552cf27abdb89c58190a58fb368edef57", func := "winnow/winnowlaw18.StoreOrder", spec := "storeOrder", unfollowed := true, recurses := true, apart := false }
def StoreOrderSaid : Prop := storeOrderRow.holds Tryz.pinned (OpenSpec.ofChange storeOrderSpec)

/-- ITS FALSE NEIGHBOUR: 'it returns false'. Refute it at one input. -/
def storeOrderWrong : ChangeSpec := { name := "storeOrder", fn := fun _ => fun
  | [d1, d2, d3] => { results := [.lit (.bool false)], args := [d1, d2, d3] }
  | _ => none }
def StoreOrderWrongFalsely : Prop := storeOrderRow.holds Tryz.pinned (OpenSpec.ofChange storeOrderWrong)

/-- 'winnowlaw18.StoreCrash': WHATEVER THE INPUT: true; the input reads as it did. -/
def storeCrashSpec : ChangeSpec := { name := "storeCrash", fn := fun _ => fun
  | [d1, d2] => { results := [.lit (.bool true)], args := [d1, d2] }
  | _ => none }
def storeCrashRow : OpenClaim := { program := "ytfnhoaemapheoaagreat", sum := "5ffee25aeebbd682cbb11663364334b552cf27abdb89c58190a58fb368edef57", func := "winnow/winnowlaw18.StoreCrash", spec := "storeCrash", unfollowed := true, recurses := true, apart := false }
def StoreCrashSaid : Prop := storeCrashRow.holds Tryz.pinned (OpenSpec.ofChange storeCrashSpec)

/-- ITS FALSE NEIGHBOUR: 'it returns false'. Refute it at one input. -/
def storeCrashWrong : ChangeSpec := { name := "storeCrash", fn := fun _ => fun
  | [d1, d2] => { results := [.lit (.bool false)], args := [d1, d2] }
  | _ => none }
def StoreCrashWrongFalsely : Prop := storeCrashRow.holds Tryz.pinned (OpenSpec.ofChange storeCrashWrong)

/-- 'winnowlaw18.StoreDown': WHATEVER THE INPUT: true; the input reads as it did. -/
def storeDownSpec : ChangeSpec := { name := "storeDown", fn := fun _ => fun
  | [d1, d2] => { results := [.lit (.bool true)], args := [d1, d2] }
  | _ => none }
def storeDownRow : OpenClaim := { program := "ytfnhoaemapheoaagreat", sum := "5ffee25aeebbd682cbb11663364334b552cf27abdb89c58190a58fb368edef57", func := "winnow/winnowlaw18.StoreDown", spec := "storeDown", unfollowed := true, recurses := true, apart := false }
def StoreDownSaid : Prop := storeDownRow.holds Tryz.pinned (OpenSpec.ofChange storeDownSpec)

/-- ITS FALSE NEIGHBOUR: 'it returns false'. Refute it at one input. -/
def storeDownWrong : ChangeSpec := { name := "storeDown", fn := fun _ => fun
  | [d1, d2] => { results := [.lit (.bool false)], args := [d1, d2] }
  | _ => none }
def StoreDownWrongFalsely : Prop := storeDownRow.holds Tryz.pinned (OpenSpec.ofChange storeDownWrong)

/- THE SECOND FORM. 'bulk': how many values and letters a reading holds, each counted each time it is reached (what is shared counts as often as it is met; a slice's spare places count too). A statement '..UptoSaid' is the law's where the arguments, and the package variables that the reading takes, are together of bulk at most 1048576: NARROWER than '..Said'. Prove '..Said' where nothing that the law and all that it calls make is longer than what came in: it says more and counts as full. Else prove '..UptoSaid'. A law counts once. -/
mutual
def uptoBulk {H : Type} : DataW H → Nat
  | .lit (.string bytes) => bytes.length + 1
  | .lit _ => 1
  | .nil => 1
  | .ptr d => uptoBulk d + 1
  | .slice elems spare => uptoBulkAll elems + uptoBulkAll spare + 1
  | .agg parts => uptoBulkAll parts + 1
  | .iface _ d => uptoBulk d + 1
  | .map entries => uptoBulkEntries entries + 1
  | .held _ => 1
def uptoBulkAll {H : Type} : List (DataW H) → Nat
  | [] => 0
  | d :: r => uptoBulk d + uptoBulkAll r
def uptoBulkEntries {H : Type} : List (Lit × DataW H) → Nat
  | [] => 0
  | x :: r => uptoBulkEntry x + uptoBulkEntries r
def uptoBulkEntry {H : Type} : Lit × DataW H → Nat
  | (.string bytes, d) => bytes.length + uptoBulk d + 1
  | (_, d) => uptoBulk d + 1
 end
def uptoSmall : (H : Type) → List (DataW H) → Bool := fun _ ds => decide (uptoBulkAll ds ≤ 1048576)
def OpenSpec.upto (s : _root_.Go.ChangeSpec) : _root_.Go.OpenSpec := { _root_.Go.OpenSpec.ofChange s with cond := some uptoSmall }

/-- 'winnowlaw13.ReplicaOnce', WHERE WHAT IT READS IS OF BULK AT MOST 1048576: true; the input reads as it did. -/
def replicaOnceUptoRow : OpenClaim := { program := "ytfnhoaemapheoaagreat", sum := "5ffee25aeebbd682cbb11663364334b552cf27abdb89c58190a58fb368edef57", func := "winnow/winnowlaw13.ReplicaOnce", spec := "replicaOnce", unfollowed := true, recurses := true, apart := false, narrowed := true }
def ReplicaOnceUptoSaid : Prop := replicaOnceUptoRow.holds Tryz.pinned (OpenSpec.upto replicaOnceSpec)

/-- 'winnowlaw13.ReplicaPlays', WHERE WHAT IT READS IS OF BULK AT MOST 1048576: true; the input reads as it did. -/
def replicaPlaysUptoRow : OpenClaim := { program := "ytfnhoaemapheoaagreat", sum := "5ffee25aeebbd682cbb11663364334b552cf27abdb89c58190a58fb368edef57", func := "winnow/winnowlaw13.ReplicaPlays", spec := "replicaPlays", unfollowed := true, recurses := true, apart := false, narrowed := true }
def ReplicaPlaysUptoSaid : Prop := replicaPlaysUptoRow.holds Tryz.pinned (OpenSpec.upto replicaPlaysSpec)

/-- 'winnowlaw13.ReplicaCrash', WHERE WHAT IT READS IS OF BULK AT MOST 1048576: true; the input reads as it did. -/
def replicaCrashUptoRow : OpenClaim := { program := "ytfnhoaemapheoaagreat", sum := "5ffee25aeebbd682cbb11663364334b552cf27abdb89c58190a58fb368edef57", func := "winnow/winnowlaw13.ReplicaCrash", spec := "replicaCrash", unfollowed := true, recurses := true, apart := false, narrowed := true }
def ReplicaCrashUptoSaid : Prop := replicaCrashUptoRow.holds Tryz.pinned (OpenSpec.upto replicaCrashSpec)

/-- 'winnowlaw13.ReplicaDown', WHERE WHAT IT READS IS OF BULK AT MOST 1048576: true; the input reads as it did. -/
def replicaDownUptoRow : OpenClaim := { program := "ytfnhoaemapheoaagreat", sum := "5ffee25aeebbd682cbb11663364334b552cf27abdb89c58190a58fb368edef57", func := "winnow/winnowlaw13.ReplicaDown", spec := "replicaDown", unfollowed := true, recurses := true, apart := false, narrowed := true }
def ReplicaDownUptoSaid : Prop := replicaDownUptoRow.holds Tryz.pinned (OpenSpec.upto replicaDownSpec)

/-- 'winnowlaw13.ReplicaRises', WHERE WHAT IT READS IS OF BULK AT MOST 1048576: true; the input reads as it did. -/
def replicaRisesUptoRow : OpenClaim := { program := "ytfnhoaemapheoaagreat", sum := "5ffee25aeebbd682cbb11663364334b552cf27abdb89c58190a58fb368edef57", func := "winnow/winnowlaw13.ReplicaRises", spec := "replicaRises", unfollowed := true, recurses := true, apart := false, narrowed := true }
def ReplicaRisesUptoSaid : Prop := replicaRisesUptoRow.holds Tryz.pinned (OpenSpec.upto replicaRisesSpec)

/-- 'winnowlaw13.ReplicaCompacts', WHERE WHAT IT READS IS OF BULK AT MOST 1048576: true; the input reads as it did. -/
def replicaCompactsUptoRow : OpenClaim := { program := "ytfnhoaemapheoaagreat", sum := "5ffee25aeebbd682cbb11663364334b552cf27abdb89c58190a58fb368edef57", func := "winnow/winnowlaw13.ReplicaCompacts", spec := "replicaCompacts", unfollowed := true, recurses := true, apart := false, narrowed := true }
def ReplicaCompactsUptoSaid : Prop := replicaCompactsUptoRow.holds Tryz.pinned (OpenSpec.upto replicaCompactsSpec)

/-- 'winnowlaw18.StoreTwice', WHERE WHAT IT READS IS OF BULK AT MOST 1048576: true; the input reads as it did. -/
def storeTwiceUptoRow : OpenClaim := { program := "ytfnhoaemapheoaagreat", sum := "5ffee25aeebbd682cbb11663364334b552cf27abdb89c58190a58fb368edef57", func := "winnow/winnowlaw18.StoreTwice", spec := "storeTwice", unfollowed := true, recurses := true, apart := false, narrowed := true }
def StoreTwiceUptoSaid : Prop := storeTwiceUptoRow.holds Tryz.pinned (OpenSpec.upto storeTwiceSpec)

/-- 'winnowlaw18.StorePlays', WHERE WHAT IT READS IS OF BULK AT MOST 1048576: true; the input reads as it did. -/
def storePlaysUptoRow : OpenClaim := { program := "ytfnhoaemapheoaagreat", sum := "5ffee25aeebbd682cbb11663364334b552cf27abdb89c58190a58fb368edef57", func := "winnow/winnowlaw18.StorePlays", spec := "storePlays", unfollowed := true, recurses := true, apart := false, narrowed := true }
def StorePlaysUptoSaid : Prop := storePlaysUptoRow.holds Tryz.pinned (OpenSpec.upto storePlaysSpec)

/-- 'winnowlaw18.StoreOrder', WHERE WHAT IT READS IS OF BULK AT MOST 1048576: true; the input reads as it did. -/
def storeOrderUptoRow : OpenClaim := { program := "ytfnhoaemapheoaagreat", sum := "5ffee25aeebbd682cbb11663364334b552cf27abdb89c58190a58fb368edef57", func := "winnow/winnowlaw18.StoreOrder", spec := "storeOrder", unfollowed := true, recurses := true, apart := false, narrowed := true }
def StoreOrderUptoSaid : Prop := storeOrderUptoRow.holds Tryz.pinned (OpenSpec.upto storeOrderSpec)

/-- 'winnowlaw18.StoreCrash', WHERE WHAT IT READS IS OF BULK AT MOST 1048576: true; the input reads as it did. -/
def storeCrashUptoRow : OpenClaim := { program := "ytfnhoaemapheoaagreat", sum := "5ffee25aeebbd682cbb11663364334b552cf27abdb89c58190a58fb368edef57", func := "winnow/winnowlaw18.StoreCrash", spec := "storeCrash", unfollowed := true, recurses := true, apart := false, narrowed := true }
def StoreCrashUptoSaid : Prop := storeCrashUptoRow.holds Tryz.pinned (OpenSpec.upto storeCrashSpec)

/-- 'winnowlaw18.StoreDown', WHERE WHAT IT READS IS OF BULK AT MOST 1048576: true; the input reads as it did. -/
def storeDownUptoRow : OpenClaim := { program := "ytfnhoaemapheoaagreat", sum := "5ffee25aeebbd682cbb11663364334b552cf27abdb89c58190a58fb368edef57", func := "winnow/winnowlaw18.StoreDown", spec := "storeDown", unfollowed := true, recurses := true, apart := false, narrowed := true }
def StoreDownUptoSaid : Prop := storeDownUptoRow.holds Tryz.pinned (OpenSpec.upto storeDownSpec)

end Rows
end Go.Proofs.YtfnhoaemapheoaaGreat
