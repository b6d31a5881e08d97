/-
  DERIVED. GIVEN WITH THE SEED: THE CARDS: each row of YtgepcfcicngceaaGreatDoorRows.lean that lists a variable, with what it lists TIED to the program's text (the seventh form; the later family's looks); each row that meets fmt, with fmt's text TOLD by the authors' own Lean function (tested against real Go, not proved from fmt's source: count such statements apart). THE CARD IS WHAT COUNTS. Prove the row's statement (the work); the ties are given (YtgepcfcicngceaaGreatDoorTie.lean); close each card by the builder's one call (the guide's Derived/Test/ToyasCard.lean, 'card_holds'). Laid BY PROGRAM, IN A SANDBOX (cutbox-door.mjs). By AI agents, Wed Nov 11 2026. No macro, syntax, notation, axiom, sorry.
-/
import Derived.Test.YtgepcfcicngceaaGreatDoorRows
import GoSem.ClaimSeven
namespace Go.Proofs.YtgepcfcicngceaaGreatDoor
namespace Rows

/-- THE TIED CARD OF 'winnowlaw19.CollectorNils'. -/
def collectorNilsCard : Claim7 := { stood := { row := collectorNilsRow, standIns := [], harness := (true, "c592ae09b617549adee18319149589621c825234e986ad1eee310880f05e4544"), looks := true }, kinds := [], alts := [], laidByText := true, laidKinds := [.data, .data, .data, .data, .sentinel, .sentinel, .pinned], laidTests := true, laidLooks := .later }
def CollectorNilsCardSaid : Prop := Claim7.holds Tryz.pinned (.plain (OpenSpec.ofChange collectorNilsSpec)) collectorNilsCard

/-- THE TIED CARD OF 'winnowlaw19.CollectorBad'. -/
def collectorBadCard : Claim7 := { stood := { row := collectorBadRow, standIns := [], harness := (true, "c592ae09b617549adee18319149589621c825234e986ad1eee310880f05e4544"), looks := true }, kinds := [], alts := [], laidByText := true, laidKinds := [.data, .data, .data, .data, .sentinel, .sentinel, .pinned], laidTests := true, laidLooks := .later }
def CollectorBadCardSaid : Prop := Claim7.holds Tryz.pinned (.plain (OpenSpec.ofChange collectorBadSpec)) collectorBadCard

/-- THE TIED CARD OF 'winnowlaw19.CollectorStops'. -/
def collectorStopsCard : Claim7 := { stood := { row := collectorStopsRow, standIns := [], harness := (true, "c592ae09b617549adee18319149589621c825234e986ad1eee310880f05e4544"), looks := true }, kinds := [], alts := [], laidByText := true, laidKinds := [.data, .data, .data, .data, .sentinel, .sentinel, .pinned], laidTests := true, laidLooks := .later }
def CollectorStopsCardSaid : Prop := Claim7.holds Tryz.pinned (.plain (OpenSpec.ofChange collectorStopsSpec)) collectorStopsCard

/-- THE TIED CARD OF 'winnowlaw19.CollectorHands'. -/
def collectorHandsCard : Claim7 := { stood := { row := collectorHandsRow, standIns := [], harness := (true, "c592ae09b617549adee18319149589621c825234e986ad1eee310880f05e4544"), looks := true }, kinds := [], alts := [], laidByText := true, laidKinds := [.data, .data, .data, .data, .sentinel, .sentinel, .pinned], laidTests := true, laidLooks := .later }
def CollectorHandsCardSaid : Prop := Claim7.holds Tryz.pinned (.plain (OpenSpec.ofChange collectorHandsSpec)) collectorHandsCard

/-- THE TIED CARD OF 'winnowlaw19.CollectorCaps'. -/
def collectorCapsCard : Claim7 := { stood := { row := collectorCapsRow, standIns := [], harness := (true, "c592ae09b617549adee18319149589621c825234e986ad1eee310880f05e4544"), looks := true }, kinds := [], alts := [], laidByText := true, laidKinds := [.data, .data, .data, .data, .sentinel, .sentinel, .pinned], laidTests := true, laidLooks := .later }
def CollectorCapsCardSaid : Prop := Claim7.holds Tryz.pinned (.plain (OpenSpec.ofChange collectorCapsSpec)) collectorCapsCard

/-- THE TIED CARD OF 'winnowlaw19.CollectorWants'. -/
def collectorWantsCard : Claim7 := { stood := { row := collectorWantsRow, standIns := [], harness := (true, "c592ae09b617549adee18319149589621c825234e986ad1eee310880f05e4544"), looks := true }, kinds := [], alts := [], laidByText := true, laidKinds := [.data, .data, .data, .data, .sentinel, .sentinel, .pinned], laidTests := true, laidLooks := .later }
def CollectorWantsCardSaid : Prop := Claim7.holds Tryz.pinned (.plain (OpenSpec.ofChange collectorWantsSpec)) collectorWantsCard

/-- THE TIED CARD OF 'winnowlaw19.CollectorRight'. -/
def collectorRightCard : Claim7 := { stood := { row := collectorRightRow, standIns := [], harness := (true, "c592ae09b617549adee18319149589621c825234e986ad1eee310880f05e4544"), looks := true }, kinds := [], alts := [], laidByText := true, laidKinds := [.data, .data, .data, .data, .sentinel, .sentinel, .pinned], laidTests := true, laidLooks := .later }
def CollectorRightCardSaid : Prop := Claim7.holds Tryz.pinned (.plain (OpenSpec.ofChange collectorRightSpec)) collectorRightCard

/-- THE SECOND FORM's CARD OF 'winnowlaw19.CollectorNils'. -/
def collectorNilsUptoCard : Claim7 := { stood := { row := collectorNilsUptoRow, standIns := [], harness := (true, "c592ae09b617549adee18319149589621c825234e986ad1eee310880f05e4544"), looks := true }, kinds := [], alts := [], laidByText := true, laidKinds := [.data, .data, .data, .data, .sentinel, .sentinel, .pinned], laidTests := true, laidLooks := .later }
def CollectorNilsUptoCardSaid : Prop := Claim7.holds Tryz.pinned (.plain (OpenSpec.upto collectorNilsSpec)) collectorNilsUptoCard

/-- THE SECOND FORM's CARD OF 'winnowlaw19.CollectorBad'. -/
def collectorBadUptoCard : Claim7 := { stood := { row := collectorBadUptoRow, standIns := [], harness := (true, "c592ae09b617549adee18319149589621c825234e986ad1eee310880f05e4544"), looks := true }, kinds := [], alts := [], laidByText := true, laidKinds := [.data, .data, .data, .data, .sentinel, .sentinel, .pinned], laidTests := true, laidLooks := .later }
def CollectorBadUptoCardSaid : Prop := Claim7.holds Tryz.pinned (.plain (OpenSpec.upto collectorBadSpec)) collectorBadUptoCard

/-- THE SECOND FORM's CARD OF 'winnowlaw19.CollectorStops'. -/
def collectorStopsUptoCard : Claim7 := { stood := { row := collectorStopsUptoRow, standIns := [], harness := (true, "c592ae09b617549adee18319149589621c825234e986ad1eee310880f05e4544"), looks := true }, kinds := [], alts := [], laidByText := true, laidKinds := [.data, .data, .data, .data, .sentinel, .sentinel, .pinned], laidTests := true, laidLooks := .later }
def CollectorStopsUptoCardSaid : Prop := Claim7.holds Tryz.pinned (.plain (OpenSpec.upto collectorStopsSpec)) collectorStopsUptoCard

/-- THE SECOND FORM's CARD OF 'winnowlaw19.CollectorHands'. -/
def collectorHandsUptoCard : Claim7 := { stood := { row := collectorHandsUptoRow, standIns := [], harness := (true, "c592ae09b617549adee18319149589621c825234e986ad1eee310880f05e4544"), looks := true }, kinds := [], alts := [], laidByText := true, laidKinds := [.data, .data, .data, .data, .sentinel, .sentinel, .pinned], laidTests := true, laidLooks := .later }
def CollectorHandsUptoCardSaid : Prop := Claim7.holds Tryz.pinned (.plain (OpenSpec.upto collectorHandsSpec)) collectorHandsUptoCard

/-- THE SECOND FORM's CARD OF 'winnowlaw19.CollectorCaps'. -/
def collectorCapsUptoCard : Claim7 := { stood := { row := collectorCapsUptoRow, standIns := [], harness := (true, "c592ae09b617549adee18319149589621c825234e986ad1eee310880f05e4544"), looks := true }, kinds := [], alts := [], laidByText := true, laidKinds := [.data, .data, .data, .data, .sentinel, .sentinel, .pinned], laidTests := true, laidLooks := .later }
def CollectorCapsUptoCardSaid : Prop := Claim7.holds Tryz.pinned (.plain (OpenSpec.upto collectorCapsSpec)) collectorCapsUptoCard

/-- THE SECOND FORM's CARD OF 'winnowlaw19.CollectorWants'. -/
def collectorWantsUptoCard : Claim7 := { stood := { row := collectorWantsUptoRow, standIns := [], harness := (true, "c592ae09b617549adee18319149589621c825234e986ad1eee310880f05e4544"), looks := true }, kinds := [], alts := [], laidByText := true, laidKinds := [.data, .data, .data, .data, .sentinel, .sentinel, .pinned], laidTests := true, laidLooks := .later }
def CollectorWantsUptoCardSaid : Prop := Claim7.holds Tryz.pinned (.plain (OpenSpec.upto collectorWantsSpec)) collectorWantsUptoCard

/-- THE SECOND FORM's CARD OF 'winnowlaw19.CollectorRight'. -/
def collectorRightUptoCard : Claim7 := { stood := { row := collectorRightUptoRow, standIns := [], harness := (true, "c592ae09b617549adee18319149589621c825234e986ad1eee310880f05e4544"), looks := true }, kinds := [], alts := [], laidByText := true, laidKinds := [.data, .data, .data, .data, .sentinel, .sentinel, .pinned], laidTests := true, laidLooks := .later }
def CollectorRightUptoCardSaid : Prop := Claim7.holds Tryz.pinned (.plain (OpenSpec.upto collectorRightSpec)) collectorRightUptoCard
end Rows
end Go.Proofs.YtgepcfcicngceaaGreatDoor
