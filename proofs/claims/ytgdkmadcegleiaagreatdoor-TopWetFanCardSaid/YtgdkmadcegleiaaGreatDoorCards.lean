/-
  DERIVED. GIVEN WITH THE SEED: THE CARDS: each row of YtgdkmadcegleiaaGreatDoorRows.lean that lists a variable, with what it lists TIED to the program's text (the seventh form; the later family's looks); each row that meets fmt, with fmt's text TOLD by the authors' own Lean function (tested against real Go, not proved from fmt's source: count such statements apart). THE CARD IS WHAT COUNTS. Prove the row's statement (the work); the ties are given (YtgdkmadcegleiaaGreatDoorTie.lean); close each card by the builder's one call (the guide's Derived/Test/ToyasCard.lean, 'card_holds'). Laid BY PROGRAM, IN A SANDBOX (cutbox-door.mjs). By AI agents, Wed Nov 11 2026. No macro, syntax, notation, axiom, sorry.
-/
import Derived.Test.YtgdkmadcegleiaaGreatDoorRows
import GoSem.ClaimSeven
namespace Go.Proofs.YtgdkmadcegleiaaGreatDoor
namespace Rows

/-- THE TIED CARD OF 'panachetop.TopEnoughSticks'. -/
def topEnoughSticksCard : Claim7 := { stood := { row := topEnoughSticksRow, standIns := [], harness := (true, "82de06f7255eb502618943862a66e4787df31cbe1188102f901122773568cc1d"), looks := false }, kinds := [], alts := [], laidByText := true, laidKinds := [.data, .pinned], laidTests := true, laidLooks := .later }
def TopEnoughSticksCardSaid : Prop := Claim7.holds Tryz.pinned (.plain (OpenSpec.ofChange topEnoughSticksSpec)) topEnoughSticksCard

/-- THE TIED CARD OF 'panachetop.TopArc'. -/
def topArcCard : Claim7 := { stood := { row := topArcRow, standIns := [], harness := (true, "82de06f7255eb502618943862a66e4787df31cbe1188102f901122773568cc1d"), looks := false }, kinds := [], alts := [], laidByText := true, laidKinds := [.data, .pinned], laidTests := true, laidLooks := .later }
def TopArcCardSaid : Prop := Claim7.holds Tryz.pinned (.plain (OpenSpec.ofChange topArcSpec)) topArcCard

/-- THE TIED CARD OF 'panachetop.TopWetFan'. -/
def topWetFanCard : Claim7 := { stood := { row := topWetFanRow, standIns := [], harness := (true, "82de06f7255eb502618943862a66e4787df31cbe1188102f901122773568cc1d"), looks := false }, kinds := [], alts := [], laidByText := true, laidKinds := [.data, .pinned], laidTests := true, laidLooks := .later }
def TopWetFanCardSaid : Prop := Claim7.holds Tryz.pinned (.plain (OpenSpec.ofChange topWetFanSpec)) topWetFanCard

/-- THE SECOND FORM's CARD OF 'panachetop.TopEnoughSticks'. -/
def topEnoughSticksUptoCard : Claim7 := { stood := { row := topEnoughSticksUptoRow, standIns := [], harness := (true, "82de06f7255eb502618943862a66e4787df31cbe1188102f901122773568cc1d"), looks := false }, kinds := [], alts := [], laidByText := true, laidKinds := [.data, .pinned], laidTests := true, laidLooks := .later }
def TopEnoughSticksUptoCardSaid : Prop := Claim7.holds Tryz.pinned (.plain (OpenSpec.upto topEnoughSticksSpec)) topEnoughSticksUptoCard

/-- THE SECOND FORM's CARD OF 'panachetop.TopArc'. -/
def topArcUptoCard : Claim7 := { stood := { row := topArcUptoRow, standIns := [], harness := (true, "82de06f7255eb502618943862a66e4787df31cbe1188102f901122773568cc1d"), looks := false }, kinds := [], alts := [], laidByText := true, laidKinds := [.data, .pinned], laidTests := true, laidLooks := .later }
def TopArcUptoCardSaid : Prop := Claim7.holds Tryz.pinned (.plain (OpenSpec.upto topArcSpec)) topArcUptoCard

/-- THE SECOND FORM's CARD OF 'panachetop.TopWetFan'. -/
def topWetFanUptoCard : Claim7 := { stood := { row := topWetFanUptoRow, standIns := [], harness := (true, "82de06f7255eb502618943862a66e4787df31cbe1188102f901122773568cc1d"), looks := false }, kinds := [], alts := [], laidByText := true, laidKinds := [.data, .pinned], laidTests := true, laidLooks := .later }
def TopWetFanUptoCardSaid : Prop := Claim7.holds Tryz.pinned (.plain (OpenSpec.upto topWetFanSpec)) topWetFanUptoCard
end Rows
end Go.Proofs.YtgdkmadcegleiaaGreatDoor
