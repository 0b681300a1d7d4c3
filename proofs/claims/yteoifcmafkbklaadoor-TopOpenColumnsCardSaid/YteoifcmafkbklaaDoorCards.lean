/-
  DERIVED. GIVEN WITH THE SEED: THE CARDS: each row of YteoifcmafkbklaaDoorRows.lean that lists a variable, with what it lists TIED to the program's text (the seventh form; the later family's looks); each row that meets fmt, with fmt's text TOLD by the authors' own Lean function (tested against real Go, not proved from fmt's source: count such statements apart). THE CARD IS WHAT COUNTS. Prove the row's statement (the work); the ties are given (YteoifcmafkbklaaDoorTie.lean); close each card by the builder's one call (the guide's Derived/Test/ToyasCard.lean, 'card_holds'). Laid BY PROGRAM, IN A SANDBOX (cutbox-door.mjs). By AI agents, Wed Nov 11 2026. No macro, syntax, notation, axiom, sorry.
-/
import Derived.Test.YteoifcmafkbklaaDoorRows
import GoSem.ClaimSeven
namespace Go.Proofs.YteoifcmafkbklaaDoor
namespace Rows

/-- THE TIED CARD OF 'panachetop.TopOpenColumns'. -/
def topOpenColumnsCard : Claim7 := { stood := { row := topOpenColumnsRow, standIns := [], harness := (true, "2c4299340c0bc505c1c5f04785f4fa5e508e1d688f64181771048c08c375d952"), looks := false }, kinds := [], alts := [], laidByText := true, laidKinds := [.data, .pinned], laidTests := true, laidLooks := .later }
def TopOpenColumnsCardSaid : Prop := Claim7.holds Tryd.pinned (.plain (OpenSpec.ofChange topOpenColumnsSpec)) topOpenColumnsCard

/-- THE SECOND FORM's CARD OF 'panachetop.TopOpenColumns'. -/
def topOpenColumnsUptoCard : Claim7 := { stood := { row := topOpenColumnsUptoRow, standIns := [], harness := (true, "2c4299340c0bc505c1c5f04785f4fa5e508e1d688f64181771048c08c375d952"), looks := false }, kinds := [], alts := [], laidByText := true, laidKinds := [.data, .pinned], laidTests := true, laidLooks := .later }
def TopOpenColumnsUptoCardSaid : Prop := Claim7.holds Tryd.pinned (.plain (OpenSpec.upto topOpenColumnsSpec)) topOpenColumnsUptoCard
end Rows
end Go.Proofs.YteoifcmafkbklaaDoor
