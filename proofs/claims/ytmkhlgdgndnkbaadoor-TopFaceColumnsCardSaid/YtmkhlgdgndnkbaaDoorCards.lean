/-
  DERIVED. GIVEN WITH THE SEED: THE CARDS: each row of YtmkhlgdgndnkbaaDoorRows.lean that lists a variable, with what it lists TIED to the program's text (the seventh form; the later family's looks); each row that meets fmt, with fmt's text TOLD by the authors' own Lean function (tested against real Go, not proved from fmt's source: count such statements apart). THE CARD IS WHAT COUNTS. Prove the row's statement (the work); the ties are given (YtmkhlgdgndnkbaaDoorTie.lean); close each card by the builder's one call (the guide's Derived/Test/ToyasCard.lean, 'card_holds'). Laid BY PROGRAM, IN A SANDBOX (cutbox-door.mjs). By AI agents, Wed Nov 11 2026. No macro, syntax, notation, axiom, sorry.
-/
import Derived.Test.YtmkhlgdgndnkbaaDoorRows
import GoSem.ClaimSeven
namespace Go.Proofs.YtmkhlgdgndnkbaaDoor
namespace Rows

/-- THE TIED CARD OF 'panachetop.TopFaceColumns'. -/
def topFaceColumnsCard : Claim7 := { stood := { row := topFaceColumnsRow, standIns := [], harness := (true, "425da32430d23edb8a8f1749f8699d62f5cd739eda889269af4397e1671b357e"), looks := false }, kinds := [], alts := [], laidByText := true, laidKinds := [.data, .pinned], laidTests := true, laidLooks := .later }
def TopFaceColumnsCardSaid : Prop := Claim7.holds Tryd.pinned (.plain (OpenSpec.ofChange topFaceColumnsSpec)) topFaceColumnsCard

/-- THE SECOND FORM's CARD OF 'panachetop.TopFaceColumns'. -/
def topFaceColumnsUptoCard : Claim7 := { stood := { row := topFaceColumnsUptoRow, standIns := [], harness := (true, "425da32430d23edb8a8f1749f8699d62f5cd739eda889269af4397e1671b357e"), looks := false }, kinds := [], alts := [], laidByText := true, laidKinds := [.data, .pinned], laidTests := true, laidLooks := .later }
def TopFaceColumnsUptoCardSaid : Prop := Claim7.holds Tryd.pinned (.plain (OpenSpec.upto topFaceColumnsSpec)) topFaceColumnsUptoCard
end Rows
end Go.Proofs.YtmkhlgdgndnkbaaDoor
