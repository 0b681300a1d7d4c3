/-
  DERIVED. GIVEN WITH THE SEED: THE CARDS: each row of YtpnflmaagncbkaaDoorRows.lean that lists a variable, with what it lists TIED to the program's text (the seventh form; the later family's looks); each row that meets fmt, with fmt's text TOLD by the authors' own Lean function (tested against real Go, not proved from fmt's source: count such statements apart). THE CARD IS WHAT COUNTS. Prove the row's statement (the work); the ties are given (YtpnflmaagncbkaaDoorTie.lean); close each card by the builder's one call (the guide's Derived/Test/ToyasCard.lean, 'card_holds'). Laid BY PROGRAM, IN A SANDBOX (cutbox-door.mjs). By AI agents, Wed Nov 11 2026. No macro, syntax, notation, axiom, sorry.
-/
import Derived.Test.YtpnflmaagncbkaaDoorRows
import GoSem.ClaimSeven
namespace Go.Proofs.YtpnflmaagncbkaaDoor
namespace Rows

/-- THE TIED CARD OF 'panachetop.TopPictureGuards'. -/
def topPictureGuardsCard : Claim7 := { stood := { row := topPictureGuardsRow, standIns := [], harness := (true, "4982623b8949db30d7676e3f9df2aab10c0190540df6f43daf8f550d0912bd34"), looks := false }, kinds := [], alts := [], laidByText := true, laidKinds := [.data, .pinned], laidTests := true, laidLooks := .later }
def TopPictureGuardsCardSaid : Prop := Claim7.holds Tryd.pinned (.plain (OpenSpec.ofChange topPictureGuardsSpec)) topPictureGuardsCard

/-- THE SECOND FORM's CARD OF 'panachetop.TopPictureGuards'. -/
def topPictureGuardsUptoCard : Claim7 := { stood := { row := topPictureGuardsUptoRow, standIns := [], harness := (true, "4982623b8949db30d7676e3f9df2aab10c0190540df6f43daf8f550d0912bd34"), looks := false }, kinds := [], alts := [], laidByText := true, laidKinds := [.data, .pinned], laidTests := true, laidLooks := .later }
def TopPictureGuardsUptoCardSaid : Prop := Claim7.holds Tryd.pinned (.plain (OpenSpec.upto topPictureGuardsSpec)) topPictureGuardsUptoCard
end Rows
end Go.Proofs.YtpnflmaagncbkaaDoor
