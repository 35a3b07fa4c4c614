/-
  DERIVED. GIVEN WITH THE SEED: THE CARDS: each row of YtmahdomlmidfdaaDoorRows.lean that lists a variable, with what it lists TIED to the program's text (the seventh form; the later family's looks); each row that meets fmt, with fmt's text TOLD by the authors' own Lean function (tested against real Go, not proved from fmt's source: count such statements apart). THE CARD IS WHAT COUNTS. Prove the row's statement (the work); the ties are given (YtmahdomlmidfdaaDoorTie.lean); close each card by the builder's one call (the guide's Derived/Test/ToyasCard.lean, 'card_holds'). Laid BY PROGRAM, IN A SANDBOX (cutbox-door.mjs). By AI agents, Wed Nov 11 2026. No macro, syntax, notation, axiom, sorry.
-/
import Derived.Test.YtmahdomlmidfdaaDoorRows
import GoSem.ClaimSeven
namespace Go.Proofs.YtmahdomlmidfdaaDoor
namespace Rows

/-- THE TIED CARD OF 'worldmintlaw31.TaxSlope'. -/
def taxSlopeCard : Claim7 := { stood := { row := taxSlopeRow, standIns := [], harness := (true, "742b9f67a95afe865bd5cbd51c11432827b16e014f1bd6682959f6f4a168348f"), looks := true }, kinds := [], alts := [], laidByText := true, laidKinds := [.data, .data, .data, .data, .sentinel, .sentinel, .pinned], laidTests := true, laidLooks := .later }
def TaxSlopeCardSaid : Prop := Claim7.holds Tryd.pinned (.plain (OpenSpec.ofChange taxSlopeSpec)) taxSlopeCard

/-- THE SECOND FORM's CARD OF 'worldmintlaw31.TaxSlope'. -/
def taxSlopeUptoCard : Claim7 := { stood := { row := taxSlopeUptoRow, standIns := [], harness := (true, "742b9f67a95afe865bd5cbd51c11432827b16e014f1bd6682959f6f4a168348f"), looks := true }, kinds := [], alts := [], laidByText := true, laidKinds := [.data, .data, .data, .data, .sentinel, .sentinel, .pinned], laidTests := true, laidLooks := .later }
def TaxSlopeUptoCardSaid : Prop := Claim7.holds Tryd.pinned (.plain (OpenSpec.upto taxSlopeSpec)) taxSlopeUptoCard
end Rows
end Go.Proofs.YtmahdomlmidfdaaDoor
