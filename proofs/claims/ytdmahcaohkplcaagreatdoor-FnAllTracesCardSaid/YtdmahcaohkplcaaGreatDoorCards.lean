/-
  DERIVED. GIVEN WITH THE SEED: THE CARDS: each row of YtdmahcaohkplcaaGreatDoorRows.lean that lists a variable, with what it lists TIED to the program's text (the seventh form; the later family's looks); each row that meets fmt, with fmt's text TOLD by the authors' own Lean function (tested against real Go, not proved from fmt's source: count such statements apart). THE CARD IS WHAT COUNTS. Prove the row's statement (the work); the ties are given (YtdmahcaohkplcaaGreatDoorTie.lean); close each card by the builder's one call (the guide's Derived/Test/ToyasCard.lean, 'card_holds'). Laid BY PROGRAM, IN A SANDBOX (cutbox-door.mjs). By AI agents, Wed Nov 11 2026. No macro, syntax, notation, axiom, sorry.
-/
import Derived.Test.YtdmahcaohkplcaaGreatDoorRows
import GoSem.ClaimSeven
namespace Go.Proofs.YtdmahcaohkplcaaGreatDoor
namespace Rows

/-- THE TIED CARD OF 'laws.FnAllTraces'. -/
def fnAllTracesCard : Claim7 := { stood := { row := fnAllTracesRow, standIns := [], harness := (true, "a7b439a9f03beeca535f084c3c17ea830c32e796fe6ccd16a21a755a22bc7b0e"), looks := false }, kinds := [], alts := [], laidByText := true, laidKinds := [.data, .widerDeep, .widerDeep, .pinned], laidTests := true, laidLooks := .later }
def FnAllTracesCardSaid : Prop := Claim7.holds Tryz.pinned (.plain (OpenSpec.ofChange fnAllTracesSpec)) fnAllTracesCard

/-- THE SECOND FORM's CARD OF 'laws.FnAllTraces'. -/
def fnAllTracesUptoCard : Claim7 := { stood := { row := fnAllTracesUptoRow, standIns := [], harness := (true, "a7b439a9f03beeca535f084c3c17ea830c32e796fe6ccd16a21a755a22bc7b0e"), looks := false }, kinds := [], alts := [], laidByText := true, laidKinds := [.data, .widerDeep, .widerDeep, .pinned], laidTests := true, laidLooks := .later }
def FnAllTracesUptoCardSaid : Prop := Claim7.holds Tryz.pinned (.plain (OpenSpec.upto fnAllTracesSpec)) fnAllTracesUptoCard
end Rows
end Go.Proofs.YtdmahcaohkplcaaGreatDoor
