/-
  DERIVED. GIVEN WITH THE SEED: THE CARDS: each row of YtoagamanbofngaaGreatDoorRows.lean that lists a variable, with what it lists TIED to the program's text (the seventh form; the later family's looks); each row that meets fmt, with fmt's text TOLD by the authors' own Lean function (tested against real Go, not proved from fmt's source: count such statements apart). THE CARD IS WHAT COUNTS. Prove the row's statement (the work); the ties are given (YtoagamanbofngaaGreatDoorTie.lean); close each card by the builder's one call (the guide's Derived/Test/ToyasCard.lean, 'card_holds'). Laid BY PROGRAM, IN A SANDBOX (cutbox-door.mjs). By AI agents, Wed Nov 11 2026. No macro, syntax, notation, axiom, sorry.
-/
import Derived.Test.YtoagamanbofngaaGreatDoorRows
import GoSem.ClaimSeven
namespace Go.Proofs.YtoagamanbofngaaGreatDoor
namespace Rows

/-- THE TIED CARD OF 'laws.FnExecFor'. -/
def fnExecForCard : Claim7 := { stood := { row := fnExecForRow, standIns := [], harness := (true, "d530ae84cca149e5105c10f4ca5f23759dd1f4d06475e34860cb8c96d49b7e80"), looks := false }, kinds := [], alts := [], laidByText := true, laidKinds := [.widerDeep], laidTests := true, laidLooks := .later }
def FnExecForCardSaid : Prop := Claim7.holds Tryz.pinned (.plain (OpenSpec.ofChange fnExecForSpec)) fnExecForCard

/-- THE TIED CARD OF 'laws.FnExplainLines'. -/
def fnExplainLinesCard : Claim7 := { stood := { row := fnExplainLinesRow, standIns := [], harness := (true, "d530ae84cca149e5105c10f4ca5f23759dd1f4d06475e34860cb8c96d49b7e80"), looks := false }, kinds := [], alts := [], laidByText := true, laidKinds := [.data, .data, .data, .widerDeep], laidTests := true, laidLooks := .later }
def FnExplainLinesCardSaid : Prop := Claim7.holds Tryz.pinned (.plain (OpenSpec.ofChange fnExplainLinesSpec)) fnExplainLinesCard

/-- THE TIED CARD OF 'laws.FnExplainOutcome'. -/
def fnExplainOutcomeCard : Claim7 := { stood := { row := fnExplainOutcomeRow, standIns := [], harness := (true, "d530ae84cca149e5105c10f4ca5f23759dd1f4d06475e34860cb8c96d49b7e80"), looks := false }, kinds := [], alts := [], laidByText := true, laidKinds := [.data, .data, .data, .widerDeep], laidTests := true, laidLooks := .later }
def FnExplainOutcomeCardSaid : Prop := Claim7.holds Tryz.pinned (.plain (OpenSpec.ofChange fnExplainOutcomeSpec)) fnExplainOutcomeCard

/-- THE SECOND FORM's CARD OF 'laws.FnExecFor'. -/
def fnExecForUptoCard : Claim7 := { stood := { row := fnExecForUptoRow, standIns := [], harness := (true, "d530ae84cca149e5105c10f4ca5f23759dd1f4d06475e34860cb8c96d49b7e80"), looks := false }, kinds := [], alts := [], laidByText := true, laidKinds := [.widerDeep], laidTests := true, laidLooks := .later }
def FnExecForUptoCardSaid : Prop := Claim7.holds Tryz.pinned (.plain (OpenSpec.upto fnExecForSpec)) fnExecForUptoCard

/-- THE SECOND FORM's CARD OF 'laws.FnExplainLines'. -/
def fnExplainLinesUptoCard : Claim7 := { stood := { row := fnExplainLinesUptoRow, standIns := [], harness := (true, "d530ae84cca149e5105c10f4ca5f23759dd1f4d06475e34860cb8c96d49b7e80"), looks := false }, kinds := [], alts := [], laidByText := true, laidKinds := [.data, .data, .data, .widerDeep], laidTests := true, laidLooks := .later }
def FnExplainLinesUptoCardSaid : Prop := Claim7.holds Tryz.pinned (.plain (OpenSpec.upto fnExplainLinesSpec)) fnExplainLinesUptoCard

/-- THE SECOND FORM's CARD OF 'laws.FnExplainOutcome'. -/
def fnExplainOutcomeUptoCard : Claim7 := { stood := { row := fnExplainOutcomeUptoRow, standIns := [], harness := (true, "d530ae84cca149e5105c10f4ca5f23759dd1f4d06475e34860cb8c96d49b7e80"), looks := false }, kinds := [], alts := [], laidByText := true, laidKinds := [.data, .data, .data, .widerDeep], laidTests := true, laidLooks := .later }
def FnExplainOutcomeUptoCardSaid : Prop := Claim7.holds Tryz.pinned (.plain (OpenSpec.upto fnExplainOutcomeSpec)) fnExplainOutcomeUptoCard
end Rows
end Go.Proofs.YtoagamanbofngaaGreatDoor
