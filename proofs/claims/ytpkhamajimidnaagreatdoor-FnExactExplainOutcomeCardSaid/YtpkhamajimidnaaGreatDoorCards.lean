/-
  DERIVED. GIVEN WITH THE SEED: THE CARDS: each row of YtpkhamajimidnaaGreatDoorRows.lean that lists a variable, with what it lists TIED to the program's text (the seventh form; the later family's looks); each row that meets fmt, with fmt's text TOLD by the authors' own Lean function (tested against real Go, not proved from fmt's source: count such statements apart). THE CARD IS WHAT COUNTS. Prove the row's statement (the work); the ties are given (YtpkhamajimidnaaGreatDoorTie.lean); close each card by the builder's one call (the guide's Derived/Test/ToyasCard.lean, 'card_holds'). Laid BY PROGRAM, IN A SANDBOX (cutbox-door.mjs). By AI agents, Wed Nov 11 2026. No macro, syntax, notation, axiom, sorry.
-/
import Derived.Test.YtpkhamajimidnaaGreatDoorRows
import GoSem.ClaimSeven
namespace Go.Proofs.YtpkhamajimidnaaGreatDoor
namespace Rows

/-- THE TIED CARD OF 'laws.FnExactExplainExec'. -/
def fnExactExplainExecCard : Claim7 := { stood := { row := fnExactExplainExecRow, standIns := [], harness := (true, "a098362b0cb615e9718718d7f457f50216d6d403cbd23a8e3fe4497cd25c0a37"), looks := false }, kinds := [], alts := [], laidByText := true, laidKinds := [.data, .data, .data, .widerDeep], laidTests := true, laidLooks := .later }
def FnExactExplainExecCardSaid : Prop := Claim7.holds Tryz.pinned (.plain (OpenSpec.ofChange fnExactExplainExecSpec)) fnExactExplainExecCard

/-- THE TIED CARD OF 'laws.FnExactExplainOutcome'. -/
def fnExactExplainOutcomeCard : Claim7 := { stood := { row := fnExactExplainOutcomeRow, standIns := [], harness := (true, "a098362b0cb615e9718718d7f457f50216d6d403cbd23a8e3fe4497cd25c0a37"), looks := false }, kinds := [], alts := [], laidByText := true, laidKinds := [.data, .data, .data, .widerDeep], laidTests := true, laidLooks := .later }
def FnExactExplainOutcomeCardSaid : Prop := Claim7.holds Tryz.pinned (.plain (OpenSpec.ofChange fnExactExplainOutcomeSpec)) fnExactExplainOutcomeCard

/-- THE SECOND FORM's CARD OF 'laws.FnExactExplainExec'. -/
def fnExactExplainExecUptoCard : Claim7 := { stood := { row := fnExactExplainExecUptoRow, standIns := [], harness := (true, "a098362b0cb615e9718718d7f457f50216d6d403cbd23a8e3fe4497cd25c0a37"), looks := false }, kinds := [], alts := [], laidByText := true, laidKinds := [.data, .data, .data, .widerDeep], laidTests := true, laidLooks := .later }
def FnExactExplainExecUptoCardSaid : Prop := Claim7.holds Tryz.pinned (.plain (OpenSpec.upto fnExactExplainExecSpec)) fnExactExplainExecUptoCard

/-- THE SECOND FORM's CARD OF 'laws.FnExactExplainOutcome'. -/
def fnExactExplainOutcomeUptoCard : Claim7 := { stood := { row := fnExactExplainOutcomeUptoRow, standIns := [], harness := (true, "a098362b0cb615e9718718d7f457f50216d6d403cbd23a8e3fe4497cd25c0a37"), looks := false }, kinds := [], alts := [], laidByText := true, laidKinds := [.data, .data, .data, .widerDeep], laidTests := true, laidLooks := .later }
def FnExactExplainOutcomeUptoCardSaid : Prop := Claim7.holds Tryz.pinned (.plain (OpenSpec.upto fnExactExplainOutcomeSpec)) fnExactExplainOutcomeUptoCard
end Rows
end Go.Proofs.YtpkhamajimidnaaGreatDoor
