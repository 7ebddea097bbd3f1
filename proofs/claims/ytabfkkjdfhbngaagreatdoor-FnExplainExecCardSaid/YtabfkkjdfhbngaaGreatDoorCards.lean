/-
  DERIVED. GIVEN WITH THE SEED: THE CARDS: each row of YtabfkkjdfhbngaaGreatDoorRows.lean that lists a variable, with what it lists TIED to the program's text (the seventh form; the later family's looks); each row that meets fmt, with fmt's text TOLD by the authors' own Lean function (tested against real Go, not proved from fmt's source: count such statements apart). THE CARD IS WHAT COUNTS. Prove the row's statement (the work); the ties are given (YtabfkkjdfhbngaaGreatDoorTie.lean); close each card by the builder's one call (the guide's Derived/Test/ToyasCard.lean, 'card_holds'). Laid BY PROGRAM, IN A SANDBOX (cutbox-door.mjs). By AI agents, Wed Nov 11 2026. No macro, syntax, notation, axiom, sorry.
-/
import Derived.Test.YtabfkkjdfhbngaaGreatDoorRows
import GoSem.ClaimSeven
namespace Go.Proofs.YtabfkkjdfhbngaaGreatDoor
namespace Rows

/-- THE TIED CARD OF 'laws.FnScheduleOf'. -/
def fnScheduleOfCard : Claim7 := { stood := { row := fnScheduleOfRow, standIns := [], harness := (true, "bcb36970bf49a4f5295d504a5f41662216fc143e647a958c944cd81ee6126f2e"), looks := false }, kinds := [], alts := [], laidByText := true, laidKinds := [.data, .widerDeep, .widerDeep, .pinned], laidTests := true, laidLooks := .later }
def FnScheduleOfCardSaid : Prop := Claim7.holds Tryz.pinned (.plain (OpenSpec.ofChange fnScheduleOfSpec)) fnScheduleOfCard

/-- THE TIED CARD OF 'laws.FnExplainExec'. -/
def fnExplainExecCard : Claim7 := { stood := { row := fnExplainExecRow, standIns := [], harness := (true, "bcb36970bf49a4f5295d504a5f41662216fc143e647a958c944cd81ee6126f2e"), looks := false }, kinds := [], alts := [], laidByText := true, laidKinds := [.data, .data, .data, .widerDeep], laidTests := true, laidLooks := .later }
def FnExplainExecCardSaid : Prop := Claim7.holds Tryz.pinned (.plain (OpenSpec.ofChange fnExplainExecSpec)) fnExplainExecCard

/-- THE TIED CARD OF 'laws.FnTurnModels'. -/
def fnTurnModelsCard : Claim7 := { stood := { row := fnTurnModelsRow, standIns := [], harness := (true, "bcb36970bf49a4f5295d504a5f41662216fc143e647a958c944cd81ee6126f2e"), looks := false }, kinds := [], alts := [], laidByText := true, laidKinds := [.data, .widerDeep, .widerDeep, .pinned], laidTests := true, laidLooks := .later }
def FnTurnModelsCardSaid : Prop := Claim7.holds Tryz.pinned (.plain (OpenSpec.ofChange fnTurnModelsSpec)) fnTurnModelsCard

/-- THE SECOND FORM's CARD OF 'laws.FnScheduleOf'. -/
def fnScheduleOfUptoCard : Claim7 := { stood := { row := fnScheduleOfUptoRow, standIns := [], harness := (true, "bcb36970bf49a4f5295d504a5f41662216fc143e647a958c944cd81ee6126f2e"), looks := false }, kinds := [], alts := [], laidByText := true, laidKinds := [.data, .widerDeep, .widerDeep, .pinned], laidTests := true, laidLooks := .later }
def FnScheduleOfUptoCardSaid : Prop := Claim7.holds Tryz.pinned (.plain (OpenSpec.upto fnScheduleOfSpec)) fnScheduleOfUptoCard

/-- THE SECOND FORM's CARD OF 'laws.FnExplainExec'. -/
def fnExplainExecUptoCard : Claim7 := { stood := { row := fnExplainExecUptoRow, standIns := [], harness := (true, "bcb36970bf49a4f5295d504a5f41662216fc143e647a958c944cd81ee6126f2e"), looks := false }, kinds := [], alts := [], laidByText := true, laidKinds := [.data, .data, .data, .widerDeep], laidTests := true, laidLooks := .later }
def FnExplainExecUptoCardSaid : Prop := Claim7.holds Tryz.pinned (.plain (OpenSpec.upto fnExplainExecSpec)) fnExplainExecUptoCard

/-- THE SECOND FORM's CARD OF 'laws.FnTurnModels'. -/
def fnTurnModelsUptoCard : Claim7 := { stood := { row := fnTurnModelsUptoRow, standIns := [], harness := (true, "bcb36970bf49a4f5295d504a5f41662216fc143e647a958c944cd81ee6126f2e"), looks := false }, kinds := [], alts := [], laidByText := true, laidKinds := [.data, .widerDeep, .widerDeep, .pinned], laidTests := true, laidLooks := .later }
def FnTurnModelsUptoCardSaid : Prop := Claim7.holds Tryz.pinned (.plain (OpenSpec.upto fnTurnModelsSpec)) fnTurnModelsUptoCard
end Rows
end Go.Proofs.YtabfkkjdfhbngaaGreatDoor
