/-
  DERIVED. GIVEN WITH THE SEED: THE CARDS: each row of YtcmimhffgmckjaaGreatDoorRows.lean that lists a variable, with what it lists TIED to the program's text (the seventh form; the later family's looks); each row that meets fmt, with fmt's text TOLD by the authors' own Lean function (tested against real Go, not proved from fmt's source: count such statements apart). THE CARD IS WHAT COUNTS. Prove the row's statement (the work); the ties are given (YtcmimhffgmckjaaGreatDoorTie.lean); close each card by the builder's one call (the guide's Derived/Test/ToyasCard.lean, 'card_holds'). Laid BY PROGRAM, IN A SANDBOX (cutbox-door.mjs). By AI agents, Wed Nov 11 2026. No macro, syntax, notation, axiom, sorry.
-/
import Derived.Test.YtcmimhffgmckjaaGreatDoorRows
import GoSem.ClaimSeven
namespace Go.Proofs.YtcmimhffgmckjaaGreatDoor
namespace Rows

/-- THE TIED CARD OF 'laws.FnExecOf'. -/
def fnExecOfCard : Claim7 := { stood := { row := fnExecOfRow, standIns := [], harness := (true, "cb99536a718d677be125fa47655bbb725e4f174f77e1073cc546a61afc1a543c"), looks := false }, kinds := [], alts := [], laidByText := true, laidKinds := [.data, .widerDeep, .widerDeep, .pinned], laidTests := true, laidLooks := .later }
def FnExecOfCardSaid : Prop := Claim7.holds Tryz.pinned (.plain (OpenSpec.ofChange fnExecOfSpec)) fnExecOfCard

/-- THE TIED CARD OF 'laws.FnScheduleOf'. -/
def fnScheduleOfCard : Claim7 := { stood := { row := fnScheduleOfRow, standIns := [], harness := (true, "cb99536a718d677be125fa47655bbb725e4f174f77e1073cc546a61afc1a543c"), looks := false }, kinds := [], alts := [], laidByText := true, laidKinds := [.data, .widerDeep, .widerDeep, .pinned], laidTests := true, laidLooks := .later }
def FnScheduleOfCardSaid : Prop := Claim7.holds Tryz.pinned (.plain (OpenSpec.ofChange fnScheduleOfSpec)) fnScheduleOfCard

/-- THE TIED CARD OF 'laws.FnAllTraces'. -/
def fnAllTracesCard : Claim7 := { stood := { row := fnAllTracesRow, standIns := [], harness := (true, "cb99536a718d677be125fa47655bbb725e4f174f77e1073cc546a61afc1a543c"), looks := false }, kinds := [], alts := [], laidByText := true, laidKinds := [.data, .widerDeep, .widerDeep, .pinned], laidTests := true, laidLooks := .later }
def FnAllTracesCardSaid : Prop := Claim7.holds Tryz.pinned (.plain (OpenSpec.ofChange fnAllTracesSpec)) fnAllTracesCard

/-- THE TIED CARD OF 'laws.FnExplainSeq'. -/
def fnExplainSeqCard : Claim7 := { stood := { row := fnExplainSeqRow, standIns := [], harness := (true, "cb99536a718d677be125fa47655bbb725e4f174f77e1073cc546a61afc1a543c"), looks := false }, kinds := [], alts := [], laidByText := true, laidKinds := [.data, .data, .data, .data, .widerDeep, .widerDeep, .pinned], laidTests := true, laidLooks := .later }
def FnExplainSeqCardSaid : Prop := Claim7.holds Tryz.pinned (.plain (OpenSpec.ofChange fnExplainSeqSpec)) fnExplainSeqCard

/-- THE TIED CARD OF 'laws.FnTurnModels'. -/
def fnTurnModelsCard : Claim7 := { stood := { row := fnTurnModelsRow, standIns := [], harness := (true, "cb99536a718d677be125fa47655bbb725e4f174f77e1073cc546a61afc1a543c"), looks := false }, kinds := [], alts := [], laidByText := true, laidKinds := [.data, .widerDeep, .widerDeep, .pinned], laidTests := true, laidLooks := .later }
def FnTurnModelsCardSaid : Prop := Claim7.holds Tryz.pinned (.plain (OpenSpec.ofChange fnTurnModelsSpec)) fnTurnModelsCard

/-- THE SECOND FORM's CARD OF 'laws.FnExecOf'. -/
def fnExecOfUptoCard : Claim7 := { stood := { row := fnExecOfUptoRow, standIns := [], harness := (true, "cb99536a718d677be125fa47655bbb725e4f174f77e1073cc546a61afc1a543c"), looks := false }, kinds := [], alts := [], laidByText := true, laidKinds := [.data, .widerDeep, .widerDeep, .pinned], laidTests := true, laidLooks := .later }
def FnExecOfUptoCardSaid : Prop := Claim7.holds Tryz.pinned (.plain (OpenSpec.upto fnExecOfSpec)) fnExecOfUptoCard

/-- THE SECOND FORM's CARD OF 'laws.FnScheduleOf'. -/
def fnScheduleOfUptoCard : Claim7 := { stood := { row := fnScheduleOfUptoRow, standIns := [], harness := (true, "cb99536a718d677be125fa47655bbb725e4f174f77e1073cc546a61afc1a543c"), looks := false }, kinds := [], alts := [], laidByText := true, laidKinds := [.data, .widerDeep, .widerDeep, .pinned], laidTests := true, laidLooks := .later }
def FnScheduleOfUptoCardSaid : Prop := Claim7.holds Tryz.pinned (.plain (OpenSpec.upto fnScheduleOfSpec)) fnScheduleOfUptoCard

/-- THE SECOND FORM's CARD OF 'laws.FnAllTraces'. -/
def fnAllTracesUptoCard : Claim7 := { stood := { row := fnAllTracesUptoRow, standIns := [], harness := (true, "cb99536a718d677be125fa47655bbb725e4f174f77e1073cc546a61afc1a543c"), looks := false }, kinds := [], alts := [], laidByText := true, laidKinds := [.data, .widerDeep, .widerDeep, .pinned], laidTests := true, laidLooks := .later }
def FnAllTracesUptoCardSaid : Prop := Claim7.holds Tryz.pinned (.plain (OpenSpec.upto fnAllTracesSpec)) fnAllTracesUptoCard

/-- THE SECOND FORM's CARD OF 'laws.FnExplainSeq'. -/
def fnExplainSeqUptoCard : Claim7 := { stood := { row := fnExplainSeqUptoRow, standIns := [], harness := (true, "cb99536a718d677be125fa47655bbb725e4f174f77e1073cc546a61afc1a543c"), looks := false }, kinds := [], alts := [], laidByText := true, laidKinds := [.data, .data, .data, .data, .widerDeep, .widerDeep, .pinned], laidTests := true, laidLooks := .later }
def FnExplainSeqUptoCardSaid : Prop := Claim7.holds Tryz.pinned (.plain (OpenSpec.upto fnExplainSeqSpec)) fnExplainSeqUptoCard

/-- THE SECOND FORM's CARD OF 'laws.FnTurnModels'. -/
def fnTurnModelsUptoCard : Claim7 := { stood := { row := fnTurnModelsUptoRow, standIns := [], harness := (true, "cb99536a718d677be125fa47655bbb725e4f174f77e1073cc546a61afc1a543c"), looks := false }, kinds := [], alts := [], laidByText := true, laidKinds := [.data, .widerDeep, .widerDeep, .pinned], laidTests := true, laidLooks := .later }
def FnTurnModelsUptoCardSaid : Prop := Claim7.holds Tryz.pinned (.plain (OpenSpec.upto fnTurnModelsSpec)) fnTurnModelsUptoCard
end Rows
end Go.Proofs.YtcmimhffgmckjaaGreatDoor
