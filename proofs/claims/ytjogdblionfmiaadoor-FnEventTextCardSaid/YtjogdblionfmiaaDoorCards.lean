/-
  DERIVED. GIVEN WITH THE SEED: THE CARDS: each row of YtjogdblionfmiaaDoorRows.lean that lists a variable, with what it lists TIED to the program's text (the seventh form; the later family's looks); each row that meets fmt, with fmt's text TOLD by the authors' own Lean function (tested against real Go, not proved from fmt's source: count such statements apart). THE CARD IS WHAT COUNTS. Prove the row's statement (the work); the ties are given (YtjogdblionfmiaaDoorTie.lean); close each card by the builder's one call (the guide's Derived/Test/ToyasCard.lean, 'card_holds'). Laid BY PROGRAM, IN A SANDBOX (cutbox-door.mjs). By AI agents, Wed Nov 11 2026. No macro, syntax, notation, axiom, sorry.
-/
import Derived.Test.YtjogdblionfmiaaDoorRows
import GoSem.ClaimSeven
namespace Go.Proofs.YtjogdblionfmiaaDoor
namespace Rows

/-- THE TIED CARD OF 'laws.FnExactEventText'. -/
def fnExactEventTextCard : Claim7 := { stood := { row := fnExactEventTextRow, standIns := [], harness := (true, "6f815b3066973f4e404c039c5fb5ceacafb37c5b0377cd5a34fa603d3f5e766c"), looks := false }, kinds := [], alts := [], laidByText := true, laidKinds := [.data, .data, .data], laidTests := true, laidLooks := .later }
def FnExactEventTextCardSaid : Prop := Claim7.holds Tryd.pinned (.plain (OpenSpec.ofChange fnExactEventTextSpec)) fnExactEventTextCard

/-- THE TIED CARD OF 'laws.FnEventText'. -/
def fnEventTextCard : Claim7 := { stood := { row := fnEventTextRow, standIns := [], harness := (true, "6f815b3066973f4e404c039c5fb5ceacafb37c5b0377cd5a34fa603d3f5e766c"), looks := false }, kinds := [], alts := [], laidByText := true, laidKinds := [.data, .data, .data], laidTests := true, laidLooks := .later }
def FnEventTextCardSaid : Prop := Claim7.holds Tryd.pinned (.plain (OpenSpec.ofChange fnEventTextSpec)) fnEventTextCard

/-- THE TIED CARD OF 'laws.FnEventThread'. -/
def fnEventThreadCard : Claim7 := { stood := { row := fnEventThreadRow, standIns := [], harness := (true, "6f815b3066973f4e404c039c5fb5ceacafb37c5b0377cd5a34fa603d3f5e766c"), looks := false }, kinds := [], alts := [], laidByText := true, laidKinds := [.data, .data, .data], laidTests := true, laidLooks := .later }
def FnEventThreadCardSaid : Prop := Claim7.holds Tryd.pinned (.plain (OpenSpec.ofChange fnEventThreadSpec)) fnEventThreadCard

/-- THE SECOND FORM's CARD OF 'laws.FnExactEventText'. -/
def fnExactEventTextUptoCard : Claim7 := { stood := { row := fnExactEventTextUptoRow, standIns := [], harness := (true, "6f815b3066973f4e404c039c5fb5ceacafb37c5b0377cd5a34fa603d3f5e766c"), looks := false }, kinds := [], alts := [], laidByText := true, laidKinds := [.data, .data, .data], laidTests := true, laidLooks := .later }
def FnExactEventTextUptoCardSaid : Prop := Claim7.holds Tryd.pinned (.plain (OpenSpec.upto fnExactEventTextSpec)) fnExactEventTextUptoCard

/-- THE SECOND FORM's CARD OF 'laws.FnEventText'. -/
def fnEventTextUptoCard : Claim7 := { stood := { row := fnEventTextUptoRow, standIns := [], harness := (true, "6f815b3066973f4e404c039c5fb5ceacafb37c5b0377cd5a34fa603d3f5e766c"), looks := false }, kinds := [], alts := [], laidByText := true, laidKinds := [.data, .data, .data], laidTests := true, laidLooks := .later }
def FnEventTextUptoCardSaid : Prop := Claim7.holds Tryd.pinned (.plain (OpenSpec.upto fnEventTextSpec)) fnEventTextUptoCard

/-- THE SECOND FORM's CARD OF 'laws.FnEventThread'. -/
def fnEventThreadUptoCard : Claim7 := { stood := { row := fnEventThreadUptoRow, standIns := [], harness := (true, "6f815b3066973f4e404c039c5fb5ceacafb37c5b0377cd5a34fa603d3f5e766c"), looks := false }, kinds := [], alts := [], laidByText := true, laidKinds := [.data, .data, .data], laidTests := true, laidLooks := .later }
def FnEventThreadUptoCardSaid : Prop := Claim7.holds Tryd.pinned (.plain (OpenSpec.upto fnEventThreadSpec)) fnEventThreadUptoCard
end Rows
end Go.Proofs.YtjogdblionfmiaaDoor
