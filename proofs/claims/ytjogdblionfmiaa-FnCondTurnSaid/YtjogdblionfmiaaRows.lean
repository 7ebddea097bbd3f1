/-
  No cell of these rows narrows 'for every input' (looked for: loops, veiled, ifaces, maps, wideKeys, modest, calm, conditions, laid).
  DERIVED. THE GIVEN ROWS OF THIS SEAT. 8 by the template 'for every input the law returns true; each argument reads behind the call as it read before'; 0 by the template 'total and deterministic' (their statements: YtjogdblionfmiaaTotals.lean).
  GIVEN WITH THE SEED: the statements are not yours to turn. If you find one false, say at which input.
  Laid BY PROGRAM, IN A SANDBOX (cutbox-rows.mjs): the forced cells as the released guide's own fill.sh prints them over the translation ce3cd4210b70b3bb… (all of the seat's roots in one cut). By AI agents, Wed Nov 11 2026. No macro, syntax, notation, axiom, sorry.
-/
import Derived.Test.YtjogdblionfmiaaChecked
import GoSem.Claim
import GoSem.ClaimJoined
import GoSem.ClaimMapViews
import Derived.JoinedTies
import Derived.KernelRfl
namespace Go.Proofs.Ytjogdblionfmiaa
/- THE CELL 'sum', in the pinned program and in every row, IS THE sha256 OF THE DUMP (.gsa) THAT YtjogdblionfmiaaProg.lean LOADS. Nothing in Lean hashes anything: it is a label: what it is worth is what the hold of that sum in a sandbox is worth. -/
noncomputable def Try.pinned : Pinned := { name := "ytjogdblionfmiaa", sum := "ce3cd4210b70b3bbf4ed0949db0a0fb0bcafb5eee8c468fca9da4b854f0d364f", checked := Try.checked }
namespace Rows
def none {H : Type} : Left H := { results := [], args := [] }

/-- 'laws.FnNumberOfTest': WHATEVER THE INPUT: true; the input reads as it did. -/
def fnNumberOfTestSpec : ChangeSpec := { name := "fnNumberOfTest", fn := fun _ => fun
  | [d] => { results := [.lit (.bool true)], args := [d] }
  | _ => none }
def fnNumberOfTestRow : OpenClaim := { program := "ytjogdblionfmiaa", sum := "ce3cd4210b70b3bbf4ed0949db0a0fb0bcafb5eee8c468fca9da4b854f0d364f", func := "loop.example/weakmemory/laws.FnNumberOfTest", spec := "fnNumberOfTest", unfollowed := true, recurses := true, plainKeys := false, apart := false }
def FnNumberOfTestSaid : Prop := fnNumberOfTestRow.holds Try.pinned (OpenSpec.ofChange fnNumberOfTestSpec)

/-- ITS FALSE NEIGHBOUR: 'it returns false'. Refute it at one input. -/
def fnNumberOfTestWrong : ChangeSpec := { name := "fnNumberOfTest", fn := fun _ => fun
  | [d] => { results := [.lit (.bool false)], args := [d] }
  | _ => none }
def FnNumberOfTestWrongFalsely : Prop := fnNumberOfTestRow.holds Try.pinned (OpenSpec.ofChange fnNumberOfTestWrong)

/-- 'laws.FnReorderTwice': WHATEVER THE INPUT: true; the input reads as it did. -/
def fnReorderTwiceSpec : ChangeSpec := { name := "fnReorderTwice", fn := fun _ => fun
  | [d] => { results := [.lit (.bool true)], args := [d] }
  | _ => none }
def fnReorderTwiceRow : OpenClaim := { program := "ytjogdblionfmiaa", sum := "ce3cd4210b70b3bbf4ed0949db0a0fb0bcafb5eee8c468fca9da4b854f0d364f", func := "loop.example/weakmemory/laws.FnReorderTwice", spec := "fnReorderTwice", unfollowed := true, recurses := true, plainKeys := false, apart := false }
def FnReorderTwiceSaid : Prop := fnReorderTwiceRow.holds Try.pinned (OpenSpec.ofChange fnReorderTwiceSpec)

/-- ITS FALSE NEIGHBOUR: 'it returns false'. Refute it at one input. -/
def fnReorderTwiceWrong : ChangeSpec := { name := "fnReorderTwice", fn := fun _ => fun
  | [d] => { results := [.lit (.bool false)], args := [d] }
  | _ => none }
def FnReorderTwiceWrongFalsely : Prop := fnReorderTwiceRow.holds Try.pinned (OpenSpec.ofChange fnReorderTwiceWrong)

/-- 'laws.FnTurnLocsTwice': WHATEVER THE INPUT: true; the input reads as it did. -/
def fnTurnLocsTwiceSpec : ChangeSpec := { name := "fnTurnLocsTwice", fn := fun _ => fun
  | [d] => { results := [.lit (.bool true)], args := [d] }
  | _ => none }
def fnTurnLocsTwiceRow : OpenClaim := { program := "ytjogdblionfmiaa", sum := "ce3cd4210b70b3bbf4ed0949db0a0fb0bcafb5eee8c468fca9da4b854f0d364f", func := "loop.example/weakmemory/laws.FnTurnLocsTwice", spec := "fnTurnLocsTwice", unfollowed := true, recurses := true, plainKeys := false, apart := false }
def FnTurnLocsTwiceSaid : Prop := fnTurnLocsTwiceRow.holds Try.pinned (OpenSpec.ofChange fnTurnLocsTwiceSpec)

/-- ITS FALSE NEIGHBOUR: 'it returns false'. Refute it at one input. -/
def fnTurnLocsTwiceWrong : ChangeSpec := { name := "fnTurnLocsTwice", fn := fun _ => fun
  | [d] => { results := [.lit (.bool false)], args := [d] }
  | _ => none }
def FnTurnLocsTwiceWrongFalsely : Prop := fnTurnLocsTwiceRow.holds Try.pinned (OpenSpec.ofChange fnTurnLocsTwiceWrong)

/-- 'laws.FnTurnOutcome': WHATEVER THE INPUT: true; the input reads as it did. -/
def fnTurnOutcomeSpec : ChangeSpec := { name := "fnTurnOutcome", fn := fun _ => fun
  | [d] => { results := [.lit (.bool true)], args := [d] }
  | _ => none }
def fnTurnOutcomeRow : OpenClaim := { program := "ytjogdblionfmiaa", sum := "ce3cd4210b70b3bbf4ed0949db0a0fb0bcafb5eee8c468fca9da4b854f0d364f", func := "loop.example/weakmemory/laws.FnTurnOutcome", spec := "fnTurnOutcome", unfollowed := true, recurses := true, plainKeys := false, apart := false }
def FnTurnOutcomeSaid : Prop := fnTurnOutcomeRow.holds Try.pinned (OpenSpec.ofChange fnTurnOutcomeSpec)

/-- ITS FALSE NEIGHBOUR: 'it returns false'. Refute it at one input. -/
def fnTurnOutcomeWrong : ChangeSpec := { name := "fnTurnOutcome", fn := fun _ => fun
  | [d] => { results := [.lit (.bool false)], args := [d] }
  | _ => none }
def FnTurnOutcomeWrongFalsely : Prop := fnTurnOutcomeRow.holds Try.pinned (OpenSpec.ofChange fnTurnOutcomeWrong)

/-- 'laws.FnCondTurn': WHATEVER THE INPUT: true; the input reads as it did. -/
def fnCondTurnSpec : ChangeSpec := { name := "fnCondTurn", fn := fun _ => fun
  | [d] => { results := [.lit (.bool true)], args := [d] }
  | _ => none }
def fnCondTurnRow : OpenClaim := { program := "ytjogdblionfmiaa", sum := "ce3cd4210b70b3bbf4ed0949db0a0fb0bcafb5eee8c468fca9da4b854f0d364f", func := "loop.example/weakmemory/laws.FnCondTurn", spec := "fnCondTurn", unfollowed := true, recurses := true, plainKeys := false, apart := false }
def FnCondTurnSaid : Prop := fnCondTurnRow.holds Try.pinned (OpenSpec.ofChange fnCondTurnSpec)

/-- ITS FALSE NEIGHBOUR: 'it returns false'. Refute it at one input. -/
def fnCondTurnWrong : ChangeSpec := { name := "fnCondTurn", fn := fun _ => fun
  | [d] => { results := [.lit (.bool false)], args := [d] }
  | _ => none }
def FnCondTurnWrongFalsely : Prop := fnCondTurnRow.holds Try.pinned (OpenSpec.ofChange fnCondTurnWrong)

/-- 'laws.FnRaceThread': WHATEVER THE INPUT: true; the input reads as it did. -/
def fnRaceThreadSpec : ChangeSpec := { name := "fnRaceThread", fn := fun _ => fun
  | [d] => { results := [.lit (.bool true)], args := [d] }
  | _ => none }
def fnRaceThreadRow : OpenClaim := { program := "ytjogdblionfmiaa", sum := "ce3cd4210b70b3bbf4ed0949db0a0fb0bcafb5eee8c468fca9da4b854f0d364f", func := "loop.example/weakmemory/laws.FnRaceThread", spec := "fnRaceThread", unfollowed := true, recurses := true, plainKeys := false, apart := false }
def FnRaceThreadSaid : Prop := fnRaceThreadRow.holds Try.pinned (OpenSpec.ofChange fnRaceThreadSpec)

/-- ITS FALSE NEIGHBOUR: 'it returns false'. Refute it at one input. -/
def fnRaceThreadWrong : ChangeSpec := { name := "fnRaceThread", fn := fun _ => fun
  | [d] => { results := [.lit (.bool false)], args := [d] }
  | _ => none }
def FnRaceThreadWrongFalsely : Prop := fnRaceThreadRow.holds Try.pinned (OpenSpec.ofChange fnRaceThreadWrong)

/-- 'laws.FnExactExecsWith': WHATEVER THE INPUT: true; the input reads as it did. -/
def fnExactExecsWithSpec : ChangeSpec := { name := "fnExactExecsWith", fn := fun _ => fun
  | [d1, d2] => { results := [.lit (.bool true)], args := [d1, d2] }
  | _ => none }
def fnExactExecsWithRow : OpenClaim := { program := "ytjogdblionfmiaa", sum := "ce3cd4210b70b3bbf4ed0949db0a0fb0bcafb5eee8c468fca9da4b854f0d364f", func := "loop.example/weakmemory/laws.FnExactExecsWith", spec := "fnExactExecsWith", unfollowed := true, recurses := true, plainKeys := false, apart := false }
def FnExactExecsWithSaid : Prop := fnExactExecsWithRow.holds Try.pinned (OpenSpec.ofChange fnExactExecsWithSpec)

/-- ITS FALSE NEIGHBOUR: 'it returns false'. Refute it at one input. -/
def fnExactExecsWithWrong : ChangeSpec := { name := "fnExactExecsWith", fn := fun _ => fun
  | [d1, d2] => { results := [.lit (.bool false)], args := [d1, d2] }
  | _ => none }
def FnExactExecsWithWrongFalsely : Prop := fnExactExecsWithRow.holds Try.pinned (OpenSpec.ofChange fnExactExecsWithWrong)

/-- 'laws.FnExactScheduleOf': WHATEVER THE INPUT: true; the input reads as it did. -/
def fnExactScheduleOfSpec : ChangeSpec := { name := "fnExactScheduleOf", fn := fun _ => fun
  | [d1, d2] => { results := [.lit (.bool true)], args := [d1, d2] }
  | _ => none }
def fnExactScheduleOfRow : OpenClaim := { program := "ytjogdblionfmiaa", sum := "ce3cd4210b70b3bbf4ed0949db0a0fb0bcafb5eee8c468fca9da4b854f0d364f", func := "loop.example/weakmemory/laws.FnExactScheduleOf", spec := "fnExactScheduleOf", unfollowed := true, recurses := true, plainKeys := false, apart := false }
def FnExactScheduleOfSaid : Prop := fnExactScheduleOfRow.holds Try.pinned (OpenSpec.ofChange fnExactScheduleOfSpec)

/-- ITS FALSE NEIGHBOUR: 'it returns false'. Refute it at one input. -/
def fnExactScheduleOfWrong : ChangeSpec := { name := "fnExactScheduleOf", fn := fun _ => fun
  | [d1, d2] => { results := [.lit (.bool false)], args := [d1, d2] }
  | _ => none }
def FnExactScheduleOfWrongFalsely : Prop := fnExactScheduleOfRow.holds Try.pinned (OpenSpec.ofChange fnExactScheduleOfWrong)

/- THE SECOND FORM. 'bulk': how many values and letters a reading holds, each counted each time it is reached (what is shared counts as often as it is met; a slice's spare places count too). A statement '..UptoSaid' is the law's where the arguments, and the package variables that the reading takes, are together of bulk at most 1048576: NARROWER than '..Said'. Prove '..Said' where nothing that the law and all that it calls make is longer than what came in: it says more and counts as full. Else prove '..UptoSaid'. A law counts once. -/
mutual
def uptoBulk {H : Type} : DataW H → Nat
  | .lit (.string bytes) => bytes.length + 1
  | .lit _ => 1
  | .nil => 1
  | .ptr d => uptoBulk d + 1
  | .slice elems spare => uptoBulkAll elems + uptoBulkAll spare + 1
  | .agg parts => uptoBulkAll parts + 1
  | .iface _ d => uptoBulk d + 1
  | .map entries => uptoBulkEntries entries + 1
  | .held _ => 1
def uptoBulkAll {H : Type} : List (DataW H) → Nat
  | [] => 0
  | d :: r => uptoBulk d + uptoBulkAll r
def uptoBulkEntries {H : Type} : List (Lit × DataW H) → Nat
  | [] => 0
  | x :: r => uptoBulkEntry x + uptoBulkEntries r
def uptoBulkEntry {H : Type} : Lit × DataW H → Nat
  | (.string bytes, d) => bytes.length + uptoBulk d + 1
  | (_, d) => uptoBulk d + 1
 end
def uptoSmall : (H : Type) → List (DataW H) → Bool := fun _ ds => decide (uptoBulkAll ds ≤ 1048576)
def OpenSpec.upto (s : _root_.Go.ChangeSpec) : _root_.Go.OpenSpec := { _root_.Go.OpenSpec.ofChange s with cond := some uptoSmall }

/-- 'laws.FnNumberOfTest', WHERE WHAT IT READS IS OF BULK AT MOST 1048576: true; the input reads as it did. -/
def fnNumberOfTestUptoRow : OpenClaim := { program := "ytjogdblionfmiaa", sum := "ce3cd4210b70b3bbf4ed0949db0a0fb0bcafb5eee8c468fca9da4b854f0d364f", func := "loop.example/weakmemory/laws.FnNumberOfTest", spec := "fnNumberOfTest", unfollowed := true, recurses := true, plainKeys := false, apart := false, narrowed := true }
def FnNumberOfTestUptoSaid : Prop := fnNumberOfTestUptoRow.holds Try.pinned (OpenSpec.upto fnNumberOfTestSpec)

/-- 'laws.FnReorderTwice', WHERE WHAT IT READS IS OF BULK AT MOST 1048576: true; the input reads as it did. -/
def fnReorderTwiceUptoRow : OpenClaim := { program := "ytjogdblionfmiaa", sum := "ce3cd4210b70b3bbf4ed0949db0a0fb0bcafb5eee8c468fca9da4b854f0d364f", func := "loop.example/weakmemory/laws.FnReorderTwice", spec := "fnReorderTwice", unfollowed := true, recurses := true, plainKeys := false, apart := false, narrowed := true }
def FnReorderTwiceUptoSaid : Prop := fnReorderTwiceUptoRow.holds Try.pinned (OpenSpec.upto fnReorderTwiceSpec)

/-- 'laws.FnTurnLocsTwice', WHERE WHAT IT READS IS OF BULK AT MOST 1048576: true; the input reads as it did. -/
def fnTurnLocsTwiceUptoRow : OpenClaim := { program := "ytjogdblionfmiaa", sum := "ce3cd4210b70b3bbf4ed0949db0a0fb0bcafb5eee8c468fca9da4b854f0d364f", func := "loop.example/weakmemory/laws.FnTurnLocsTwice", spec := "fnTurnLocsTwice", unfollowed := true, recurses := true, plainKeys := false, apart := false, narrowed := true }
def FnTurnLocsTwiceUptoSaid : Prop := fnTurnLocsTwiceUptoRow.holds Try.pinned (OpenSpec.upto fnTurnLocsTwiceSpec)

/-- 'laws.FnTurnOutcome', WHERE WHAT IT READS IS OF BULK AT MOST 1048576: true; the input reads as it did. -/
def fnTurnOutcomeUptoRow : OpenClaim := { program := "ytjogdblionfmiaa", sum := "ce3cd4210b70b3bbf4ed0949db0a0fb0bcafb5eee8c468fca9da4b854f0d364f", func := "loop.example/weakmemory/laws.FnTurnOutcome", spec := "fnTurnOutcome", unfollowed := true, recurses := true, plainKeys := false, apart := false, narrowed := true }
def FnTurnOutcomeUptoSaid : Prop := fnTurnOutcomeUptoRow.holds Try.pinned (OpenSpec.upto fnTurnOutcomeSpec)

/-- 'laws.FnCondTurn', WHERE WHAT IT READS IS OF BULK AT MOST 1048576: true; the input reads as it did. -/
def fnCondTurnUptoRow : OpenClaim := { program := "ytjogdblionfmiaa", sum := "ce3cd4210b70b3bbf4ed0949db0a0fb0bcafb5eee8c468fca9da4b854f0d364f", func := "loop.example/weakmemory/laws.FnCondTurn", spec := "fnCondTurn", unfollowed := true, recurses := true, plainKeys := false, apart := false, narrowed := true }
def FnCondTurnUptoSaid : Prop := fnCondTurnUptoRow.holds Try.pinned (OpenSpec.upto fnCondTurnSpec)

/-- 'laws.FnRaceThread', WHERE WHAT IT READS IS OF BULK AT MOST 1048576: true; the input reads as it did. -/
def fnRaceThreadUptoRow : OpenClaim := { program := "ytjogdblionfmiaa", sum := "ce3cd4210b70b3bbf4ed0949db0a0fb0bcafb5eee8c468fca9da4b854f0d364f", func := "loop.example/weakmemory/laws.FnRaceThread", spec := "fnRaceThread", unfollowed := true, recurses := true, plainKeys := false, apart := false, narrowed := true }
def FnRaceThreadUptoSaid : Prop := fnRaceThreadUptoRow.holds Try.pinned (OpenSpec.upto fnRaceThreadSpec)

/-- 'laws.FnExactExecsWith', WHERE WHAT IT READS IS OF BULK AT MOST 1048576: true; the input reads as it did. -/
def fnExactExecsWithUptoRow : OpenClaim := { program := "ytjogdblionfmiaa", sum := "ce3cd4210b70b3bbf4ed0949db0a0fb0bcafb5eee8c468fca9da4b854f0d364f", func := "loop.example/weakmemory/laws.FnExactExecsWith", spec := "fnExactExecsWith", unfollowed := true, recurses := true, plainKeys := false, apart := false, narrowed := true }
def FnExactExecsWithUptoSaid : Prop := fnExactExecsWithUptoRow.holds Try.pinned (OpenSpec.upto fnExactExecsWithSpec)

/-- 'laws.FnExactScheduleOf', WHERE WHAT IT READS IS OF BULK AT MOST 1048576: true; the input reads as it did. -/
def fnExactScheduleOfUptoRow : OpenClaim := { program := "ytjogdblionfmiaa", sum := "ce3cd4210b70b3bbf4ed0949db0a0fb0bcafb5eee8c468fca9da4b854f0d364f", func := "loop.example/weakmemory/laws.FnExactScheduleOf", spec := "fnExactScheduleOf", unfollowed := true, recurses := true, plainKeys := false, apart := false, narrowed := true }
def FnExactScheduleOfUptoSaid : Prop := fnExactScheduleOfUptoRow.holds Try.pinned (OpenSpec.upto fnExactScheduleOfSpec)

end Rows
end Go.Proofs.Ytjogdblionfmiaa
