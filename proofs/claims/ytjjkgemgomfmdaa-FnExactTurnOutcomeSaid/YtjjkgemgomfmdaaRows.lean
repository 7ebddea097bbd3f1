/-
  No cell of these rows narrows 'for every input' (looked for: loops, veiled, ifaces, maps, wideKeys, modest, calm, conditions, laid).
  DERIVED. THE GIVEN ROWS OF THIS SEAT. 12 by the template 'for every input the law returns true; each argument reads behind the call as it read before'; 0 by the template 'total and deterministic' (their statements: YtjjkgemgomfmdaaTotals.lean).
  GIVEN WITH THE SEED: the statements are not yours to turn. If you find one false, say at which input.
  Laid BY PROGRAM, IN A SANDBOX (cutbox-rows.mjs): the forced cells as the released guide's own fill.sh prints them over the translation 247f737e870e2b1f… (all of the seat's roots in one cut). By AI agents, Wed Nov 11 2026. No macro, syntax, notation, axiom, sorry.
-/
import Derived.Test.YtjjkgemgomfmdaaChecked
import GoSem.Claim
import GoSem.ClaimJoined
import GoSem.ClaimMapViews
import Derived.JoinedTies
import Derived.KernelRfl
namespace Go.Proofs.Ytjjkgemgomfmdaa
/- THE CELL 'sum', in the pinned program and in every row, IS THE sha256 OF THE DUMP (.gsa) THAT YtjjkgemgomfmdaaProg.lean LOADS. Nothing in Lean hashes anything: it is a label: what it is worth is what the hold of that sum in a sandbox is worth. -/
noncomputable def Try.pinned : Pinned := { name := "ytjjkgemgomfmdaa", sum := "247f737e870e2b1f0094ce9c46aa127c30a3d69e78480f7ef1628a300020375d", checked := Try.checked }
namespace Rows
def none {H : Type} : Left H := { results := [], args := [] }

/-- 'laws.FnExactSmallTests': WHATEVER THE INPUT: true; the input reads as it did. -/
def fnExactSmallTestsSpec : ChangeSpec := { name := "fnExactSmallTests", fn := fun _ => fun
  | [] => { results := [.lit (.bool true)], args := [] }
  | _ => none }
def fnExactSmallTestsRow : OpenClaim := { program := "ytjjkgemgomfmdaa", sum := "247f737e870e2b1f0094ce9c46aa127c30a3d69e78480f7ef1628a300020375d", func := "loop.example/weakmemory/laws.FnExactSmallTests", spec := "fnExactSmallTests", apart := false }
def FnExactSmallTestsSaid : Prop := fnExactSmallTestsRow.holds Try.pinned (OpenSpec.ofChange fnExactSmallTestsSpec)

/-- ITS FALSE NEIGHBOUR: 'it returns false'. Refute it at one input. -/
def fnExactSmallTestsWrong : ChangeSpec := { name := "fnExactSmallTests", fn := fun _ => fun
  | [] => { results := [.lit (.bool false)], args := [] }
  | _ => none }
def FnExactSmallTestsWrongFalsely : Prop := fnExactSmallTestsRow.holds Try.pinned (OpenSpec.ofChange fnExactSmallTestsWrong)

/-- 'laws.FnExactSmallTest': WHATEVER THE INPUT: true; the input reads as it did. -/
def fnExactSmallTestSpec : ChangeSpec := { name := "fnExactSmallTest", fn := fun _ => fun
  | [d] => { results := [.lit (.bool true)], args := [d] }
  | _ => none }
def fnExactSmallTestRow : OpenClaim := { program := "ytjjkgemgomfmdaa", sum := "247f737e870e2b1f0094ce9c46aa127c30a3d69e78480f7ef1628a300020375d", func := "loop.example/weakmemory/laws.FnExactSmallTest", spec := "fnExactSmallTest", apart := false }
def FnExactSmallTestSaid : Prop := fnExactSmallTestRow.holds Try.pinned (OpenSpec.ofChange fnExactSmallTestSpec)

/-- ITS FALSE NEIGHBOUR: 'it returns false'. Refute it at one input. -/
def fnExactSmallTestWrong : ChangeSpec := { name := "fnExactSmallTest", fn := fun _ => fun
  | [d] => { results := [.lit (.bool false)], args := [d] }
  | _ => none }
def FnExactSmallTestWrongFalsely : Prop := fnExactSmallTestRow.holds Try.pinned (OpenSpec.ofChange fnExactSmallTestWrong)

/-- 'laws.FnExactNumberOfTest': WHATEVER THE INPUT: true; the input reads as it did. -/
def fnExactNumberOfTestSpec : ChangeSpec := { name := "fnExactNumberOfTest", fn := fun _ => fun
  | [d] => { results := [.lit (.bool true)], args := [d] }
  | _ => none }
def fnExactNumberOfTestRow : OpenClaim := { program := "ytjjkgemgomfmdaa", sum := "247f737e870e2b1f0094ce9c46aa127c30a3d69e78480f7ef1628a300020375d", func := "loop.example/weakmemory/laws.FnExactNumberOfTest", spec := "fnExactNumberOfTest", apart := false }
def FnExactNumberOfTestSaid : Prop := fnExactNumberOfTestRow.holds Try.pinned (OpenSpec.ofChange fnExactNumberOfTestSpec)

/-- ITS FALSE NEIGHBOUR: 'it returns false'. Refute it at one input. -/
def fnExactNumberOfTestWrong : ChangeSpec := { name := "fnExactNumberOfTest", fn := fun _ => fun
  | [d] => { results := [.lit (.bool false)], args := [d] }
  | _ => none }
def FnExactNumberOfTestWrongFalsely : Prop := fnExactNumberOfTestRow.holds Try.pinned (OpenSpec.ofChange fnExactNumberOfTestWrong)

/-- 'laws.FnSmallTest': WHATEVER THE INPUT: true; the input reads as it did. -/
def fnSmallTestSpec : ChangeSpec := { name := "fnSmallTest", fn := fun _ => fun
  | [d] => { results := [.lit (.bool true)], args := [d] }
  | _ => none }
def fnSmallTestRow : OpenClaim := { program := "ytjjkgemgomfmdaa", sum := "247f737e870e2b1f0094ce9c46aa127c30a3d69e78480f7ef1628a300020375d", func := "loop.example/weakmemory/laws.FnSmallTest", spec := "fnSmallTest", unfollowed := true, recurses := true, apart := false }
def FnSmallTestSaid : Prop := fnSmallTestRow.holds Try.pinned (OpenSpec.ofChange fnSmallTestSpec)

/-- ITS FALSE NEIGHBOUR: 'it returns false'. Refute it at one input. -/
def fnSmallTestWrong : ChangeSpec := { name := "fnSmallTest", fn := fun _ => fun
  | [d] => { results := [.lit (.bool false)], args := [d] }
  | _ => none }
def FnSmallTestWrongFalsely : Prop := fnSmallTestRow.holds Try.pinned (OpenSpec.ofChange fnSmallTestWrong)

/-- 'laws.FnExactCanReorder': WHATEVER THE INPUT: true; the input reads as it did. -/
def fnExactCanReorderSpec : ChangeSpec := { name := "fnExactCanReorder", fn := fun _ => fun
  | [d1, d2, d3, d4] => { results := [.lit (.bool true)], args := [d1, d2, d3, d4] }
  | _ => none }
def fnExactCanReorderRow : OpenClaim := { program := "ytjjkgemgomfmdaa", sum := "247f737e870e2b1f0094ce9c46aa127c30a3d69e78480f7ef1628a300020375d", func := "loop.example/weakmemory/laws.FnExactCanReorder", spec := "fnExactCanReorder", unfollowed := true, recurses := true, apart := false }
def FnExactCanReorderSaid : Prop := fnExactCanReorderRow.holds Try.pinned (OpenSpec.ofChange fnExactCanReorderSpec)

/-- ITS FALSE NEIGHBOUR: 'it returns false'. Refute it at one input. -/
def fnExactCanReorderWrong : ChangeSpec := { name := "fnExactCanReorder", fn := fun _ => fun
  | [d1, d2, d3, d4] => { results := [.lit (.bool false)], args := [d1, d2, d3, d4] }
  | _ => none }
def FnExactCanReorderWrongFalsely : Prop := fnExactCanReorderRow.holds Try.pinned (OpenSpec.ofChange fnExactCanReorderWrong)

/-- 'laws.FnExactTurnThreads': WHATEVER THE INPUT: true; the input reads as it did. -/
def fnExactTurnThreadsSpec : ChangeSpec := { name := "fnExactTurnThreads", fn := fun _ => fun
  | [d1, d2, d3] => { results := [.lit (.bool true)], args := [d1, d2, d3] }
  | _ => none }
def fnExactTurnThreadsRow : OpenClaim := { program := "ytjjkgemgomfmdaa", sum := "247f737e870e2b1f0094ce9c46aa127c30a3d69e78480f7ef1628a300020375d", func := "loop.example/weakmemory/laws.FnExactTurnThreads", spec := "fnExactTurnThreads", unfollowed := true, recurses := true, apart := false }
def FnExactTurnThreadsSaid : Prop := fnExactTurnThreadsRow.holds Try.pinned (OpenSpec.ofChange fnExactTurnThreadsSpec)

/-- ITS FALSE NEIGHBOUR: 'it returns false'. Refute it at one input. -/
def fnExactTurnThreadsWrong : ChangeSpec := { name := "fnExactTurnThreads", fn := fun _ => fun
  | [d1, d2, d3] => { results := [.lit (.bool false)], args := [d1, d2, d3] }
  | _ => none }
def FnExactTurnThreadsWrongFalsely : Prop := fnExactTurnThreadsRow.holds Try.pinned (OpenSpec.ofChange fnExactTurnThreadsWrong)

/-- 'laws.FnExactReorderInstr': WHATEVER THE INPUT: true; the input reads as it did. -/
def fnExactReorderInstrSpec : ChangeSpec := { name := "fnExactReorderInstr", fn := fun _ => fun
  | [d1, d2, d3] => { results := [.lit (.bool true)], args := [d1, d2, d3] }
  | _ => none }
def fnExactReorderInstrRow : OpenClaim := { program := "ytjjkgemgomfmdaa", sum := "247f737e870e2b1f0094ce9c46aa127c30a3d69e78480f7ef1628a300020375d", func := "loop.example/weakmemory/laws.FnExactReorderInstr", spec := "fnExactReorderInstr", unfollowed := true, recurses := true, apart := false }
def FnExactReorderInstrSaid : Prop := fnExactReorderInstrRow.holds Try.pinned (OpenSpec.ofChange fnExactReorderInstrSpec)

/-- ITS FALSE NEIGHBOUR: 'it returns false'. Refute it at one input. -/
def fnExactReorderInstrWrong : ChangeSpec := { name := "fnExactReorderInstr", fn := fun _ => fun
  | [d1, d2, d3] => { results := [.lit (.bool false)], args := [d1, d2, d3] }
  | _ => none }
def FnExactReorderInstrWrongFalsely : Prop := fnExactReorderInstrRow.holds Try.pinned (OpenSpec.ofChange fnExactReorderInstrWrong)

/-- 'laws.FnExactDropThread': WHATEVER THE INPUT: true; the input reads as it did. -/
def fnExactDropThreadSpec : ChangeSpec := { name := "fnExactDropThread", fn := fun _ => fun
  | [d1, d2] => { results := [.lit (.bool true)], args := [d1, d2] }
  | _ => none }
def fnExactDropThreadRow : OpenClaim := { program := "ytjjkgemgomfmdaa", sum := "247f737e870e2b1f0094ce9c46aa127c30a3d69e78480f7ef1628a300020375d", func := "loop.example/weakmemory/laws.FnExactDropThread", spec := "fnExactDropThread", unfollowed := true, recurses := true, apart := false }
def FnExactDropThreadSaid : Prop := fnExactDropThreadRow.holds Try.pinned (OpenSpec.ofChange fnExactDropThreadSpec)

/-- ITS FALSE NEIGHBOUR: 'it returns false'. Refute it at one input. -/
def fnExactDropThreadWrong : ChangeSpec := { name := "fnExactDropThread", fn := fun _ => fun
  | [d1, d2] => { results := [.lit (.bool false)], args := [d1, d2] }
  | _ => none }
def FnExactDropThreadWrongFalsely : Prop := fnExactDropThreadRow.holds Try.pinned (OpenSpec.ofChange fnExactDropThreadWrong)

/-- 'laws.FnExactTurnLocs': WHATEVER THE INPUT: true; the input reads as it did. -/
def fnExactTurnLocsSpec : ChangeSpec := { name := "fnExactTurnLocs", fn := fun _ => fun
  | [d1, d2, d3] => { results := [.lit (.bool true)], args := [d1, d2, d3] }
  | _ => none }
def fnExactTurnLocsRow : OpenClaim := { program := "ytjjkgemgomfmdaa", sum := "247f737e870e2b1f0094ce9c46aa127c30a3d69e78480f7ef1628a300020375d", func := "loop.example/weakmemory/laws.FnExactTurnLocs", spec := "fnExactTurnLocs", unfollowed := true, recurses := true, apart := false }
def FnExactTurnLocsSaid : Prop := fnExactTurnLocsRow.holds Try.pinned (OpenSpec.ofChange fnExactTurnLocsSpec)

/-- ITS FALSE NEIGHBOUR: 'it returns false'. Refute it at one input. -/
def fnExactTurnLocsWrong : ChangeSpec := { name := "fnExactTurnLocs", fn := fun _ => fun
  | [d1, d2, d3] => { results := [.lit (.bool false)], args := [d1, d2, d3] }
  | _ => none }
def FnExactTurnLocsWrongFalsely : Prop := fnExactTurnLocsRow.holds Try.pinned (OpenSpec.ofChange fnExactTurnLocsWrong)

/-- 'laws.FnExactTurnOutcome': WHATEVER THE INPUT: true; the input reads as it did. -/
def fnExactTurnOutcomeSpec : ChangeSpec := { name := "fnExactTurnOutcome", fn := fun _ => fun
  | [d1, d2, d3, d4, d5, d6] => { results := [.lit (.bool true)], args := [d1, d2, d3, d4, d5, d6] }
  | _ => none }
def fnExactTurnOutcomeRow : OpenClaim := { program := "ytjjkgemgomfmdaa", sum := "247f737e870e2b1f0094ce9c46aa127c30a3d69e78480f7ef1628a300020375d", func := "loop.example/weakmemory/laws.FnExactTurnOutcome", spec := "fnExactTurnOutcome", unfollowed := true, recurses := true, apart := false }
def FnExactTurnOutcomeSaid : Prop := fnExactTurnOutcomeRow.holds Try.pinned (OpenSpec.ofChange fnExactTurnOutcomeSpec)

/-- ITS FALSE NEIGHBOUR: 'it returns false'. Refute it at one input. -/
def fnExactTurnOutcomeWrong : ChangeSpec := { name := "fnExactTurnOutcome", fn := fun _ => fun
  | [d1, d2, d3, d4, d5, d6] => { results := [.lit (.bool false)], args := [d1, d2, d3, d4, d5, d6] }
  | _ => none }
def FnExactTurnOutcomeWrongFalsely : Prop := fnExactTurnOutcomeRow.holds Try.pinned (OpenSpec.ofChange fnExactTurnOutcomeWrong)

/-- 'laws.FnNumberOfTest': WHATEVER THE INPUT: true; the input reads as it did. -/
def fnNumberOfTestSpec : ChangeSpec := { name := "fnNumberOfTest", fn := fun _ => fun
  | [d] => { results := [.lit (.bool true)], args := [d] }
  | _ => none }
def fnNumberOfTestRow : OpenClaim := { program := "ytjjkgemgomfmdaa", sum := "247f737e870e2b1f0094ce9c46aa127c30a3d69e78480f7ef1628a300020375d", func := "loop.example/weakmemory/laws.FnNumberOfTest", spec := "fnNumberOfTest", unfollowed := true, recurses := true, apart := false }
def FnNumberOfTestSaid : Prop := fnNumberOfTestRow.holds Try.pinned (OpenSpec.ofChange fnNumberOfTestSpec)

/-- ITS FALSE NEIGHBOUR: 'it returns false'. Refute it at one input. -/
def fnNumberOfTestWrong : ChangeSpec := { name := "fnNumberOfTest", fn := fun _ => fun
  | [d] => { results := [.lit (.bool false)], args := [d] }
  | _ => none }
def FnNumberOfTestWrongFalsely : Prop := fnNumberOfTestRow.holds Try.pinned (OpenSpec.ofChange fnNumberOfTestWrong)

/-- 'laws.FnReorderTwice': WHATEVER THE INPUT: true; the input reads as it did. -/
def fnReorderTwiceSpec : ChangeSpec := { name := "fnReorderTwice", fn := fun _ => fun
  | [d] => { results := [.lit (.bool true)], args := [d] }
  | _ => none }
def fnReorderTwiceRow : OpenClaim := { program := "ytjjkgemgomfmdaa", sum := "247f737e870e2b1f0094ce9c46aa127c30a3d69e78480f7ef1628a300020375d", func := "loop.example/weakmemory/laws.FnReorderTwice", spec := "fnReorderTwice", unfollowed := true, recurses := true, apart := false }
def FnReorderTwiceSaid : Prop := fnReorderTwiceRow.holds Try.pinned (OpenSpec.ofChange fnReorderTwiceSpec)

/-- ITS FALSE NEIGHBOUR: 'it returns false'. Refute it at one input. -/
def fnReorderTwiceWrong : ChangeSpec := { name := "fnReorderTwice", fn := fun _ => fun
  | [d] => { results := [.lit (.bool false)], args := [d] }
  | _ => none }
def FnReorderTwiceWrongFalsely : Prop := fnReorderTwiceRow.holds Try.pinned (OpenSpec.ofChange fnReorderTwiceWrong)

/- THE SECOND FORM. 'bulk': how many values and letters a reading holds, each counted each time it is reached (what is shared counts as often as it is met; a slice's spare places count too). A statement '..UptoSaid' is the law's where the arguments, and the package variables that the reading takes, are together of bulk at most 1048576: NARROWER than '..Said'. Prove '..Said' where nothing that the law and all that it calls make is longer than what came in: it says more and counts as full. Else prove '..UptoSaid'. A law counts once. -/
mutual
def uptoBulk {H : Type} : DataW H → Nat
  | .lit (.string bytes) => bytes.length + 1
  | .lit _ => 1
  | .nil => 1
  | .ptr d => uptoBulk d + 1
  | .slice elems spare => uptoBulkAll elems + uptoBulkAll spare + 1
  | .agg parts => uptoBulkAll parts + 1
  | .iface _ d => uptoBulk d + 1
  | .map entries => uptoBulkEntries entries + 1
  | .held _ => 1
def uptoBulkAll {H : Type} : List (DataW H) → Nat
  | [] => 0
  | d :: r => uptoBulk d + uptoBulkAll r
def uptoBulkEntries {H : Type} : List (Lit × DataW H) → Nat
  | [] => 0
  | x :: r => uptoBulkEntry x + uptoBulkEntries r
def uptoBulkEntry {H : Type} : Lit × DataW H → Nat
  | (.string bytes, d) => bytes.length + uptoBulk d + 1
  | (_, d) => uptoBulk d + 1
 end
def uptoSmall : (H : Type) → List (DataW H) → Bool := fun _ ds => decide (uptoBulkAll ds ≤ 1048576)
def OpenSpec.upto (s : _root_.Go.ChangeSpec) : _root_.Go.OpenSpec := { _root_.Go.OpenSpec.ofChange s with cond := some uptoSmall }

/-- 'laws.FnExactSmallTests', WHERE WHAT IT READS IS OF BULK AT MOST 1048576: true; the input reads as it did. -/
def fnExactSmallTestsUptoRow : OpenClaim := { program := "ytjjkgemgomfmdaa", sum := "247f737e870e2b1f0094ce9c46aa127c30a3d69e78480f7ef1628a300020375d", func := "loop.example/weakmemory/laws.FnExactSmallTests", spec := "fnExactSmallTests", apart := false, narrowed := true }
def FnExactSmallTestsUptoSaid : Prop := fnExactSmallTestsUptoRow.holds Try.pinned (OpenSpec.upto fnExactSmallTestsSpec)

/-- 'laws.FnExactSmallTest', WHERE WHAT IT READS IS OF BULK AT MOST 1048576: true; the input reads as it did. -/
def fnExactSmallTestUptoRow : OpenClaim := { program := "ytjjkgemgomfmdaa", sum := "247f737e870e2b1f0094ce9c46aa127c30a3d69e78480f7ef1628a300020375d", func := "loop.example/weakmemory/laws.FnExactSmallTest", spec := "fnExactSmallTest", apart := false, narrowed := true }
def FnExactSmallTestUptoSaid : Prop := fnExactSmallTestUptoRow.holds Try.pinned (OpenSpec.upto fnExactSmallTestSpec)

/-- 'laws.FnExactNumberOfTest', WHERE WHAT IT READS IS OF BULK AT MOST 1048576: true; the input reads as it did. -/
def fnExactNumberOfTestUptoRow : OpenClaim := { program := "ytjjkgemgomfmdaa", sum := "247f737e870e2b1f0094ce9c46aa127c30a3d69e78480f7ef1628a300020375d", func := "loop.example/weakmemory/laws.FnExactNumberOfTest", spec := "fnExactNumberOfTest", apart := false, narrowed := true }
def FnExactNumberOfTestUptoSaid : Prop := fnExactNumberOfTestUptoRow.holds Try.pinned (OpenSpec.upto fnExactNumberOfTestSpec)

/-- 'laws.FnSmallTest', WHERE WHAT IT READS IS OF BULK AT MOST 1048576: true; the input reads as it did. -/
def fnSmallTestUptoRow : OpenClaim := { program := "ytjjkgemgomfmdaa", sum := "247f737e870e2b1f0094ce9c46aa127c30a3d69e78480f7ef1628a300020375d", func := "loop.example/weakmemory/laws.FnSmallTest", spec := "fnSmallTest", unfollowed := true, recurses := true, apart := false, narrowed := true }
def FnSmallTestUptoSaid : Prop := fnSmallTestUptoRow.holds Try.pinned (OpenSpec.upto fnSmallTestSpec)

/-- 'laws.FnExactCanReorder', WHERE WHAT IT READS IS OF BULK AT MOST 1048576: true; the input reads as it did. -/
def fnExactCanReorderUptoRow : OpenClaim := { program := "ytjjkgemgomfmdaa", sum := "247f737e870e2b1f0094ce9c46aa127c30a3d69e78480f7ef1628a300020375d", func := "loop.example/weakmemory/laws.FnExactCanReorder", spec := "fnExactCanReorder", unfollowed := true, recurses := true, apart := false, narrowed := true }
def FnExactCanReorderUptoSaid : Prop := fnExactCanReorderUptoRow.holds Try.pinned (OpenSpec.upto fnExactCanReorderSpec)

/-- 'laws.FnExactTurnThreads', WHERE WHAT IT READS IS OF BULK AT MOST 1048576: true; the input reads as it did. -/
def fnExactTurnThreadsUptoRow : OpenClaim := { program := "ytjjkgemgomfmdaa", sum := "247f737e870e2b1f0094ce9c46aa127c30a3d69e78480f7ef1628a300020375d", func := "loop.example/weakmemory/laws.FnExactTurnThreads", spec := "fnExactTurnThreads", unfollowed := true, recurses := true, apart := false, narrowed := true }
def FnExactTurnThreadsUptoSaid : Prop := fnExactTurnThreadsUptoRow.holds Try.pinned (OpenSpec.upto fnExactTurnThreadsSpec)

/-- 'laws.FnExactReorderInstr', WHERE WHAT IT READS IS OF BULK AT MOST 1048576: true; the input reads as it did. -/
def fnExactReorderInstrUptoRow : OpenClaim := { program := "ytjjkgemgomfmdaa", sum := "247f737e870e2b1f0094ce9c46aa127c30a3d69e78480f7ef1628a300020375d", func := "loop.example/weakmemory/laws.FnExactReorderInstr", spec := "fnExactReorderInstr", unfollowed := true, recurses := true, apart := false, narrowed := true }
def FnExactReorderInstrUptoSaid : Prop := fnExactReorderInstrUptoRow.holds Try.pinned (OpenSpec.upto fnExactReorderInstrSpec)

/-- 'laws.FnExactDropThread', WHERE WHAT IT READS IS OF BULK AT MOST 1048576: true; the input reads as it did. -/
def fnExactDropThreadUptoRow : OpenClaim := { program := "ytjjkgemgomfmdaa", sum := "247f737e870e2b1f0094ce9c46aa127c30a3d69e78480f7ef1628a300020375d", func := "loop.example/weakmemory/laws.FnExactDropThread", spec := "fnExactDropThread", unfollowed := true, recurses := true, apart := false, narrowed := true }
def FnExactDropThreadUptoSaid : Prop := fnExactDropThreadUptoRow.holds Try.pinned (OpenSpec.upto fnExactDropThreadSpec)

/-- 'laws.FnExactTurnLocs', WHERE WHAT IT READS IS OF BULK AT MOST 1048576: true; the input reads as it did. -/
def fnExactTurnLocsUptoRow : OpenClaim := { program := "ytjjkgemgomfmdaa", sum := "247f737e870e2b1f0094ce9c46aa127c30a3d69e78480f7ef1628a300020375d", func := "loop.example/weakmemory/laws.FnExactTurnLocs", spec := "fnExactTurnLocs", unfollowed := true, recurses := true, apart := false, narrowed := true }
def FnExactTurnLocsUptoSaid : Prop := fnExactTurnLocsUptoRow.holds Try.pinned (OpenSpec.upto fnExactTurnLocsSpec)

/-- 'laws.FnExactTurnOutcome', WHERE WHAT IT READS IS OF BULK AT MOST 1048576: true; the input reads as it did. -/
def fnExactTurnOutcomeUptoRow : OpenClaim := { program := "ytjjkgemgomfmdaa", sum := "247f737e870e2b1f0094ce9c46aa127c30a3d69e78480f7ef1628a300020375d", func := "loop.example/weakmemory/laws.FnExactTurnOutcome", spec := "fnExactTurnOutcome", unfollowed := true, recurses := true, apart := false, narrowed := true }
def FnExactTurnOutcomeUptoSaid : Prop := fnExactTurnOutcomeUptoRow.holds Try.pinned (OpenSpec.upto fnExactTurnOutcomeSpec)

/-- 'laws.FnNumberOfTest', WHERE WHAT IT READS IS OF BULK AT MOST 1048576: true; the input reads as it did. -/
def fnNumberOfTestUptoRow : OpenClaim := { program := "ytjjkgemgomfmdaa", sum := "247f737e870e2b1f0094ce9c46aa127c30a3d69e78480f7ef1628a300020375d", func := "loop.example/weakmemory/laws.FnNumberOfTest", spec := "fnNumberOfTest", unfollowed := true, recurses := true, apart := false, narrowed := true }
def FnNumberOfTestUptoSaid : Prop := fnNumberOfTestUptoRow.holds Try.pinned (OpenSpec.upto fnNumberOfTestSpec)

/-- 'laws.FnReorderTwice', WHERE WHAT IT READS IS OF BULK AT MOST 1048576: true; the input reads as it did. -/
def fnReorderTwiceUptoRow : OpenClaim := { program := "ytjjkgemgomfmdaa", sum := "247f737e870e2b1f0094ce9c46aa127c30a3d69e78480f7ef1628a300020375d", func := "loop.example/weakmemory/laws.FnReorderTwice", spec := "fnReorderTwice", unfollowed := true, recurses := true, apart := false, narrowed := true }
def FnReorderTwiceUptoSaid : Prop := fnReorderTwiceUptoRow.holds Try.pinned (OpenSpec.upto fnReorderTwiceSpec)

end Rows
end Go.Proofs.Ytjjkgemgomfmdaa
