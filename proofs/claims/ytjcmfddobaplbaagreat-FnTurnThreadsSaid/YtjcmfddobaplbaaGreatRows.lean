/-
  No cell of these rows narrows 'for every input' (looked for: loops, veiled, ifaces, maps, wideKeys, modest, calm, conditions, laid).
  DERIVED. THE GIVEN ROWS OF THIS SEAT. 9 by the template 'for every input the law returns true; each argument reads behind the call as it read before'; 0 by the template 'total and deterministic' (their statements: YtjcmfddobaplbaaGreatTotals.lean).
  GIVEN WITH THE SEED: the statements are not yours to turn. If you find one false, say at which input.
  Laid BY PROGRAM, IN A SANDBOX (cutbox-rows.mjs): the forced cells as the released guide's own fill.sh prints them over the translation 6cfa1afb037f8548… (all of the seat's roots in one cut). By AI agents, Wed Nov 11 2026. No macro, syntax, notation, axiom, sorry.
-/
import Derived.Test.YtjcmfddobaplbaaGreatChecked
import GoSem.Claim
import GoSem.ClaimJoined
import GoSem.ClaimMapViews
import Derived.JoinedTies
import Derived.KernelRfl
namespace Go.Proofs.YtjcmfddobaplbaaGreat
/- THE CELL 'sum', in the pinned program and in every row, IS THE sha256 OF THE DUMP (.gsa) THAT YtjcmfddobaplbaaGreatProg.lean LOADS. Nothing in Lean hashes anything: it is a label: what it is worth is what the hold of that sum in a sandbox is worth. -/
noncomputable def Tryz.pinned : Pinned := { name := "ytjcmfddobaplbaagreat", sum := "6cfa1afb037f8548393eec49adf3032e2338e6d0d977956f3828aef5d468a55d", checked := Tryz.checked }
namespace Rows
def none {H : Type} : Left H := { results := [], args := [] }

/-- 'laws.FnTestRobust': WHATEVER THE INPUT: true; the input reads as it did. -/
def fnTestRobustSpec : ChangeSpec := { name := "fnTestRobust", fn := fun _ => fun
  | [d] => { results := [.lit (.bool true)], args := [d] }
  | _ => none }
def fnTestRobustRow : OpenClaim := { program := "ytjcmfddobaplbaagreat", sum := "6cfa1afb037f8548393eec49adf3032e2338e6d0d977956f3828aef5d468a55d", func := "loop.example/weakmemory/laws.FnTestRobust", spec := "fnTestRobust", unfollowed := true, recurses := true, apart := false }
def FnTestRobustSaid : Prop := fnTestRobustRow.holds Tryz.pinned (OpenSpec.ofChange fnTestRobustSpec)

/-- ITS FALSE NEIGHBOUR: 'it returns false'. Refute it at one input. -/
def fnTestRobustWrong : ChangeSpec := { name := "fnTestRobust", fn := fun _ => fun
  | [d] => { results := [.lit (.bool false)], args := [d] }
  | _ => none }
def FnTestRobustWrongFalsely : Prop := fnTestRobustRow.holds Tryz.pinned (OpenSpec.ofChange fnTestRobustWrong)

/-- 'laws.FnTestMachines': WHATEVER THE INPUT: true; the input reads as it did. -/
def fnTestMachinesSpec : ChangeSpec := { name := "fnTestMachines", fn := fun _ => fun
  | [d] => { results := [.lit (.bool true)], args := [d] }
  | _ => none }
def fnTestMachinesRow : OpenClaim := { program := "ytjcmfddobaplbaagreat", sum := "6cfa1afb037f8548393eec49adf3032e2338e6d0d977956f3828aef5d468a55d", func := "loop.example/weakmemory/laws.FnTestMachines", spec := "fnTestMachines", unfollowed := true, recurses := true, apart := false }
def FnTestMachinesSaid : Prop := fnTestMachinesRow.holds Tryz.pinned (OpenSpec.ofChange fnTestMachinesSpec)

/-- ITS FALSE NEIGHBOUR: 'it returns false'. Refute it at one input. -/
def fnTestMachinesWrong : ChangeSpec := { name := "fnTestMachines", fn := fun _ => fun
  | [d] => { results := [.lit (.bool false)], args := [d] }
  | _ => none }
def FnTestMachinesWrongFalsely : Prop := fnTestMachinesRow.holds Tryz.pinned (OpenSpec.ofChange fnTestMachinesWrong)

/-- 'laws.FnTurnThreads': WHATEVER THE INPUT: true; the input reads as it did. -/
def fnTurnThreadsSpec : ChangeSpec := { name := "fnTurnThreads", fn := fun _ => fun
  | [d] => { results := [.lit (.bool true)], args := [d] }
  | _ => none }
def fnTurnThreadsRow : OpenClaim := { program := "ytjcmfddobaplbaagreat", sum := "6cfa1afb037f8548393eec49adf3032e2338e6d0d977956f3828aef5d468a55d", func := "loop.example/weakmemory/laws.FnTurnThreads", spec := "fnTurnThreads", unfollowed := true, recurses := true, apart := false }
def FnTurnThreadsSaid : Prop := fnTurnThreadsRow.holds Tryz.pinned (OpenSpec.ofChange fnTurnThreadsSpec)

/-- ITS FALSE NEIGHBOUR: 'it returns false'. Refute it at one input. -/
def fnTurnThreadsWrong : ChangeSpec := { name := "fnTurnThreads", fn := fun _ => fun
  | [d] => { results := [.lit (.bool false)], args := [d] }
  | _ => none }
def FnTurnThreadsWrongFalsely : Prop := fnTurnThreadsRow.holds Tryz.pinned (OpenSpec.ofChange fnTurnThreadsWrong)

/-- 'laws.FnTurnLocs': WHATEVER THE INPUT: true; the input reads as it did. -/
def fnTurnLocsSpec : ChangeSpec := { name := "fnTurnLocs", fn := fun _ => fun
  | [d] => { results := [.lit (.bool true)], args := [d] }
  | _ => none }
def fnTurnLocsRow : OpenClaim := { program := "ytjcmfddobaplbaagreat", sum := "6cfa1afb037f8548393eec49adf3032e2338e6d0d977956f3828aef5d468a55d", func := "loop.example/weakmemory/laws.FnTurnLocs", spec := "fnTurnLocs", unfollowed := true, recurses := true, apart := false }
def FnTurnLocsSaid : Prop := fnTurnLocsRow.holds Tryz.pinned (OpenSpec.ofChange fnTurnLocsSpec)

/-- ITS FALSE NEIGHBOUR: 'it returns false'. Refute it at one input. -/
def fnTurnLocsWrong : ChangeSpec := { name := "fnTurnLocs", fn := fun _ => fun
  | [d] => { results := [.lit (.bool false)], args := [d] }
  | _ => none }
def FnTurnLocsWrongFalsely : Prop := fnTurnLocsRow.holds Tryz.pinned (OpenSpec.ofChange fnTurnLocsWrong)

/-- 'laws.FnCanReorder': WHATEVER THE INPUT: true; the input reads as it did. -/
def fnCanReorderSpec : ChangeSpec := { name := "fnCanReorder", fn := fun _ => fun
  | [d] => { results := [.lit (.bool true)], args := [d] }
  | _ => none }
def fnCanReorderRow : OpenClaim := { program := "ytjcmfddobaplbaagreat", sum := "6cfa1afb037f8548393eec49adf3032e2338e6d0d977956f3828aef5d468a55d", func := "loop.example/weakmemory/laws.FnCanReorder", spec := "fnCanReorder", unfollowed := true, recurses := true, apart := false }
def FnCanReorderSaid : Prop := fnCanReorderRow.holds Tryz.pinned (OpenSpec.ofChange fnCanReorderSpec)

/-- ITS FALSE NEIGHBOUR: 'it returns false'. Refute it at one input. -/
def fnCanReorderWrong : ChangeSpec := { name := "fnCanReorder", fn := fun _ => fun
  | [d] => { results := [.lit (.bool false)], args := [d] }
  | _ => none }
def FnCanReorderWrongFalsely : Prop := fnCanReorderRow.holds Tryz.pinned (OpenSpec.ofChange fnCanReorderWrong)

/-- 'laws.FnTellsApart': WHATEVER THE INPUT: true; the input reads as it did. -/
def fnTellsApartSpec : ChangeSpec := { name := "fnTellsApart", fn := fun _ => fun
  | [d] => { results := [.lit (.bool true)], args := [d] }
  | _ => none }
def fnTellsApartRow : OpenClaim := { program := "ytjcmfddobaplbaagreat", sum := "6cfa1afb037f8548393eec49adf3032e2338e6d0d977956f3828aef5d468a55d", func := "loop.example/weakmemory/laws.FnTellsApart", spec := "fnTellsApart", unfollowed := true, recurses := true, apart := false }
def FnTellsApartSaid : Prop := fnTellsApartRow.holds Tryz.pinned (OpenSpec.ofChange fnTellsApartSpec)

/-- ITS FALSE NEIGHBOUR: 'it returns false'. Refute it at one input. -/
def fnTellsApartWrong : ChangeSpec := { name := "fnTellsApart", fn := fun _ => fun
  | [d] => { results := [.lit (.bool false)], args := [d] }
  | _ => none }
def FnTellsApartWrongFalsely : Prop := fnTellsApartRow.holds Tryz.pinned (OpenSpec.ofChange fnTellsApartWrong)

/-- 'laws.FnExactTellsApart': WHATEVER THE INPUT: true; the input reads as it did. -/
def fnExactTellsApartSpec : ChangeSpec := { name := "fnExactTellsApart", fn := fun _ => fun
  | [d1, d2, d3] => { results := [.lit (.bool true)], args := [d1, d2, d3] }
  | _ => none }
def fnExactTellsApartRow : OpenClaim := { program := "ytjcmfddobaplbaagreat", sum := "6cfa1afb037f8548393eec49adf3032e2338e6d0d977956f3828aef5d468a55d", func := "loop.example/weakmemory/laws.FnExactTellsApart", spec := "fnExactTellsApart", unfollowed := true, recurses := true, apart := false }
def FnExactTellsApartSaid : Prop := fnExactTellsApartRow.holds Tryz.pinned (OpenSpec.ofChange fnExactTellsApartSpec)

/-- ITS FALSE NEIGHBOUR: 'it returns false'. Refute it at one input. -/
def fnExactTellsApartWrong : ChangeSpec := { name := "fnExactTellsApart", fn := fun _ => fun
  | [d1, d2, d3] => { results := [.lit (.bool false)], args := [d1, d2, d3] }
  | _ => none }
def FnExactTellsApartWrongFalsely : Prop := fnExactTellsApartRow.holds Tryz.pinned (OpenSpec.ofChange fnExactTellsApartWrong)

/-- 'laws.FnExactFirstTest': WHATEVER THE INPUT: true; the input reads as it did. -/
def fnExactFirstTestSpec : ChangeSpec := { name := "fnExactFirstTest", fn := fun _ => fun
  | [d1, d2, d3] => { results := [.lit (.bool true)], args := [d1, d2, d3] }
  | _ => none }
def fnExactFirstTestRow : OpenClaim := { program := "ytjcmfddobaplbaagreat", sum := "6cfa1afb037f8548393eec49adf3032e2338e6d0d977956f3828aef5d468a55d", func := "loop.example/weakmemory/laws.FnExactFirstTest", spec := "fnExactFirstTest", unfollowed := true, recurses := true, apart := false }
def FnExactFirstTestSaid : Prop := fnExactFirstTestRow.holds Tryz.pinned (OpenSpec.ofChange fnExactFirstTestSpec)

/-- ITS FALSE NEIGHBOUR: 'it returns false'. Refute it at one input. -/
def fnExactFirstTestWrong : ChangeSpec := { name := "fnExactFirstTest", fn := fun _ => fun
  | [d1, d2, d3] => { results := [.lit (.bool false)], args := [d1, d2, d3] }
  | _ => none }
def FnExactFirstTestWrongFalsely : Prop := fnExactFirstTestRow.holds Tryz.pinned (OpenSpec.ofChange fnExactFirstTestWrong)

/-- 'laws.FnFirstTest': WHATEVER THE INPUT: true; the input reads as it did. -/
def fnFirstTestSpec : ChangeSpec := { name := "fnFirstTest", fn := fun _ => fun
  | [d] => { results := [.lit (.bool true)], args := [d] }
  | _ => none }
def fnFirstTestRow : OpenClaim := { program := "ytjcmfddobaplbaagreat", sum := "6cfa1afb037f8548393eec49adf3032e2338e6d0d977956f3828aef5d468a55d", func := "loop.example/weakmemory/laws.FnFirstTest", spec := "fnFirstTest", unfollowed := true, recurses := true, apart := false }
def FnFirstTestSaid : Prop := fnFirstTestRow.holds Tryz.pinned (OpenSpec.ofChange fnFirstTestSpec)

/-- ITS FALSE NEIGHBOUR: 'it returns false'. Refute it at one input. -/
def fnFirstTestWrong : ChangeSpec := { name := "fnFirstTest", fn := fun _ => fun
  | [d] => { results := [.lit (.bool false)], args := [d] }
  | _ => none }
def FnFirstTestWrongFalsely : Prop := fnFirstTestRow.holds Tryz.pinned (OpenSpec.ofChange fnFirstTestWrong)

/- THE SECOND FORM. 'bulk': how many values and letters a reading holds, each counted each time it is reached (what is shared counts as often as it is met; a slice's spare places count too). A statement '..UptoSaid' is the law's where the arguments, and the package variables that the reading takes, are together of bulk at most 1048576: NARROWER than '..Said'. Prove '..Said' where nothing that the law and all that it calls make is longer than what came in: it says more and counts as full. Else prove '..UptoSaid'. A law counts once. -/
mutual
def uptoBulk {H : Type} : DataW H → Nat
  | .lit (.string bytes) => bytes.length + 1
  | .lit _ => 1
  | .nil => 1
  | .ptr d => uptoBulk d + 1
  | .slice elems spare => uptoBulkAll elems + uptoBulkAll spare + 1
  | .agg parts => uptoBulkAll parts + 1
  | .iface _ d => uptoBulk d + 1
  | .map entries => uptoBulkEntries entries + 1
  | .held _ => 1
def uptoBulkAll {H : Type} : List (DataW H) → Nat
  | [] => 0
  | d :: r => uptoBulk d + uptoBulkAll r
def uptoBulkEntries {H : Type} : List (Lit × DataW H) → Nat
  | [] => 0
  | x :: r => uptoBulkEntry x + uptoBulkEntries r
def uptoBulkEntry {H : Type} : Lit × DataW H → Nat
  | (.string bytes, d) => bytes.length + uptoBulk d + 1
  | (_, d) => uptoBulk d + 1
 end
def uptoSmall : (H : Type) → List (DataW H) → Bool := fun _ ds => decide (uptoBulkAll ds ≤ 1048576)
def OpenSpec.upto (s : _root_.Go.ChangeSpec) : _root_.Go.OpenSpec := { _root_.Go.OpenSpec.ofChange s with cond := some uptoSmall }

/-- 'laws.FnTestRobust', WHERE WHAT IT READS IS OF BULK AT MOST 1048576: true; the input reads as it did. -/
def fnTestRobustUptoRow : OpenClaim := { program := "ytjcmfddobaplbaagreat", sum := "6cfa1afb037f8548393eec49adf3032e2338e6d0d977956f3828aef5d468a55d", func := "loop.example/weakmemory/laws.FnTestRobust", spec := "fnTestRobust", unfollowed := true, recurses := true, apart := false, narrowed := true }
def FnTestRobustUptoSaid : Prop := fnTestRobustUptoRow.holds Tryz.pinned (OpenSpec.upto fnTestRobustSpec)

/-- 'laws.FnTestMachines', WHERE WHAT IT READS IS OF BULK AT MOST 1048576: true; the input reads as it did. -/
def fnTestMachinesUptoRow : OpenClaim := { program := "ytjcmfddobaplbaagreat", sum := "6cfa1afb037f8548393eec49adf3032e2338e6d0d977956f3828aef5d468a55d", func := "loop.example/weakmemory/laws.FnTestMachines", spec := "fnTestMachines", unfollowed := true, recurses := true, apart := false, narrowed := true }
def FnTestMachinesUptoSaid : Prop := fnTestMachinesUptoRow.holds Tryz.pinned (OpenSpec.upto fnTestMachinesSpec)

/-- 'laws.FnTurnThreads', WHERE WHAT IT READS IS OF BULK AT MOST 1048576: true; the input reads as it did. -/
def fnTurnThreadsUptoRow : OpenClaim := { program := "ytjcmfddobaplbaagreat", sum := "6cfa1afb037f8548393eec49adf3032e2338e6d0d977956f3828aef5d468a55d", func := "loop.example/weakmemory/laws.FnTurnThreads", spec := "fnTurnThreads", unfollowed := true, recurses := true, apart := false, narrowed := true }
def FnTurnThreadsUptoSaid : Prop := fnTurnThreadsUptoRow.holds Tryz.pinned (OpenSpec.upto fnTurnThreadsSpec)

/-- 'laws.FnTurnLocs', WHERE WHAT IT READS IS OF BULK AT MOST 1048576: true; the input reads as it did. -/
def fnTurnLocsUptoRow : OpenClaim := { program := "ytjcmfddobaplbaagreat", sum := "6cfa1afb037f8548393eec49adf3032e2338e6d0d977956f3828aef5d468a55d", func := "loop.example/weakmemory/laws.FnTurnLocs", spec := "fnTurnLocs", unfollowed := true, recurses := true, apart := false, narrowed := true }
def FnTurnLocsUptoSaid : Prop := fnTurnLocsUptoRow.holds Tryz.pinned (OpenSpec.upto fnTurnLocsSpec)

/-- 'laws.FnCanReorder', WHERE WHAT IT READS IS OF BULK AT MOST 1048576: true; the input reads as it did. -/
def fnCanReorderUptoRow : OpenClaim := { program := "ytjcmfddobaplbaagreat", sum := "6cfa1afb037f8548393eec49adf3032e2338e6d0d977956f3828aef5d468a55d", func := "loop.example/weakmemory/laws.FnCanReorder", spec := "fnCanReorder", unfollowed := true, recurses := true, apart := false, narrowed := true }
def FnCanReorderUptoSaid : Prop := fnCanReorderUptoRow.holds Tryz.pinned (OpenSpec.upto fnCanReorderSpec)

/-- 'laws.FnTellsApart', WHERE WHAT IT READS IS OF BULK AT MOST 1048576: true; the input reads as it did. -/
def fnTellsApartUptoRow : OpenClaim := { program := "ytjcmfddobaplbaagreat", sum := "6cfa1afb037f8548393eec49adf3032e2338e6d0d977956f3828aef5d468a55d", func := "loop.example/weakmemory/laws.FnTellsApart", spec := "fnTellsApart", unfollowed := true, recurses := true, apart := false, narrowed := true }
def FnTellsApartUptoSaid : Prop := fnTellsApartUptoRow.holds Tryz.pinned (OpenSpec.upto fnTellsApartSpec)

/-- 'laws.FnExactTellsApart', WHERE WHAT IT READS IS OF BULK AT MOST 1048576: true; the input reads as it did. -/
def fnExactTellsApartUptoRow : OpenClaim := { program := "ytjcmfddobaplbaagreat", sum := "6cfa1afb037f8548393eec49adf3032e2338e6d0d977956f3828aef5d468a55d", func := "loop.example/weakmemory/laws.FnExactTellsApart", spec := "fnExactTellsApart", unfollowed := true, recurses := true, apart := false, narrowed := true }
def FnExactTellsApartUptoSaid : Prop := fnExactTellsApartUptoRow.holds Tryz.pinned (OpenSpec.upto fnExactTellsApartSpec)

/-- 'laws.FnExactFirstTest', WHERE WHAT IT READS IS OF BULK AT MOST 1048576: true; the input reads as it did. -/
def fnExactFirstTestUptoRow : OpenClaim := { program := "ytjcmfddobaplbaagreat", sum := "6cfa1afb037f8548393eec49adf3032e2338e6d0d977956f3828aef5d468a55d", func := "loop.example/weakmemory/laws.FnExactFirstTest", spec := "fnExactFirstTest", unfollowed := true, recurses := true, apart := false, narrowed := true }
def FnExactFirstTestUptoSaid : Prop := fnExactFirstTestUptoRow.holds Tryz.pinned (OpenSpec.upto fnExactFirstTestSpec)

/-- 'laws.FnFirstTest', WHERE WHAT IT READS IS OF BULK AT MOST 1048576: true; the input reads as it did. -/
def fnFirstTestUptoRow : OpenClaim := { program := "ytjcmfddobaplbaagreat", sum := "6cfa1afb037f8548393eec49adf3032e2338e6d0d977956f3828aef5d468a55d", func := "loop.example/weakmemory/laws.FnFirstTest", spec := "fnFirstTest", unfollowed := true, recurses := true, apart := false, narrowed := true }
def FnFirstTestUptoSaid : Prop := fnFirstTestUptoRow.holds Tryz.pinned (OpenSpec.upto fnFirstTestSpec)

end Rows
end Go.Proofs.YtjcmfddobaplbaaGreat
