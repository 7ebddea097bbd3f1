/-
  No cell of these rows narrows 'for every input' (looked for: loops, veiled, ifaces, maps, wideKeys, modest, calm, conditions, laid).
  DERIVED. THE GIVEN ROWS OF THIS SEAT. 8 by the template 'for every input the law returns true; each argument reads behind the call as it read before'; 0 by the template 'total and deterministic' (their statements: YtlmjnhnpahicmaaTotals.lean).
  GIVEN WITH THE SEED: the statements are not yours to turn. If you find one false, say at which input.
  Laid BY PROGRAM, IN A SANDBOX (cutbox-rows.mjs): the forced cells as the released guide's own fill.sh prints them over the translation ea144a6a781ddbab… (all of the seat's roots in one cut). By AI agents, Wed Nov 11 2026. No macro, syntax, notation, axiom, sorry.
-/
import Derived.Test.YtlmjnhnpahicmaaChecked
import GoSem.Claim
import GoSem.ClaimJoined
import GoSem.ClaimMapViews
import Derived.JoinedTies
import Derived.KernelRfl
namespace Go.Proofs.Ytlmjnhnpahicmaa
/- THE CELL 'sum', in the pinned program and in every row, IS THE sha256 OF THE DUMP (.gsa) THAT YtlmjnhnpahicmaaProg.lean LOADS. Nothing in Lean hashes anything: it is a label: what it is worth is what the hold of that sum in a sandbox is worth. -/
noncomputable def Try.pinned : Pinned := { name := "ytlmjnhnpahicmaa", sum := "ea144a6a781ddbabf2913bc248ce66b8e3c31da69b080c9db5536c91bb7cf44c", checked := Try.checked }
namespace Rows
def none {H : Type} : Left H := { results := [], args := [] }

/-- 'laws.FnExactExecsWith': WHATEVER THE INPUT: true; the input reads as it did. -/
def fnExactExecsWithSpec : ChangeSpec := { name := "fnExactExecsWith", fn := fun _ => fun
  | [d1, d2] => { results := [.lit (.bool true)], args := [d1, d2] }
  | _ => none }
def fnExactExecsWithRow : OpenClaim := { program := "ytlmjnhnpahicmaa", sum := "ea144a6a781ddbabf2913bc248ce66b8e3c31da69b080c9db5536c91bb7cf44c", func := "loop.example/weakmemory/laws.FnExactExecsWith", spec := "fnExactExecsWith", unfollowed := true, recurses := true, plainKeys := false, apart := false }
def FnExactExecsWithSaid : Prop := fnExactExecsWithRow.holds Try.pinned (OpenSpec.ofChange fnExactExecsWithSpec)

/-- ITS FALSE NEIGHBOUR: 'it returns false'. Refute it at one input. -/
def fnExactExecsWithWrong : ChangeSpec := { name := "fnExactExecsWith", fn := fun _ => fun
  | [d1, d2] => { results := [.lit (.bool false)], args := [d1, d2] }
  | _ => none }
def FnExactExecsWithWrongFalsely : Prop := fnExactExecsWithRow.holds Try.pinned (OpenSpec.ofChange fnExactExecsWithWrong)

/-- 'laws.FnExactScheduleOf': WHATEVER THE INPUT: true; the input reads as it did. -/
def fnExactScheduleOfSpec : ChangeSpec := { name := "fnExactScheduleOf", fn := fun _ => fun
  | [d1, d2] => { results := [.lit (.bool true)], args := [d1, d2] }
  | _ => none }
def fnExactScheduleOfRow : OpenClaim := { program := "ytlmjnhnpahicmaa", sum := "ea144a6a781ddbabf2913bc248ce66b8e3c31da69b080c9db5536c91bb7cf44c", func := "loop.example/weakmemory/laws.FnExactScheduleOf", spec := "fnExactScheduleOf", unfollowed := true, recurses := true, plainKeys := false, apart := false }
def FnExactScheduleOfSaid : Prop := fnExactScheduleOfRow.holds Try.pinned (OpenSpec.ofChange fnExactScheduleOfSpec)

/-- ITS FALSE NEIGHBOUR: 'it returns false'. Refute it at one input. -/
def fnExactScheduleOfWrong : ChangeSpec := { name := "fnExactScheduleOf", fn := fun _ => fun
  | [d1, d2] => { results := [.lit (.bool false)], args := [d1, d2] }
  | _ => none }
def FnExactScheduleOfWrongFalsely : Prop := fnExactScheduleOfRow.holds Try.pinned (OpenSpec.ofChange fnExactScheduleOfWrong)

/-- 'laws.FnExactSameTrace': WHATEVER THE INPUT: true; the input reads as it did. -/
def fnExactSameTraceSpec : ChangeSpec := { name := "fnExactSameTrace", fn := fun _ => fun
  | [d1, d2, d3] => { results := [.lit (.bool true)], args := [d1, d2, d3] }
  | _ => none }
def fnExactSameTraceRow : OpenClaim := { program := "ytlmjnhnpahicmaa", sum := "ea144a6a781ddbabf2913bc248ce66b8e3c31da69b080c9db5536c91bb7cf44c", func := "loop.example/weakmemory/laws.FnExactSameTrace", spec := "fnExactSameTrace", unfollowed := true, recurses := true, plainKeys := false, apart := false }
def FnExactSameTraceSaid : Prop := fnExactSameTraceRow.holds Try.pinned (OpenSpec.ofChange fnExactSameTraceSpec)

/-- ITS FALSE NEIGHBOUR: 'it returns false'. Refute it at one input. -/
def fnExactSameTraceWrong : ChangeSpec := { name := "fnExactSameTrace", fn := fun _ => fun
  | [d1, d2, d3] => { results := [.lit (.bool false)], args := [d1, d2, d3] }
  | _ => none }
def FnExactSameTraceWrongFalsely : Prop := fnExactSameTraceRow.holds Try.pinned (OpenSpec.ofChange fnExactSameTraceWrong)

/-- 'laws.FnExactExecOf': WHATEVER THE INPUT: true; the input reads as it did. -/
def fnExactExecOfSpec : ChangeSpec := { name := "fnExactExecOf", fn := fun _ => fun
  | [d1, d2] => { results := [.lit (.bool true)], args := [d1, d2] }
  | _ => none }
def fnExactExecOfRow : OpenClaim := { program := "ytlmjnhnpahicmaa", sum := "ea144a6a781ddbabf2913bc248ce66b8e3c31da69b080c9db5536c91bb7cf44c", func := "loop.example/weakmemory/laws.FnExactExecOf", spec := "fnExactExecOf", unfollowed := true, recurses := true, plainKeys := false, apart := false }
def FnExactExecOfSaid : Prop := fnExactExecOfRow.holds Try.pinned (OpenSpec.ofChange fnExactExecOfSpec)

/-- ITS FALSE NEIGHBOUR: 'it returns false'. Refute it at one input. -/
def fnExactExecOfWrong : ChangeSpec := { name := "fnExactExecOf", fn := fun _ => fun
  | [d1, d2] => { results := [.lit (.bool false)], args := [d1, d2] }
  | _ => none }
def FnExactExecOfWrongFalsely : Prop := fnExactExecOfRow.holds Try.pinned (OpenSpec.ofChange fnExactExecOfWrong)

/-- 'laws.FnTraceSwap': WHATEVER THE INPUT: true; the input reads as it did. -/
def fnTraceSwapSpec : ChangeSpec := { name := "fnTraceSwap", fn := fun _ => fun
  | [d1, d2] => { results := [.lit (.bool true)], args := [d1, d2] }
  | _ => none }
def fnTraceSwapRow : OpenClaim := { program := "ytlmjnhnpahicmaa", sum := "ea144a6a781ddbabf2913bc248ce66b8e3c31da69b080c9db5536c91bb7cf44c", func := "loop.example/weakmemory/laws.FnTraceSwap", spec := "fnTraceSwap", unfollowed := true, recurses := true, plainKeys := false, apart := false }
def FnTraceSwapSaid : Prop := fnTraceSwapRow.holds Try.pinned (OpenSpec.ofChange fnTraceSwapSpec)

/-- ITS FALSE NEIGHBOUR: 'it returns false'. Refute it at one input. -/
def fnTraceSwapWrong : ChangeSpec := { name := "fnTraceSwap", fn := fun _ => fun
  | [d1, d2] => { results := [.lit (.bool false)], args := [d1, d2] }
  | _ => none }
def FnTraceSwapWrongFalsely : Prop := fnTraceSwapRow.holds Try.pinned (OpenSpec.ofChange fnTraceSwapWrong)

/-- 'laws.FnExactLeastSchedule': WHATEVER THE INPUT: true; the input reads as it did. -/
def fnExactLeastScheduleSpec : ChangeSpec := { name := "fnExactLeastSchedule", fn := fun _ => fun
  | [d1, d2] => { results := [.lit (.bool true)], args := [d1, d2] }
  | _ => none }
def fnExactLeastScheduleRow : OpenClaim := { program := "ytlmjnhnpahicmaa", sum := "ea144a6a781ddbabf2913bc248ce66b8e3c31da69b080c9db5536c91bb7cf44c", func := "loop.example/weakmemory/laws.FnExactLeastSchedule", spec := "fnExactLeastSchedule", unfollowed := true, recurses := true, plainKeys := false, apart := false }
def FnExactLeastScheduleSaid : Prop := fnExactLeastScheduleRow.holds Try.pinned (OpenSpec.ofChange fnExactLeastScheduleSpec)

/-- ITS FALSE NEIGHBOUR: 'it returns false'. Refute it at one input. -/
def fnExactLeastScheduleWrong : ChangeSpec := { name := "fnExactLeastSchedule", fn := fun _ => fun
  | [d1, d2] => { results := [.lit (.bool false)], args := [d1, d2] }
  | _ => none }
def FnExactLeastScheduleWrongFalsely : Prop := fnExactLeastScheduleRow.holds Try.pinned (OpenSpec.ofChange fnExactLeastScheduleWrong)

/-- 'laws.FnSameTrace': WHATEVER THE INPUT: true; the input reads as it did. -/
def fnSameTraceSpec : ChangeSpec := { name := "fnSameTrace", fn := fun _ => fun
  | [d] => { results := [.lit (.bool true)], args := [d] }
  | _ => none }
def fnSameTraceRow : OpenClaim := { program := "ytlmjnhnpahicmaa", sum := "ea144a6a781ddbabf2913bc248ce66b8e3c31da69b080c9db5536c91bb7cf44c", func := "loop.example/weakmemory/laws.FnSameTrace", spec := "fnSameTrace", unfollowed := true, recurses := true, plainKeys := false, apart := false }
def FnSameTraceSaid : Prop := fnSameTraceRow.holds Try.pinned (OpenSpec.ofChange fnSameTraceSpec)

/-- ITS FALSE NEIGHBOUR: 'it returns false'. Refute it at one input. -/
def fnSameTraceWrong : ChangeSpec := { name := "fnSameTrace", fn := fun _ => fun
  | [d] => { results := [.lit (.bool false)], args := [d] }
  | _ => none }
def FnSameTraceWrongFalsely : Prop := fnSameTraceRow.holds Try.pinned (OpenSpec.ofChange fnSameTraceWrong)

/-- 'laws.FnLeastSchedule': WHATEVER THE INPUT: true; the input reads as it did. -/
def fnLeastScheduleSpec : ChangeSpec := { name := "fnLeastSchedule", fn := fun _ => fun
  | [d] => { results := [.lit (.bool true)], args := [d] }
  | _ => none }
def fnLeastScheduleRow : OpenClaim := { program := "ytlmjnhnpahicmaa", sum := "ea144a6a781ddbabf2913bc248ce66b8e3c31da69b080c9db5536c91bb7cf44c", func := "loop.example/weakmemory/laws.FnLeastSchedule", spec := "fnLeastSchedule", unfollowed := true, recurses := true, plainKeys := false, apart := false }
def FnLeastScheduleSaid : Prop := fnLeastScheduleRow.holds Try.pinned (OpenSpec.ofChange fnLeastScheduleSpec)

/-- ITS FALSE NEIGHBOUR: 'it returns false'. Refute it at one input. -/
def fnLeastScheduleWrong : ChangeSpec := { name := "fnLeastSchedule", fn := fun _ => fun
  | [d] => { results := [.lit (.bool false)], args := [d] }
  | _ => none }
def FnLeastScheduleWrongFalsely : Prop := fnLeastScheduleRow.holds Try.pinned (OpenSpec.ofChange fnLeastScheduleWrong)

/- THE SECOND FORM. 'bulk': how many values and letters a reading holds, each counted each time it is reached (what is shared counts as often as it is met; a slice's spare places count too). A statement '..UptoSaid' is the law's where the arguments, and the package variables that the reading takes, are together of bulk at most 1048576: NARROWER than '..Said'. Prove '..Said' where nothing that the law and all that it calls make is longer than what came in: it says more and counts as full. Else prove '..UptoSaid'. A law counts once. -/
mutual
def uptoBulk {H : Type} : DataW H → Nat
  | .lit (.string bytes) => bytes.length + 1
  | .lit _ => 1
  | .nil => 1
  | .ptr d => uptoBulk d + 1
  | .slice elems spare => uptoBulkAll elems + uptoBulkAll spare + 1
  | .agg parts => uptoBulkAll parts + 1
  | .iface _ d => uptoBulk d + 1
  | .map entries => uptoBulkEntries entries + 1
  | .held _ => 1
def uptoBulkAll {H : Type} : List (DataW H) → Nat
  | [] => 0
  | d :: r => uptoBulk d + uptoBulkAll r
def uptoBulkEntries {H : Type} : List (Lit × DataW H) → Nat
  | [] => 0
  | x :: r => uptoBulkEntry x + uptoBulkEntries r
def uptoBulkEntry {H : Type} : Lit × DataW H → Nat
  | (.string bytes, d) => bytes.length + uptoBulk d + 1
  | (_, d) => uptoBulk d + 1
 end
def uptoSmall : (H : Type) → List (DataW H) → Bool := fun _ ds => decide (uptoBulkAll ds ≤ 1048576)
def OpenSpec.upto (s : _root_.Go.ChangeSpec) : _root_.Go.OpenSpec := { _root_.Go.OpenSpec.ofChange s with cond := some uptoSmall }

/-- 'laws.FnExactExecsWith', WHERE WHAT IT READS IS OF BULK AT MOST 1048576: true; the input reads as it did. -/
def fnExactExecsWithUptoRow : OpenClaim := { program := "ytlmjnhnpahicmaa", sum := "ea144a6a781ddbabf2913bc248ce66b8e3c31da69b080c9db5536c91bb7cf44c", func := "loop.example/weakmemory/laws.FnExactExecsWith", spec := "fnExactExecsWith", unfollowed := true, recurses := true, plainKeys := false, apart := false, narrowed := true }
def FnExactExecsWithUptoSaid : Prop := fnExactExecsWithUptoRow.holds Try.pinned (OpenSpec.upto fnExactExecsWithSpec)

/-- 'laws.FnExactScheduleOf', WHERE WHAT IT READS IS OF BULK AT MOST 1048576: true; the input reads as it did. -/
def fnExactScheduleOfUptoRow : OpenClaim := { program := "ytlmjnhnpahicmaa", sum := "ea144a6a781ddbabf2913bc248ce66b8e3c31da69b080c9db5536c91bb7cf44c", func := "loop.example/weakmemory/laws.FnExactScheduleOf", spec := "fnExactScheduleOf", unfollowed := true, recurses := true, plainKeys := false, apart := false, narrowed := true }
def FnExactScheduleOfUptoSaid : Prop := fnExactScheduleOfUptoRow.holds Try.pinned (OpenSpec.upto fnExactScheduleOfSpec)

/-- 'laws.FnExactSameTrace', WHERE WHAT IT READS IS OF BULK AT MOST 1048576: true; the input reads as it did. -/
def fnExactSameTraceUptoRow : OpenClaim := { program := "ytlmjnhnpahicmaa", sum := "ea144a6a781ddbabf2913bc248ce66b8e3c31da69b080c9db5536c91bb7cf44c", func := "loop.example/weakmemory/laws.FnExactSameTrace", spec := "fnExactSameTrace", unfollowed := true, recurses := true, plainKeys := false, apart := false, narrowed := true }
def FnExactSameTraceUptoSaid : Prop := fnExactSameTraceUptoRow.holds Try.pinned (OpenSpec.upto fnExactSameTraceSpec)

/-- 'laws.FnExactExecOf', WHERE WHAT IT READS IS OF BULK AT MOST 1048576: true; the input reads as it did. -/
def fnExactExecOfUptoRow : OpenClaim := { program := "ytlmjnhnpahicmaa", sum := "ea144a6a781ddbabf2913bc248ce66b8e3c31da69b080c9db5536c91bb7cf44c", func := "loop.example/weakmemory/laws.FnExactExecOf", spec := "fnExactExecOf", unfollowed := true, recurses := true, plainKeys := false, apart := false, narrowed := true }
def FnExactExecOfUptoSaid : Prop := fnExactExecOfUptoRow.holds Try.pinned (OpenSpec.upto fnExactExecOfSpec)

/-- 'laws.FnTraceSwap', WHERE WHAT IT READS IS OF BULK AT MOST 1048576: true; the input reads as it did. -/
def fnTraceSwapUptoRow : OpenClaim := { program := "ytlmjnhnpahicmaa", sum := "ea144a6a781ddbabf2913bc248ce66b8e3c31da69b080c9db5536c91bb7cf44c", func := "loop.example/weakmemory/laws.FnTraceSwap", spec := "fnTraceSwap", unfollowed := true, recurses := true, plainKeys := false, apart := false, narrowed := true }
def FnTraceSwapUptoSaid : Prop := fnTraceSwapUptoRow.holds Try.pinned (OpenSpec.upto fnTraceSwapSpec)

/-- 'laws.FnExactLeastSchedule', WHERE WHAT IT READS IS OF BULK AT MOST 1048576: true; the input reads as it did. -/
def fnExactLeastScheduleUptoRow : OpenClaim := { program := "ytlmjnhnpahicmaa", sum := "ea144a6a781ddbabf2913bc248ce66b8e3c31da69b080c9db5536c91bb7cf44c", func := "loop.example/weakmemory/laws.FnExactLeastSchedule", spec := "fnExactLeastSchedule", unfollowed := true, recurses := true, plainKeys := false, apart := false, narrowed := true }
def FnExactLeastScheduleUptoSaid : Prop := fnExactLeastScheduleUptoRow.holds Try.pinned (OpenSpec.upto fnExactLeastScheduleSpec)

/-- 'laws.FnSameTrace', WHERE WHAT IT READS IS OF BULK AT MOST 1048576: true; the input reads as it did. -/
def fnSameTraceUptoRow : OpenClaim := { program := "ytlmjnhnpahicmaa", sum := "ea144a6a781ddbabf2913bc248ce66b8e3c31da69b080c9db5536c91bb7cf44c", func := "loop.example/weakmemory/laws.FnSameTrace", spec := "fnSameTrace", unfollowed := true, recurses := true, plainKeys := false, apart := false, narrowed := true }
def FnSameTraceUptoSaid : Prop := fnSameTraceUptoRow.holds Try.pinned (OpenSpec.upto fnSameTraceSpec)

/-- 'laws.FnLeastSchedule', WHERE WHAT IT READS IS OF BULK AT MOST 1048576: true; the input reads as it did. -/
def fnLeastScheduleUptoRow : OpenClaim := { program := "ytlmjnhnpahicmaa", sum := "ea144a6a781ddbabf2913bc248ce66b8e3c31da69b080c9db5536c91bb7cf44c", func := "loop.example/weakmemory/laws.FnLeastSchedule", spec := "fnLeastSchedule", unfollowed := true, recurses := true, plainKeys := false, apart := false, narrowed := true }
def FnLeastScheduleUptoSaid : Prop := fnLeastScheduleUptoRow.holds Try.pinned (OpenSpec.upto fnLeastScheduleSpec)

end Rows
end Go.Proofs.Ytlmjnhnpahicmaa
