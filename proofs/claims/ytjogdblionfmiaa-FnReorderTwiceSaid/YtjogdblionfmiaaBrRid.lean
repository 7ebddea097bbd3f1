/-
  impl.ReorderInstr as a function over plain values. Plain definitions. No conditions.
-/
import Derived.Test.YtjogdblionfmiaaBr2
import Derived.Test.YtjogdblionfmiaaReorder2
namespace Go.Proofs.Ytjogdblionfmiaa
open Go.RowKit
def F_impl_ReorderInstr (p : List (List Ximpl_Instr)) (t i : Int) : Option (List (List Ximpl_Instr) × Bool) := gd (decide (p.length ≤ 1048576 ∧ total p ≤ 1048576)) (some (ofP (reordR (toP p) t i).1, (reordR (toP p) t i).2))
end Go.Proofs.Ytjogdblionfmiaa
