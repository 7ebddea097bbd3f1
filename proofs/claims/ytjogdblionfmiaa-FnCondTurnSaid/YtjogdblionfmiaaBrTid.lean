/-
  impl.TurnThreads as a function over plain values. Plain definitions. No conditions.
-/
import Derived.Test.YtjogdblionfmiaaBr2
import Derived.Test.YtjogdblionfmiaaTurn
namespace Go.Proofs.Ytjogdblionfmiaa
open Go.RowKit
def F_impl_TurnThreads (p : List (List Ximpl_Instr)) (i k : Int) : Option (List (List Ximpl_Instr) × Bool) := gd (decide (p.length ≤ 1048576 ∧ total p ≤ 1048576)) (some (ofP (turnR (toP p) i k).1, (turnR (toP p) i k).2))
end Go.Proofs.Ytjogdblionfmiaa
