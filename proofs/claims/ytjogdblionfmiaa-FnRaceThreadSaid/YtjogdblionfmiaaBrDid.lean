/-
  impl.DropThread as a function over plain values. Plain definitions. No conditions.
-/
import Derived.Test.YtjogdblionfmiaaBr2
import Derived.Test.YtjogdblionfmiaaDrop
namespace Go.Proofs.Ytjogdblionfmiaa
open Go.RowKit
def F_impl_DropThread (p : List (List Ximpl_Instr)) (t : Int) : Option (List (List Ximpl_Instr) × Bool) := gd (decide (p.length ≤ 1048576 ∧ total p ≤ 1048576)) (some (ofP (dropR (toP p) t).1, (dropR (toP p) t).2))
end Go.Proofs.Ytjogdblionfmiaa
