/-
  impl.execs as a function over plain values. Plain definition. No conditions.
-/
import Derived.Test.YtjogdblionfmiaaBrVd
import Derived.Test.YtjogdblionfmiaaGE
namespace Go.Proofs.Ytjogdblionfmiaa
open Go.RowKit
def F_impl_execs (p : List (List Ximpl_Instr)) : Option Int := gd (decide (p.length ≤ 1048576 ∧ total p ≤ 1048576)) (some (cap3 (execsT (p.map fun r => r.map toIns)) : Nat))
end Go.Proofs.Ytjogdblionfmiaa
