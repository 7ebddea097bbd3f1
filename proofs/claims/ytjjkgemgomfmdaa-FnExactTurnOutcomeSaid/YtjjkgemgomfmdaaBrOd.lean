/-
  OutcomeValid as a function over plain values. Plain definitions. No conditions.
-/
import Derived.Test.YtjjkgemgomfmdaaBrNd
import Derived.Test.YtjjkgemgomfmdaaOutc
namespace Go.Proofs.Ytjjkgemgomfmdaa
open Go.RowKit
def F_impl_OutcomeValid (p : List (List Ximpl_Instr)) (o : List Int) : Option Bool := gd (decide (p.length ≤ 1048576 ∧ total p ≤ 1048576 ∧ o.length ≤ 1048576)) (some (outB (p.map fun r => r.map toIns) o))
def F_spec_OutcomeValid (p : List (List Ximpl_Instr)) (o : List Int) : Option Bool := gd (decide (p.length ≤ 1048576 ∧ total p ≤ 1048576 ∧ o.length ≤ 1048576)) (some (outB (p.map fun r => r.map toIns) o))
end Go.Proofs.Ytjjkgemgomfmdaa
