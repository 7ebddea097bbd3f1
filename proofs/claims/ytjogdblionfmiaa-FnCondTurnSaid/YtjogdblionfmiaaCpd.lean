/-
  The size of a program. Plain definitions. No conditions.
-/
import Derived.Test.YtjogdblionfmiaaSt
namespace Go.Proofs.Ytjogdblionfmiaa
open Go.RowKit
/-- a program of a size at hand -/
def fitsP (p : List (List Ximpl_Instr)) : Bool := decide (p.length ≤ 1048576) && p.all fun r => decide (r.length ≤ 1048576)
end Go.Proofs.Ytjogdblionfmiaa
