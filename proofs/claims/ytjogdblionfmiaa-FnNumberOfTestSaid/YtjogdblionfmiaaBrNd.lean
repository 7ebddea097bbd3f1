/-
  impl.NumberOfTest as a function over plain values. Plain definition. No conditions.
-/
import Derived.Test.YtjogdblionfmiaaSt
import Derived.Test.YtjogdblionfmiaaNumber
namespace Go.Proofs.Ytjogdblionfmiaa
open Go.RowKit
def toIns (x : Ximpl_Instr) : Ins := ⟨x.Op, x.Loc, x.Reg, x.Val⟩
def F_impl_NumberOfTest (p : List (List Ximpl_Instr)) : Option (Int × Bool) := gd (decide (p.length ≤ 1048576 ∧ total p ≤ 1048576)) (some (numR (p.map fun r => r.map toIns)))
end Go.Proofs.Ytjogdblionfmiaa
