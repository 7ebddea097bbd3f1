/-
  Small programs. Plain definitions. No conditions.
-/
import Derived.Test.YtjogdblionfmiaaSt
namespace Go.Proofs.Ytjogdblionfmiaa
open Go.RowKit
/-- an instruction with small numbers -/
def smI (x : Ximpl_Instr) : Bool := decide ((-1 ≤ x.Op ∧ x.Op ≤ 6) ∧ (-1 ≤ x.Loc ∧ x.Loc ≤ 3) ∧ (-1 ≤ x.Reg ∧ x.Reg ≤ 3) ∧ (-1 ≤ x.Val ∧ x.Val ≤ 4))
/-- a small program -/
def smP (p : List (List Ximpl_Instr)) : Bool := decide (p.length ≤ 4) && p.all fun r => decide (r.length ≤ 8) && r.all smI
end Go.Proofs.Ytjogdblionfmiaa
