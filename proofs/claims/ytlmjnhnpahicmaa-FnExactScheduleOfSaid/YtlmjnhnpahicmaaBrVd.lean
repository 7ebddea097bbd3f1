/-
 ProgramValid as a function over plain values. Plain definitions. No conditions.
-/
import Derived.Test.YtlmjnhnpahicmaaBrI
import Derived.Test.YtlmjnhnpahicmaaGE
namespace Go.Proofs.Ytlmjnhnpahicmaa
open Go.RowKit
def F_impl_ProgramValid (p:List (List ZIn)):Option Bool:=gd (decide (p.length<=1048576/\total p<=1048576)) (some (validB (p.map fun r=>r.map toIns)))
def F_spec_ProgramValid (p:List (List ZIn)):Option Bool:=gd (decide (p.length<=1048576/\total p<=1048576)) (some (validB (p.map fun r=>r.map toIns)))
end Go.Proofs.Ytlmjnhnpahicmaa
