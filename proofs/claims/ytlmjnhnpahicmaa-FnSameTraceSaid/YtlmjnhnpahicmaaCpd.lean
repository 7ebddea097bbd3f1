/-
 The size of a program. Plain definitions. No conditions.
-/
import Derived.Test.YtlmjnhnpahicmaaSt
namespace Go.Proofs.Ytlmjnhnpahicmaa
open Go.RowKit
def fitsP (p:List (List ZIn)):Bool:=decide (p.length<=1048576)&&p.all fun r=>decide (r.length<=1048576)
end Go.Proofs.Ytlmjnhnpahicmaa
