/-
 The size of a program. Plain definitions. No conditions.
-/
import Derived.Test.YtlgfihlflchhgaaSt
namespace Go.Proofs.Ytlgfihlflchhgaa
open Go.RowKit
def fitsP (p:List (List ZIn)):Bool:=decide (p.length<=1048576)&&p.all fun r=>decide (r.length<=1048576)
end Go.Proofs.Ytlgfihlflchhgaa
