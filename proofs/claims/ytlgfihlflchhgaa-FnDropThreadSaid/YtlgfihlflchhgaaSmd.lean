/-
 Small programs. Plain definitions. No conditions.
-/
import Derived.Test.YtlgfihlflchhgaaSt
namespace Go.Proofs.Ytlgfihlflchhgaa
open Go.RowKit
def smI (x:ZIn):Bool:=decide ((-1<=x.Op/\x.Op<=6)/\(-1<=x.Loc/\x.Loc<=3)/\(-1<=x.Reg/\x.Reg<=3)/\(-1<=x.Val/\x.Val<=4))
def smP (p:List (List ZIn)):Bool:=decide (p.length<=4)&&p.all fun r=>decide (r.length<=8)&&r.all smI
end Go.Proofs.Ytlgfihlflchhgaa
