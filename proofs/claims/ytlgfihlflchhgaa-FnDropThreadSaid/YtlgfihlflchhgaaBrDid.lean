/-
 impl.DropThread as a function over plain values. Plain definitions. No conditions.
-/
import Derived.Test.YtlgfihlflchhgaaBr2
import Derived.Test.YtlgfihlflchhgaaGO
namespace Go.Proofs.Ytlgfihlflchhgaa
open Go.RowKit
def F_impl_DropThread (p:List (List ZIn)) (t:Int):Option (List (List ZIn)×Bool):=gd (decide (p.length<=1048576/\total p<=1048576)) (some (ofP (dropR (toP p) t).1,(dropR (toP p) t).2))
end Go.Proofs.Ytlgfihlflchhgaa
