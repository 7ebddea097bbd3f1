/-
 A candidate that a call hands back to be written, in memory. Plain theorems. No conditions.
-/
import Derived.Test.YtlmjnhnpahicmaaXOwn
import Derived.Test.YtlmjnhnpahicmaaL15
namespace Go.Proofs.Ytlmjnhnpahicmaa
open Go.ChangeShapes Go.WideShapes Go.ChangeAt Go.RowKit
set_option maxRecDepth 100000
end Go.Proofs.Ytlmjnhnpahicmaa
