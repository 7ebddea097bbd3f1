/-
 Plain facts for FnExactExecOf. Plain theorems. No conditions.
-/
import Derived.Test.YtlmjnhnpahicmaaDgz
import Derived.Test.YtlmjnhnpahicmaaS27d
import Derived.Test.YtlmjnhnpahicmaaXOwn2
namespace Go.Proofs.Ytlmjnhnpahicmaa
open Go.RowKit
set_option maxRecDepth 100000
end Go.Proofs.Ytlmjnhnpahicmaa
