/-
 PROVED: spec.l1Mutate computes the function over plain values. No conditions.
-/
import Derived.Test.YtlmjnhnpahicmaaMu
import Derived.Test.YtlmjnhnpahicmaaMud
import Derived.Test.YtlmjnhnpahicmaaSQ1
namespace Go.Proofs.Ytlmjnhnpahicmaa
open Go.RowKit
set_option maxRecDepth 100000
end Go.Proofs.Ytlmjnhnpahicmaa
