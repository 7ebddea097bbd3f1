/-
 spec.l1Mutate as a function over plain values. Plain definitions. No conditions.
-/
import Derived.Test.YtlmjnhnpahicmaaSQd
import Derived.Test.YtlmjnhnpahicmaaCpd
namespace Go.Proofs.Ytlmjnhnpahicmaa
open Go.RowKit
end Go.Proofs.Ytlmjnhnpahicmaa
