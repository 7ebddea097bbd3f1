/-
 Conversions and comparisons of the law's own kinds. Plain theorems. No conditions.
-/
import Derived.Test.YtlmjnhnpahicmaaS26d
import Derived.Test.YtlmjnhnpahicmaaHo
namespace Go.Proofs.Ytlmjnhnpahicmaa
open Go.RowKit
set_option maxRecDepth 100000
section
variable {α β W : Type} [Inhabited α]
end
instance : DecidableEq ZIn := fun a b => decidable_of_iff (a.Op = b.Op /\ a.Loc = b.Loc /\ a.Reg = b.Reg /\ a.Val = b.Val) ⟨fun ⟨h1,h2,h3,h4⟩ => by cases a; cases b; simp only at h1 h2 h3 h4; subst h1 h2 h3 h4; rfl,fun h => by subst h; exact ⟨rfl,rfl,rfl,rfl⟩⟩
end Go.Proofs.Ytlmjnhnpahicmaa
