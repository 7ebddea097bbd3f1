/-
 The first schedule leads to the candidate, and is none behind another one that does. Plain theorems. No conditions.
-/
import Derived.Test.YtlmjnhnpahicmaaGL
import Derived.Test.YtlmjnhnpahicmaaDt7
namespace Go.Proofs.Ytlmjnhnpahicmaa
open Go.RowKit
set_option maxRecDepth 100000
section
variable {p:List (List ZIn)} {x:XS} {F:List Int}
theorem Gr.congr {F':List Int} (hF:∀ n:Int,n∈F↔n∈F') {a:Nat->Nat} {r:List Int} (h:Gr p x F a r):Gr p x F' a r:=by
 have key:∀ {a:Nat->Nat} {t:Nat},ReadyT p x F a t↔ReadyT p x F' a t:=fun {a t}=>by
  unfold ReadyT ReadyE
  refine ⟨fun h=>⟨h.1,h.2.1,fun n hn i hi hb=>h.2.2 n hn i ((hF i).2 hi) hb⟩,fun h=>⟨h.1,h.2.1,fun n hn i hi hb=>h.2.2 n hn i ((hF i).1 hi) hb⟩⟩
 induction h with
 | nil h=>exact .nil h
 | cons h hl _ ih=>exact .cons (key.1 h) (fun u hu hr=>hl u hu (key.2 hr)) ih
end
end Go.Proofs.Ytlmjnhnpahicmaa
