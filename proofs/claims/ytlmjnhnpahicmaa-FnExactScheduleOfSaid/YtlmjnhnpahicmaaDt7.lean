/-
 A schedule's outcome hangs on the candidate that it leads to only. Plain theorems. No conditions.
-/
import Derived.Test.YtlmjnhnpahicmaaGL
namespace Go.Proofs.Ytlmjnhnpahicmaa
open Go.RowKit
set_option maxRecDepth 100000
section
variable {p:List (List ZIn)} {x:XS} {F:List Int}
theorem wr_o {t k:Nat} (h:wrX (ins p t k)=true) : ¬ ((p.getD t default).getD k default).Op=4:=fun e=>by
 unfold wrX at h
 have : (ins p t k).Op=4:=e
 rw [this] at h
 cases h
theorem base_mem (R:RunOf p x F) {t k:Nat} (h:Isn p t k):(base p t k:Int)∈F:=(R.mem _).2 ⟨by omega,by have := h.ev.2;omega⟩
theorem base_memC (R:Cand p x F) {t k:Nat} (h:Isn p t k):(base p t k:Int)∈F:=(R.mem _).2 ⟨by omega,by have := h.ev.2;omega⟩
theorem list_eq {l k:List Int} (hl:l.length=k.length) (h:∀ i:Nat,i<l.length->l.getD i default=k.getD i default):l=k:=by
 apply List.ext_getElem hl
 intro i h1 h2
 have := h i h1
 rw [List.getD_eq_getElem?_getD,List.getD_eq_getElem?_getD,List.getElem?_eq_getElem h1,List.getElem?_eq_getElem h2] at this
 exact this
end
end Go.Proofs.Ytlmjnhnpahicmaa
