/-
 PROVED: spec.l1Copy hands back its argument in memory of its own. No conditions.
-/
import Derived.Test.YtlmjnhnpahicmaaCpd
import Derived.Test.YtlmjnhnpahicmaaSf
import Derived.Test.YtlmjnhnpahicmaaGC
namespace Go.Proofs.Ytlmjnhnpahicmaa
open Go.RowKit
set_option maxRecDepth 100000
theorem NK.row {r o:Option ABlk} {K:AH} {gh:NG} {w:Nat} {ty:TypeId} {f:ZIn->List AV} {l:List (List ZIn)} (h:NK 2 (r::o::K) gh w ty f l) {i:Nat} (hi:i<l.length):∃ g k v,gh i=(g,k+2,v)/\k<K.length/\K[k]? = some (bE g v w ty ((l.getD i []).map f))/\(g=true->l.getD i []=[]):=by
 obtain ⟨h1,h2⟩:=h.at_ i hi
 have h3:=h.nil_ i hi
 generalize he:gh i=x at h1 h2 h3
 obtain ⟨g,id,v⟩:=x
 simp only at h1 h2 h3
 obtain ⟨k,rfl⟩:∃ k,id=k+2:=⟨id-2,by omega⟩
 simp only [List.getElem?_cons_succ] at h2
 exact ⟨g,k,v,rfl,(List.getElem?_eq_some_iff.1 h2).1,h2,h3⟩
end Go.Proofs.Ytlmjnhnpahicmaa
