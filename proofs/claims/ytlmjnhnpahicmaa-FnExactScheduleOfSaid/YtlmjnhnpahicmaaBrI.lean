/-
 The program's instructions as plain ones. Plain definitions. No conditions.
-/
import Derived.Test.YtlmjnhnpahicmaaSt
import Derived.Test.YtlmjnhnpahicmaaGD
namespace Go.Proofs.Ytlmjnhnpahicmaa
open Go.RowKit
def toIns (x:ZIn):Ins:=⟨x.Op,x.Loc,x.Reg,x.Val⟩
theorem total_map {α β:Type} (e:α->β) (p:List (List α)):total (p.map fun r=>r.map e)=total p:=by
 unfold total
 rw [List.map_map]
 congr 1
 exact List.map_congr_left fun r _=>List.length_map _
end Go.Proofs.Ytlmjnhnpahicmaa
