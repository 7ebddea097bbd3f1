/-
 A candidate that came in: how it reads. Plain theorems over any program. No conditions.
-/
import Derived.Test.YtlmjnhnpahicmaaRow
import Derived.Test.YtlmjnhnpahicmaaBrW
namespace Go.Proofs.Ytlmjnhnpahicmaa
open Go.RowKit Go.WideShapes Go.ChangeShapes Go.Deep
theorem rd_exec {H:Type} {enc:TypeId×Value->H} {P:Program} {w:World} {spare:Nat->Bool} {held:Bool} {t tI tS eI:TypeId} {f0 f1:Field} (ht:P.underlying t=some (.struct #[f0,f1])) (hI:P.underlying tI=some (.slice eI)) (hS:P.underlying tS=some (.slice tI)) (he:P.underlying eI=some (.int .i64))
  (h0:f0.type=tI/\f0.offset=0) (h1:f1.type=tS/\f1.offset=1) (hc:P.cellsOf t=2) (hcI:P.cellsOf tI=1) (hcS:P.cellsOf tS=1) (hce:P.cellsOf eI=1) {fuel:Nat} {cs:List Value} {x:DataW H×List MemPlace}
  (h:DataW.trod enc P w 0 spare held fuel t cs=some x):∃ v1 v2,cs=[v1,v2]/\∃ e:ZEx,Sl int1 1 w 0 w.heap.size v1 e.From/\SlSl int1 1 w 0 w.heap.size v2 e.Order:=by
 obtain ⟨xs,n,_,_,hlen,hxl,hf⟩:=DataW.trod_struct ht h
 rw [hc] at hlen
 match cs,hlen with
 | [c0,c1],_=>
  match xs,hxl with
  | [y0,y1],_=>
   have g0:=hf 0 f0 rfl
   have g1:=hf 1 f1 rfl
   rw [h0.1,h0.2,hcI] at g0
   rw [h1.1,h1.2,hcS] at g1
   obtain ⟨v1,e1,p1,s1,_⟩:=rd_slice (f:=int1) (s:=1) hce (by omega) hI (fun fuel cs x h=>rd_int he fuel cs x h) (g0.trans rfl)
   obtain ⟨v2,e2,p2,s2,_⟩:=rd_sliceS (f:=int1) (s:=1) hce (by omega) hcI hS hI (fun fuel cs x h=>rd_int he fuel cs x h) (g1.trans rfl)
   simp only [List.drop_zero,List.take_succ_cons,List.take_zero,List.drop_succ_cons,List.cons.injEq,and_true] at e1 e2
   subst e1 e2
   exact ⟨_,_,rfl,⟨p1,p2⟩,s1,s2⟩
end Go.Proofs.Ytlmjnhnpahicmaa
