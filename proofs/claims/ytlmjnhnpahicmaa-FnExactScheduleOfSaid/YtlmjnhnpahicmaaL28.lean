/-
 Slices of the call's own that a callee writes; clear. Plain theorems over any program. No conditions.
-/
import Derived.Test.YtlmjnhnpahicmaaGH
namespace Go.Proofs.Ytlmjnhnpahicmaa
open Go.RowKit
set_option maxRecDepth 100000
section
variable {P:Program} {H:AH} {s:Nat} {o:Oper} {ρ:Operand->AV}
variable {α:Type} {c:α->List AV} {l:List α} {x y:Operand} {t e:TypeId} {ag:Bool} {w m b ver off len:Nat} {zs:List AV}
end
section
variable {P:Program} {H:AH}
theorem BCall.wown {f:FuncId} {as0 as:List AV} {b:Nat} {g:Bool} {ver w w':Nat} {ty ty':TypeId} {rows0 rows:List (List AV)} {mk:AV->AV} {n:Nat} (h:BCall P f as0 [bE g ver w ty rows0] (OwnR w' ty' mk n rows 0 [])) (hb:H[b]? = some (bE g ver w ty rows0))
  (has:RenL (fun c i=>[b][i]? = some c) as as0) (hk0:∀ r∈rows0,∀ a∈r,isF 9 a=true) (hk:∀ r∈rows,∀ a∈r,isF 9 a=true) (hmk:∀ (S:Nat->Nat->Prop) (a b:AV),Ren S a b->Ren S (mk a) (mk b)) :
  BCall P f as H (fun r G=>∃ g' ver',(g'=true->n=0)/\r=mk (hS g' b ver' w' n)/\G=H.set b (bE g' ver' w' ty' rows)):=by
 have hlt:b<H.length:=(List.getElem?_eq_some_iff.1 hb).1
 refine h.frameN [b] (by simp) rfl (fun i c hi => ?_) has.spec.1 has.spec.2 fun r0 G0 ⟨g',ver',hg,hr0,hG0⟩ => ?_
 ·match i with
  | 0=>
   obtain rfl:b=c:=by simpa using hi
   cases g with
   | true=>exact .inl ⟨hb,rfl⟩
   | false=>exact .inr ⟨_,_,hb,rfl,.ofF hk0⟩
  | i+1=>simp at hi
 ·subst hr0 hG0
  have key:∀ i c,sg [b] H.length i c->i<1->c=b:=fun i c hs hi=>by
   rcases hs with hs | ⟨hs,_⟩
   ·obtain rfl:i=0:=by omega
    simpa using hs.symm
   ·simp at hs
    omega
  refine ⟨_,_,⟨by simp,by simp,fun i c hi hs hn => ?_,fun i c k0 hs hk0 => ?_,fun c hc hne=>List.getElem?_set_ne (fun e=>hne (by simp [e]))⟩,hmk _ _ _ ?_,⟨g',ver',hg,rfl,rfl⟩⟩
  ·simp only [List.nil_append,List.length_singleton] at hi
   obtain rfl:=key i c hs hi
   obtain rfl:i=0:=by omega
   simp only [List.nil_append,List.getElem?_cons_zero,Option.some.injEq] at hn
   rw [List.getElem?_set_self hlt,hn]
  ·have hi:i<1:=by
    have := (List.getElem?_eq_some_iff.1 hk0).1
    simpa using this
   obtain rfl:=key i c hs hi
   obtain rfl:i=0:=by omega
   simp only [List.nil_append,List.getElem?_cons_zero,Option.some.injEq] at hk0
   refine ⟨k0,by rw [List.getElem?_set_self hlt,hk0],.ofF fun r hr a ha => ?_⟩
   cases g' with
   | true=>cases hk0
   | false=>
    obtain rfl:=Option.some.inj hk0
    exact hk r hr a ha
  ·cases g' with
   | true=>exact .nil
   | false=>exact .hs (.inl rfl)
theorem ACall.oneE {f:FuncId} {as0 as:List AV} {b:Nat} {g:Bool} {ver w:Nat} {ty:TypeId} {rows0 rows:List (List AV)} {r:AV} (h:ACall P f as0 [bE g ver w ty rows0] r [bE g ver w ty rows]) (hb:H[b]? = some (bE g ver w ty rows0))
  (has:RenL (fun c i=>[b][i]? = some c) as as0) (hk0:∀ r∈rows0,∀ a∈r,isF 9 a=true) (hk:∀ r∈rows,∀ a∈r,isF 9 a=true) (hr:isF 9 r=true):ACall P f as H r (H.set b (bE g ver w ty rows)):=by
 have hlt:b<H.length:=(List.getElem?_eq_some_iff.1 hb).1
 have h0:BCall P f as0 [bE g ver w ty rows0] (fun r' G=>r'=r/\G=[bE g ver w ty rows]):=⟨h.1,fun c vs hH hr hall=>(h.2 c vs hH hr hall).mono fun e w' ⟨v,c',h1,h2,h3,h4,h5,h6⟩=>⟨v,c',r,h1,h2,⟨rfl,h3⟩,h4,h5,h6⟩⟩
 refine BCall.acall (h0.frameN [b] (by simp) rfl (fun i c hi => ?_) has.spec.1 has.spec.2 fun r0 G0 ⟨hr0,hG0⟩ => ?_)
 ·match i with
  | 0=>
   obtain rfl:b=c:=by simpa using hi
   cases g with
   | true=>exact .inl ⟨hb,rfl⟩
   | false=>exact .inr ⟨_,_,hb,rfl,.ofF hk0⟩
  | i+1=>simp at hi
 ·subst hr0 hG0
  have key:∀ i c,sg [b] H.length i c->i<1->c=b:=fun i c hs hi=>by
   rcases hs with hs | ⟨hs,_⟩
   ·obtain rfl:i=0:=by omega
    simpa using hs.symm
   ·simp at hs
    omega
  refine ⟨_,_,⟨by simp,by simp,fun i c hi hs hn => ?_,fun i c k0 hs hk0 => ?_,fun c hc hne=>List.getElem?_set_ne (fun e=>hne (by simp [e]))⟩,ren_isF 9 _ hr,rfl,rfl⟩
  ·simp only [List.length_singleton] at hi
   obtain rfl:=key i c hs hi
   obtain rfl:i=0:=by omega
   simp only [List.getElem?_cons_zero,Option.some.injEq] at hn
   rw [List.getElem?_set_self hlt,hn]
  ·have hi:i<1:=by
    have := (List.getElem?_eq_some_iff.1 hk0).1
    simpa using this
   obtain rfl:=key i c hs hi
   obtain rfl:i=0:=by omega
   simp only [List.getElem?_cons_zero,Option.some.injEq] at hk0
   refine ⟨k0,by rw [List.getElem?_set_self hlt,hk0],.ofF fun r hr a ha => ?_⟩
   cases g with
   | true=>cases hk0
   | false=>
    obtain rfl:=Option.some.inj hk0
    exact hk r hr a ha
variable {nt b0:Nat} {Q:Exit->Env->AH->Prop} {en:List (Nat×AV)} {ops:Array Oper} {l:List Oper} {d:Tmp} {t:TypeId} {pos:String} {af:Array Edge}
end
section
variable {P:Program} {ρ:Operand->AV} {H:AH} {x y z:Operand} {t e keyT:TypeId} {ag:Bool} {w j b kn:Nat}
variable {K:Type} [DecidableEq K] {kc:K->List Value} {l:List (K×Bool)}
omit [DecidableEq K] in
end
end Go.Proofs.Ytlmjnhnpahicmaa
