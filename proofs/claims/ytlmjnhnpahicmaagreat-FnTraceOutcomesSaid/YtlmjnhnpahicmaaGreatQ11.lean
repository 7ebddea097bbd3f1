/- Texts joined. No conditions. -/
import Derived.ChangeSame
import Derived.ChangeSlices
import Derived.WideKeyArgs
import Derived.Carry
import Derived.Deep.Slices
import Derived.Deep.Fields
import Derived.ProofKit
import Derived.OpenShut
import Derived.BigRegion
import Derived.Sort.Row
import Derived.Sort.Grow
import Derived.Test.YtlmjnhnpahicmaaGreatProg
import Derived.Shelf.Slices.Delete
import Derived.Shelf.SlSortCmp.NoneTotal
import Derived.Test.YtlmjnhnpahicmaaGreatQ10
namespace Go.Proofs.YtlmjnhnpahicmaaGreat
noncomputable section
open Go.RowKit
set_option maxRecDepth 100000
section
variable {P:Program} {o:Oper} {ρ ρ':Operand->AV} {H:AH} {K K':AV->AH->Prop}
theorem OpG.congr {R:AV->AH->Prop} (h:OpG P o ρ H R) (he:∀ x∈o.op.operands,ρ x=ρ' x):OpG P o ρ' H R:=
 fun c a K Q hH hr hxs hK=>h c a K Q hH hr (fun x hx=>by rw [he x hx];exact hxs x hx) hK
theorem OpG.mono {R R':AV->AH->Prop} (h:OpG P o ρ H R) (hR:∀ r G,R r G->R' r G):OpG P o ρ H R':=
 fun c a K Q hH hr hxs hK=>h c a K Q hH hr hxs fun v c' r hr1 hr2 hr3 hr4=>hK v c' r (hR _ _ hr1) hr2 hr3 hr4
theorem Lv.opG {r:AV} {H':AH} (h:Lv P o ρ H r H'):OpG P o ρ H fun r' G=>r'=r/\G=H':=
 fun c a K Q hH hr hxs hK=>h c a K Q hH hr hxs fun v c' hc hr2 hr3 hr4=>hK v c' r ⟨rfl,hc⟩ hr2 hr3 hr4
abbrev Xc:=Bool×List Nat
def agr (F:List Nat) (G H:AH):Prop:=∀ b∈F,G[b]? = H[b]?
theorem agr.a0 {b:Nat} {F:List Nat} {G H:AH} (h:agr (b::F) G H) {x:Option ABlk} (hx:H[b]? = some x):G[b]? = some x:=(h b (by simp)).trans hx
theorem agr.a1 {b c:Nat} {F:List Nat} {G H:AH} (h:agr (c::b::F) G H) {x:Option ABlk} (hx:H[b]? = some x):G[b]? = some x:=(h b (by simp)).trans hx
theorem agr.a2 {a b c:Nat} {F:List Nat} {G H:AH} (h:agr (a::c::b::F) G H) {x:Option ABlk} (hx:H[b]? = some x):G[b]? = some x:=(h b (by simp)).trans hx
def rG (W:List Nat) (H H':AH):Prop:=∀ b,b<H.length->b∉W->H'[b]? = H[b]?
theorem nG {b:Nat} {X:Option ABlk}:rG [b] H (H.set b X):=fun c _ hc=>List.getElem?_set_ne fun e=>hc (by simp [e])
theorem pO {L:AH}:rG [] H (H++L):=fun _ hb _=>gal hb
def vZ (P:Program) (o:Oper) (ρ:Operand->AV) (H:AH) (b:Xc) (K:AV->AH->Prop):Prop:=match b.1 with
 | false=>∃ r,(∀ c∈b.2,c<H.length)/\(∀ G,agr b.2 G H->Lv P o ρ G r G)/\K r H
 | true=>OpG P o ρ H fun r H'=>rG b.2 H H'/\K r H'
theorem vZ.mono {b:Xc} (h:vZ P o ρ H b K) (hK:∀ r G,K r G->K' r G):vZ P o ρ H b K':=by
 obtain ⟨b,F⟩:=b
 cases b with
 | false=>
  obtain ⟨r,h0,h1,h2⟩:=h;exact ⟨r,h0,h1,hK _ _ h2⟩
 | true=>
  show OpG P o ρ H fun r H'=>rG F H H'/\K' r H';exact OpG.mono (R:=fun r H'=>rG F H H'/\K r H') h fun r G hr=>⟨hr.1,hK _ _ hr.2⟩
theorem vZ.congr {b:Xc} (h:vZ P o ρ H b K) (he:∀ x∈o.op.operands,ρ x=ρ' x):vZ P o ρ' H b K:=by
 obtain ⟨b,F⟩:=b
 cases b with
 | false=>
  obtain ⟨r,h0,h1,h2⟩:=h;exact ⟨r,h0,fun G hG=>(h1 G hG).congr he,h2⟩
 | true=>
  show OpG P o ρ' H fun r H'=>rG F H H'/\K r H';exact OpG.congr (R:=fun r H'=>rG F H H'/\K r H') h he
theorem vZ.opG {b:Xc} (h:vZ P o ρ H b K):OpG P o ρ H K:=by
 obtain ⟨b,F⟩:=b
 cases b with
 | false=>
  obtain ⟨r,_,h1,h2⟩:=h;refine (Lv.opG (h1 H fun _ _=>rfl)).mono ?_;rintro r' G ⟨rfl,rfl⟩;exact h2
 | true=>exact OpG.mono (R:=fun r H'=>rG F H H'/\K r H') h fun r G hr=>hr.2
def Hr (a b:Xc):Bool := !b.1||a.2.all fun x => !b.2.contains x
def Hs (P:Program) (ops:Array Oper) (cls:Nat->Xc) (Q:Env->AH->Prop):Nat->Array Bool->Env->AH->Prop
 | 0,listed,e,H=>Region.ready .any ops listed=[]/\Q e H
 | fuel+1,listed,e,H=>(Region.ready .any ops listed=[]->Q e H) /\
  ∀ i∈Region.ready .any ops listed,∃ o,ops[i]? = some o/\vZ P o (rho e) H (cls i) fun r H'=>Hs P ops cls Q fuel (listed.setIfInBounds i true) (jH e o.dst r) H'
theorem DC {ops:Array Oper} {cls:Nat->Xc} {Q:Env->AH->Prop} {i:Nat} {oi:Oper} {r:AV} {F:List Nat} (hi:ops[i]? = some oi) (hci:cls i=(false,F)) :
  ∀ (fuel:Nat) (listed:Array Bool) (e:Env) (H:AH),
   (∀ (j:Nat) (oj:Oper),ops[j]? = some oj->j≠i->listed.getD j true=false->(∀ ed∈oj.after,Region.binds .any ed=true->ed.on≠i)->oi.apart ops oj=true/\Hr (cls i) (cls j)=true) ->
   i∈Region.ready .any ops listed->(∀ c∈F,c<H.length)->(∀ G,agr F G H->Lv P oi (rho e) G r G)->Hs P ops cls Q fuel (listed.setIfInBounds i true) (jH e oi.dst r) H->Hs P ops cls Q (fuel+1) listed e H:=by
 intro fuel
 induction fuel with
 | zero=>
  intro listed e H _ hr hF hy hA;refine ⟨fun h=>(by rw [h] at hr;cases hr),fun j hj=>?_⟩
  by_cases hji:j=i
  ·subst hji;exact ⟨oi,hi,by rw [hci];exact ⟨r,hF,hy,hA⟩⟩
  ·have := ready_mono hj hji;rw [hA.1] at this
   cases this
 | succ fuel ih=>
  intro listed e H hfree hr hF hy hA;refine ⟨fun h=>(by rw [h] at hr;cases hr),fun j hj=>?_⟩
  by_cases hji:j=i
  ·subst hji;exact ⟨oi,hi,by rw [hci];exact ⟨r,hF,hy,hA⟩⟩
  ·obtain ⟨oj,hoj,hsj⟩:=hA.2 j (ready_mono hj hji);obtain ⟨hjun,oj',hoj',hall⟩:=mem_ready.1 hj;rw [hoj] at hoj';injection hoj' with hoj';subst hoj';have hnot:∀ ed∈oj.after,Region.binds .any ed=true->ed.on≠i:=fun ed he hb heq=>by
    have h1:=hall ed he hb;have h0:=(mem_ready.1 hr).1;rw [heq] at h1;rcases Nat.lt_or_ge i listed.size with h' | h'
    ·simp [h'] at h0 h1;rw [h0] at h1;cases h1
    ·simp [Array.getElem?_eq_none h'] at h1
   obtain ⟨hap,hcm⟩:=hfree j oj hoj hji hjun hnot;obtain ⟨h1,h2,h3⟩:=Oper.apart_spec hap;have ej:=j4 (e:=e) (r:=r) h1;have hfree':∀ (k:Nat) (ok:Oper),ops[k]? = some ok->k≠i->(listed.setIfInBounds j true).getD k true=false->(∀ ed∈ok.after,Region.binds .any ed=true->ed.on≠i)->oi.apart ops ok=true/\Hr (cls i) (cls k)=true:=fun k ok hk hki hun hno=>by
    refine hfree k ok hk hki ?_ hno
    by_cases hjk:j=k
    ·subst hjk;exact hjun
    ·rw [getD_set_ne true hjk] at hun;exact hun
   have hsj':=hsj.congr ej;have go:∀ q Hj,(∀ c∈F,c<Hj.length)->(∀ c∈F,Hj[c]? = H[c]?)->Hs P ops cls Q fuel ((listed.setIfInBounds i true).setIfInBounds j true) (jH (jH e oi.dst r) oj.dst q) Hj->Hs P ops cls Q (fuel+1) (listed.setIfInBounds j true) (jH e oj.dst q) Hj:=fun q Hj hF' hHj hAj=>by
    have ei:=j4 (e:=e) (oi:=oj) (r:=q) h3;refine ih (listed.setIfInBounds j true) (jH e oj.dst q) Hj hfree' (ready_mono hr (Ne.symm hji)) hF' (fun G hG=>(hy G fun c hc=>(hG c hc).trans (hHj c hc)).congr fun x hx=>(ei x hx).symm) ?_;rw [Array.setIfInBounds_comm _ _ hji,oq (fun d hd=>fun hd'=>h2 d (by simpa using hd') (by simpa using hd))];exact hAj
   refine ⟨oj,hoj,?_⟩;rw [hci] at hcm;generalize cls j=cj at hsj' hcm ⊢;obtain ⟨b,W⟩:=cj
   cases b with
   | false=>
    obtain ⟨q,q0,q1,q2⟩:=hsj';exact ⟨q,q0,q1,go q H hF (fun _ _=>rfl) q2⟩
   | true=>
    simp only [Hr,Bool.not_true,Bool.false_or,List.all_eq_true,Bool.not_eq_true',List.contains_eq_mem,decide_eq_false_iff_not] at hcm;show OpG P oj (rho e) H fun r1 H1=>rG W H H1/\Hs P ops cls Q (fuel+1) (listed.setIfInBounds j true) (jH e oj.dst r1) H1;refine OpG.mono (R:=fun r1 H1=>rG W H H1/\Hs P ops cls Q fuel ((listed.setIfInBounds i true).setIfInBounds j true) (jH (jH e oi.dst r) oj.dst r1) H1) hsj' fun q Hj ⟨k1,k2⟩=>⟨k1,go q Hj (fun c hc=>?_) (fun c hc=>k1 c (hF c hc) (hcm c hc)) k2⟩;have := k1 c (hF c hc) (hcm c hc);rw [geq (hF c hc)] at this;exact (ges this).1
def Km (ops:Array Oper) (cls:Nat->Xc):List Nat->Array Bool->Bool
 | [],listed=>(Region.ready .any ops listed).isEmpty
 | i::l,listed=>(match ops[i]? with
  | some oi=>if (cls i).1 then Region.ready .any ops listed==[i] else (Region.ready .any ops listed).contains i&&(List.range ops.size).all fun j=>j==i||listed.getD j true||(match ops[j]? with
   | some oj=>(oj.after.any fun ed=>Region.binds .any ed&&ed.on==i)||(oi.apart ops oj&&Hr (cls i) (cls j))
   | none=>true)
  | none=>false)&&Km ops cls l (listed.setIfInBounds i true)
def TX (P:Program) (ops:Array Oper) (cls:Nat->Xc):List Nat->(Env->AH->Prop)->Env->AH->Prop
 | [],K,e,H=>K e H
 | i::l,K,e,H=>∃ o,ops[i]? = some o/\vZ P o (rho e) H (cls i) fun r H'=>TX P ops cls l K (jH e o.dst r) H'
theorem BB {ops:Array Oper} {cls:Nat->Xc} {Q:Env->AH->Prop}:∀ (l:List Nat) (listed:Array Bool) (e:Env) (H:AH),Km ops cls l listed=true->TX P ops cls l Q e H->Hs P ops cls Q l.length listed e H
 | [],listed,e,H,hc,h=>⟨by simpa [Km] using hc,h⟩
 | i::l,listed,e,H,hc,h=>by
  obtain ⟨oi,hi,hs⟩:=h;simp only [Km,hi,bae] at hc;obtain ⟨hc1,hc2⟩:=hc;generalize hci:cls i=ci at hc1 hs;obtain ⟨b,F⟩:=ci
  cases b with
  | true=>
   simp only [if_true,beq_iff_eq] at hc1;refine ⟨fun hn=>(by rw [hc1] at hn;cases hn),fun j hj=>?_⟩;rw [hc1,List.mem_singleton] at hj;subst hj;exact ⟨oi,hi,by rw [hci];exact vZ.mono (b:=(true,F)) hs fun r G hr=>BB l _ _ _ hc2 hr⟩
  | false=>
   obtain ⟨r,hF,hy,hK⟩:=hs;simp only [Bool.false_eq_true,if_false,bae,List.contains_eq_mem,decide_eq_true_eq,List.all_eq_true,List.mem_range] at hc1;refine DC hi hci l.length listed e H (fun j oj hj hne hun hno=>?_) hc1.1 hF hy (BB l _ _ _ hc2 hK);have hjs:j<ops.size:=(Array.getElem?_eq_some_iff.1 hj).1;have := hc1.2 j hjs;simp only [hj,hun,Bool.or_eq_true,beq_iff_eq,hne,false_or,Bool.false_eq_true,bae] at this;rw [hci];rcases this with h1 | h1
   ·rw [Array.any_eq_true'] at h1;obtain ⟨ed,h2,h3⟩:=h1;simp only [bae,beq_iff_eq] at h3;exact absurd h3.2 (hno ed h2 h3.1)
   ·exact h1
theorem xU {nt:Nat} {ops:Array Oper} {cls:Nat->Xc} {Q:Exit->Env->AH->Prop} (hd:Ap nt ops.toList=true) (hg:ops.all (fun o=>o.guard.isNone)=true):∀ (fuel:Nat) (listed:Array Bool) (e:Env) (H:AH),Hs P ops cls (Q .normal) fuel listed e H ->
  ∀ (c c0:Cx) (a:Act),c.H=H->Ext c0 c->SRel c nt e a->wpAny P .any ops (Jv nt c0 Q) fuel listed a c.w
 | 0,listed,e,H,h,c,c0,a,hH,hx,hs=>⟨h.1,trivial,c,e,rfl,hx,hs,hH ▸ h.2⟩
 | fuel+1,listed,e,H,h,c,c0,a,hH,hx,hs=>by
  refine ⟨fun hr=>⟨trivial,c,e,rfl,hx,hs,hH ▸ h.1 hr⟩,fun i hi=>?_⟩;obtain ⟨o,ho,hst⟩:=h.2 i hi;have hm:o∈ops.toList:=by rw [Array.mem_toList_iff];exact Array.mem_of_getElem? ho
  have hgn:o.guard=none:=by
   rw [Array.all_eq_true] at hg;obtain ⟨hlt,rfl⟩:=Array.getElem?_eq_some_iff.1 ho;simpa using hg i hlt
  have hw:Region.wanted o (yielded ops a.tmps)=true:=by simp [Region.wanted,hgn]
  unfold wpOp;simp only [ho];rw [if_pos hw];refine .inl (hst.opG c a _ _ hH hs.heap (fun x _=>hs.rho x) fun v c' r hA hr' hx' hv=>?_);exact xU hd hg fuel _ _ _ hA c' c0 _ rfl (hx.trans hx') (hs.put o.dst (iR hd hm) hx' hr' hv)
end
theorem EvA.mkZR {P:Program} {ρ:Operand->AV} {H:AH} {x y:Operand} {t e:TypeId} {ag:Bool} {w m:Nat} {zs:List AV} {a b:Int} {α:Type} (bl:Nat) (v:α) (q:SlT P t e ag w zs m) (hx:ρ x = .v (.int .i64 a)) (hy:ρ y = .v (.int .i64 b)) (hq:0<=a/\a<=b/\b*(m:Int)<=140737488355328/\b<=140737488355328) (hab:a=b) (hF:zs.all (isF 9)=true) (hb:H[bl]? = some none) :
  EvA P ρ (.makeSlice t x y) H (hS false bl 0 w (List.replicate a.toNat v).length) (H.set bl (bE false 0 w e (List.replicate a.toNat zs))):=fun o ho=>by
 subst hab;rw [List.length_replicate];have h:=ID (H:=H) q ho hx hy hq;refine h.at_ hb (fun r hr z hz=>?_) (.inl ⟨_,rfl,rfl⟩);rw [List.mem_replicate] at hr;rw [hr.2] at hz;exact List.all_eq_true.1 hF z hz
theorem LA.mkF0 {P:Program} {ρ:Operand->AV} {t e:TypeId} {α:Type} [Inhabited α] {f:α->List AV} {ag:Bool} {w m:Nat} {zs:List AV} {parts:Array (Nat×Operand)} (q:SlT P t e ag w zs m) (hr:iN (parts.toList.map fun p=>(ρ p.2).cells)=some [[.nil]]) (hn:(Nat.blt 0 w&&Nat.ble (1*w) 16777216&&(parts.toList.map (·.1)==List.range 1))=true) (hw:w=1) :
  LA P ρ (.buildSlice t 1 parts) (eL (cL f) [([]:List α)]):=by
 simp only [bae,beq_iff_eq] at hn;have hz:=Gy q.z (q.zl.trans q.ty.cells.symm);refine .newF ⟨0,P.cellsOf e,e,[[.nil]]⟩ (fun b => .hs b 0 (P.cellsOf e) 0 1) (fun o ho G=>iP ho q.u hr (by rw [q.ty.cells];exact nlb hn.1.1) (by rw [q.ty.cells];exact nlb hn.1.2) hn.2 hz q.z.one (fun row hrow=>by
  obtain rfl:=List.mem_singleton.1 hrow;rw [q.ty.cells,hw]
  rfl)) fun m G hG=>?_
 show Fz _ _ _ (.sl 1 _);refine .hs (k:=⟨0,P.cellsOf e,e,[[.nil]]⟩) (Nat.le_refl _) (by rw [<- hG];simp) rfl rfl (by simp) (fun i r hi hr=>?_) (fun i r j c d hi hr hc hd=>?_)
 ·obtain rfl:i=0:=by omega
  obtain rfl:=osl hr
  rfl
 ·obtain rfl:i=0:=by omega
  obtain rfl:=osl hr
  match j with
  | 0=>
   obtain rfl:=osl hc;obtain rfl:=osl hd;exact .nil0
  | j+1=>simp at hc
section
variable {P:Program} {nt b0:Nat} {Q:Exit->Env->AH->Prop} {e:Env} {H H':AH} {r:AV}
theorem T.drawX {i:Nat} {ops:Array Oper} (ord:List Nat) (cls:Nat->Xc) (hm:P.follows .mixedOrders=true) (hg:ops.all (fun o=>o.guard.isNone)=true) (hc:(Km ops cls ord (Array.replicate ops.size false)&&(ord.length==ops.size))=true) (h:TX P ops cls ord (Q .normal) e H):T P nt b0 (.region i ops true) Q e H:=by
 intro hok c c0 a hH hb hx hs;simp only [codeOk] at hok;simp only [bae,beq_iff_eq] at hc;refine wp_region_any hm ?_;have hlex:=BB ord (Array.replicate ops.size false) e H hc.1 h;have := xU hok hg ord.length _ e H hlex c.drew c0 a hH (hx.trans c.drew_ext) ⟨hs.size,hs.defers,fun t=>(hs.rel t).ext hs.heap c.drew_ext,Cx.drew_rel hs.heap⟩;rw [hc.2] at this;exact this
variable {d:Tmp} {op:Op} {ty:TypeId} {pos:String} {af:Array Edge} {en:List (Nat×AV)} {cls:Nat->Xc} {ops:Array Oper} {i:Nat} {K:Env->AH->Prop} {l:List Nat}
theorem TX.nil (h:K e H):TX P ops cls [] K e H:=h
theorem xN (h0:ops[i]? = some ⟨some d,op,ty,pos,af,none⟩) (hc:cls i=(false,[])) (hv:LA P (rho (ah en)) op r) (h:TX P ops cls l K (ah ((d,r)::en)) H):TX P ops cls (i::l) K (ah en) H:=
 ⟨_,h0,by rw [hc];exact ⟨r,fun _ h=>(by cases h),fun G _=>hv _ rfl G,h⟩⟩
theorem xR (F:List Nat) (h0:ops[i]? = some ⟨some d,op,ty,pos,af,none⟩) (hc:cls i=(false,F)) (hb:F.all (fun b=>Nat.blt b H.length)=true) (hv:∀ G,agr F G H->EvA P (rho (ah en)) op G r G) (h:TX P ops cls l K (ah ((d,r)::en)) H):TX P ops cls (i::l) K (ah en) H:=
 ⟨_,h0,by rw [hc];exact ⟨r,fun b hm=>nlb (List.all_eq_true.1 hb b hm),fun G hG=>hv G hG _ rfl,h⟩⟩
theorem xT {W:List Nat} {o:Oper} {R:AV->AH->Prop} {e:Env} (h0:ops[i]? = some o) (hc:cls i=(true,W)) (hv:OpG P o (rho e) H R) (hk:∀ r G,R r G->rG W H G/\TX P ops cls l K (jH e o.dst r) G):TX P ops cls (i::l) K e H:=by
 refine ⟨o,h0,?_⟩;rw [hc];exact OpG.mono (R':=fun r H'=>rG W H H'/\TX P ops cls l K (jH e o.dst r) H') hv hk
theorem xA {W:List Nat} (h0:ops[i]? = some ⟨some d,op,ty,pos,af,none⟩) (hc:cls i=(true,W)) (hv:EvA P (rho (ah en)) op H r H') (hk:rG W H H') (h:TX P ops cls l K (ah ((d,r)::en)) H'):TX P ops cls (i::l) K (ah en) H:=
 xT h0 hc (Lv.opG (hv ⟨some d,op,ty,pos,af,none⟩ rfl)) fun r' G hG=>by obtain ⟨e1,e2⟩:=hG;subst e1 e2;exact ⟨hk,h⟩
theorem xV {W:List Nat} (h0:ops[i]? = some ⟨none,op,ty,pos,af,none⟩) (hc:cls i=(true,W)) (hv:EvA P (rho (ah en)) op H r H') (hk:rG W H H') (h:TX P ops cls l K (ah en) H'):TX P ops cls (i::l) K (ah en) H:=
 xT h0 hc (Lv.opG (hv ⟨none,op,ty,pos,af,none⟩ rfl)) fun r' G hG=>by obtain ⟨e1,e2⟩:=hG;subst e1 e2;exact ⟨hk,h⟩
end
section
variable {α β:Type} [Inhabited β] {f:α->List Value} {s:Nat} {c:β->List AV} {w:World} {fz:Nat->Prop} {v:Value}
theorem Ik {u x:Value} (h:FRel w fz (.v u) x):x=u:=by
 cases h with
 | v _=>rfl
theorem xW {e:β->α} (hf:∀ x,c x=(f (e x)).map AV.v) (hs:∀ x,(f (e x)).length=s) {l:List β} (h:FRel w fz (eL c l) v):Sl f s w 0 w.heap.size v (l.map e):=by
 unfold eL at h
 cases h with
 | sl us hc hm ha hr hu h1 h=>
  refine ⟨_,_,by rw [List.length_map],by simpa using hc,hm,fun hn=>?_⟩;rw [List.length_map] at hn;obtain ⟨rfl,hg,hlt⟩:=ha hn;refine ⟨_,_,rfl,Nat.zero_le _,hlt,hlt,fun k hk j u hu' => ?_⟩;rw [List.length_map] at hk;rw [List.getElem_map] at hu';have hk0:l.getD k default=l[k]:=by simp [List.getD,hk]
  have hrow:(c (l.getD k default))[j]? = some (.v u):=by rw [hk0,hf,List.getElem?_map,hu'];rfl
  have hs':=hr k hk
  dsimp only at hs'
  rw [hf,List.length_map,hs] at hs';subst hs';have h2:=hu k j _ hk hrow;rw [Ik (h k j _ hk hrow)] at h2;exact h2
theorem tY {e:β->α} (hf:∀ x,c x=(f (e x)).map AV.v) (hs:∀ x,(f (e x)).length=s) {l:List (List β)} (h:FRel w fz (eL (cL c) l) v):wM f s w 0 w.heap.size v (l.map fun r=>r.map e):=by
 unfold eL at h
 cases h with
 | sl us hc hm ha hr hu h1 h=>
  refine ⟨(List.range l.length).map fun i=>us i 0,?_,by simp,fun k hk hk' => ?_⟩
  ·refine ⟨_,_,by rw [List.length_map,List.length_range],by simpa using hc,hm,fun hn=>?_⟩;rw [List.length_map,List.length_range] at hn;obtain ⟨rfl,hg,hlt⟩:=ha hn;refine ⟨_,_,rfl,Nat.zero_le _,hlt,hlt,fun k hk j u hu' => ?_⟩;rw [List.length_map,List.length_range] at hk;rw [List.getElem_map,List.getElem_range] at hu';have hs':=hr k hk;change 1=_ at hs';subst hs'
   match j with
   | 0=>
    have h2:=hu k 0 _ hk rfl;rw [h2];simpa [JU] using hu'
   | j+1=>simp [JU] at hu'
  ·rw [List.length_map,List.length_range] at hk;rw [List.getElem_map,List.getElem_map,List.getElem_range];have h2:=h k 0 _ hk rfl;have hk0:l.getD k default=l[k]:=by simp [List.getD,hk]
   rw [hk0] at h2;exact xW hf hs h2
theorem DD {e:α->β} (hf:∀ x,c (e x)=(f x).map AV.v) (hs:∀ x,(f x).length=s) (hp:∀ x,∀ u∈f x,plain u=true) {l:List α} {hi:Nat} (h:Sl f s w 0 hi v l):FRel w (fun g=>g<w.heap.size) (eL c (l.map e)) v:=by
 obtain ⟨A,cap,rfl,hc,hm,h⟩:=h;have key:∀ (g o:Nat),(0<l.length->A=some ⟨g,o,none⟩/\g<w.heap.size/\∀ (k:Nat) (h:k<l.length) (j:Nat) (u:Value),(f l[k])[j]? = some u->w.cell? ⟨g,o+k*s+j,none⟩=some u)->FRel w (fun g=>g<w.heap.size) (eL c (l.map e)) (.slice A l.length cap):=by
  intro g o hh;have hrow:∀ (i j:Nat) (a:AV),i<l.length->(c ((l.map e).getD i default))[j]? = some a->∃ u,l[i]?.bind (fun x=>(f x)[j]?)=some u/\a = .v u/\plain u=true/\w.cell? ⟨g,o+i*s+j,none⟩=some u:=by
   intro i j a hi ha;have h0:(l.map e).getD i default=e l[i]:=by simp [List.getD,hi]
   rw [h0,hf,List.getElem?_map] at ha
   cases hq:(f l[i])[j]? with
   | none=>rw [hq] at ha;cases ha
   | some u=>
    rw [hq] at ha;refine ⟨u,by rw [geq hi];exact hq,(osl ha).symm,hp _ u (List.mem_of_getElem? hq),(hh (by omega)).2.2 i hi j u hq⟩
  have e0:(l.map e).length=l.length:=by simp
  unfold eL;rw [e0];refine FRel.sl (s:=s) (g:=g) (o:=o) (fun i j=>(l[i]?.bind fun x=>(f x)[j]?).getD (.bool false)) hc hm (fun hn=>⟨(hh hn).1,(hh hn).2.1,(hh hn).2.1⟩) (fun i hi=>?_) (fun i j a hi ha=>?_) (fun i j a hi ha=>?_) (fun i j a hi ha=>?_)
  ·have h0:(l.map e).getD i default=e l[i]:=by simp [List.getD,hi]
   rw [h0,hf,List.length_map,hs]
  ·obtain ⟨u,h1,h2,h3,h4⟩:=hrow i j a hi ha;simp only [h1,Option.getD_some];exact h4
  ·obtain ⟨u,h1,h2,h3,h4⟩:=hrow i j a hi ha;simp only [h1,Option.getD_some];exact uJ h3
  ·obtain ⟨u,h1,h2,h3,h4⟩:=hrow i j a hi ha;subst h2;simp only [h1,Option.getD_some];exact .v h3
 by_cases h0:0<l.length
 ·obtain ⟨b,o,hA,_,_,hlt,hcell⟩:=h h0;exact key b o fun _=>⟨hA,hlt,hcell⟩
 ·exact key 0 0 fun h1=>absurd h1 h0
theorem yR {P:Program} {g:FuncId} {ars:List AV} {r:AV} (h:aA P g ars r) (vs:Array Value) (hl:vs.size=ars.length) (hr:∀ (i:Nat) (a:AV) (v:Value),ars[i]? = some a->vs[i]? = some v->FRel w (fun g=>g<w.heap.size) a v) :
  Calls P g vs w fun e w'=>∃ v fz',e = .returned v/\Below w.heap.size w w'/\FRel w' fz' r v:=
 (h.2 w _ vs (fun g hg=>hg) hl hr).mono fun e w' ⟨v,fz',h1,h2,h3,_⟩=>⟨v,fz',h1,h2,h3⟩
theorem K5 {a:AV} {u:Value} (h:FRel w fz a u):∀ (i:Nat) (a':AV) (v:Value),[a][i]? = some a' -> #[u][i]? = some v->FRel w fz a' v:=by
 intro i a' v h1 h2
 match i with
 | 0=>
  obtain rfl:=osl h1;obtain rfl:u=v:=by simpa using h2
  exact h
 | i+1=>simp at h1
end
theorem DF {w:World} {v:Value} {hi:Nat} {l:LI} (h:Sl Db 1 w 0 hi v l):FRel w (fun g=>g<w.heap.size) (eL cY l) v:=by
 have := DD (f:=Db) (s:=1) (c:=cY) (e:=id) (fun _=>rfl) (fun _=>rfl) (fun x u hu=>by simp [Db] at hu;subst hu;rfl) h
 rwa [List.map_id] at this
theorem BC {P:Program} {g:FuncId} {ars:List AV} {w:World} {vs:Array Value} (h:aA P g ars (Bo true)) (hl:vs.size=ars.length) (hr:∀ (i:Nat) (a:AV) (v:Value),ars[i]? = some a->vs[i]? = some v->FRel w (fun g=>g<w.heap.size) a v) :
  Calls P g vs w fun e w'=>e = .returned (.bool true)/\Below w.heap.size w w':=
 (yR h vs hl hr).mono fun e w' ⟨v,fz',h1,h2,h3⟩=>⟨by rw [h1,Ik h3],h2⟩
theorem Il {vs:Array Value} {a:AV} (hl:vs.size=[a].length):∃ u,vs = #[u]:=by
 obtain ⟨l⟩:=vs
 match l,hl with
 | [u],_=>exact ⟨u,rfl⟩
theorem gy (p:List (List LD)) {q:Bool} (h:aB p=some q):aA Tryz.prog 21 [eL (cL LD.c) p] (Bo q):=by
 unfold aB at h;obtain ⟨⟨h1,h2⟩,h⟩:=gdD h;obtain rfl:=osl h;refine ⟨by kernel_rfl,fun w fz vs hlt hl hrel=>?_⟩;obtain ⟨u,rfl⟩:=Il hl;have hs:=tY (f:=Ins.cells) (s:=4) (e:=iV) (fun _=>rfl) (fun _=>rfl) (hrel 0 _ u rfl rfl);refine (oI hs (Nat.le_refl _) (by rw [zD];exact h2)).mono fun e w' ⟨he,hb⟩ => ?_;exact ⟨_,fz,he,hb,.v Z,fun g hg=>hg,fun g hg => .inl hg,fun g hg=>Nat.lt_of_lt_of_le (hlt g hg) hb.size⟩
theorem gz (p:List (List LD)) {q:Bool} (h:aC p=some q):aA Tryz.prog 50 [eL (cL LD.c) p] (Bo q):=by
 unfold aC at h;obtain ⟨⟨h1,h2⟩,h⟩:=gdD h;obtain rfl:=osl h;refine ⟨by kernel_rfl,fun w fz vs hlt hl hrel=>?_⟩;obtain ⟨u,rfl⟩:=Il hl;have hs:=tY (f:=Ins.cells) (s:=4) (e:=iV) (fun _=>rfl) (fun _=>rfl) (hrel 0 _ u rfl rfl);refine (oH hs (Nat.le_refl _) (by rw [zD];exact h2)).mono fun e w' ⟨he,hb⟩ => ?_;exact ⟨_,fz,he,hb,.v Z,fun g hg=>hg,fun g hg => .inl hg,fun g hg=>Nat.lt_of_lt_of_le (hlt g hg) hb.size⟩
open Go.RowKit Go.WideShapes Go.ChangeShapes Go.Deep
section
variable {H:Type} {enc:TypeId×Value->H} {P:Program}
theorem yS {f:Func} {s:ChangeSpec} {apart fresh handsOn again:Bool} {W W':World} {args:Array Value} {v:Value} {ds gs:List (DataW H)} {before pa pv:List MemPlace}
  (hW:DataW.Whole enc P f.params.toList s.vars apart W args.toList ds gs before)
  (hres:∀ (b:Nat) (sp:Nat->Bool) (hd:Bool),DataW.TrodAll enc P W' b sp hd f.resultTypes.toList (v.resultList f.resultTypes.size) (s.fn H (ds++gs)).results [])
  (hargs:∀ sp:Nat->Bool,(∀ p∈before,sp p.block=true)->DataW.TrodAll enc P W' 0 sp true f.params.toList args.toList (s.fn H (ds++gs)).args pa)
  (hvars:∀ sp:Nat->Bool,(∀ p∈before,sp p.block=true)->DataW.TrodVars enc P W' sp s.vars (s.fn H (ds++gs)).vars pv)
  (hps:before=pa++pv) (hb:Below W.heap.size W W')
  (hok:∀ (j:Nat) (t:TypeId) (r:Value),f.resultTypes[j]? = some t->(v.resultList f.resultTypes.size)[j]? = some r->Value.okWide P W' .any 0 t r) :
  s.post enc P f apart fresh handsOn again W args v W':=by
 have hlt:∀ p∈before,p.block<W.heap.size:=fun p hp=>hW.lt p hp;have hold:∀ p∈before,(fun b=>decide (b<W.heap.size)) p.block=true:=fun p hp=>by simpa using hlt p hp
 refine ⟨ds,gs,before,[],pa,pv,hW,hres _ _ _,hargs _ hold,hvars _ hold,World.keptBut_mono (fun p hp=>⟨hp,?_⟩) (hb.frame (· ∈ before)),fun _=>?_⟩
 ·rw [hps,List.mem_append] at hp;exact Or.inr hp
 ·obtain ⟨_,_,_,_,_,hz,hn⟩:=hW;refine ⟨hok,_,_,([]++pa)++pv,⟨[]++pa,pv,trodAll_append (hargs _ (fun _ _=>rfl)) (hres _ _ _),hvars _ (fun _ _=>rfl),rfl,?_,?_⟩,?_⟩
  ·intro b off hp;have hin:MemPlace.cell b off∈before:=by rw [hps];simpa using hp
   rw [hb.frozen (hlt _ hin)];exact hz b off hin
  ·intro ha;have := hn ha;rw [hps] at this;simpa using this
  ·intro p hp _;rw [hps];simpa using hp
theorem rH (hl:laidOutB P=true) {W W':World} (hb:Below W.heap.size W W') {sp:Nat->Bool}:∀ (ts:List TypeId) (vs:List Value) (ds:List (DataW H)) (ps:List MemPlace),
  (∀ t∈ts,P.readableRec t=true/\t<P.types.size)->DataW.TrodAll enc P W 0 (fun _=>true) true ts vs ds ps->(∀ x∈ps,x.block<W.heap.size)->(∀ x∈ps,sp x.block=true) ->
  DataW.TrodAll enc P W' 0 sp true ts vs ds ps
 | [],[],[],_,_,h,_,_=>h
 | t::ts,v::vs,d::ds,ps,hr,⟨p,q,h1,h2,hpq⟩,hlt,hs=>by
  subst hpq;have hp:∀ x∈p,x.block<W.heap.size:=fun x hx=>hlt x (List.mem_append_left _ hx);exact ⟨p,q,WideElems.Trod_stays hl (hr t (by simp)).1 (hr t (by simp)).2 h1 (fun x hx=>hb.same (hp x hx)) (fun x hx=>hs x (List.mem_append_left _ hx)),
   rH hl hb ts vs ds q (fun t ht=>hr t (List.mem_cons_of_mem _ ht)) h2 (fun x hx=>hlt x (List.mem_append_right _ hx)) (fun x hx=>hs x (List.mem_append_right _ hx)),rfl⟩
 | [],_::_,_,_,_,h,_,_=>(by cases h)
 | [],[],_::_,_,_,h,_,_=>(by cases h)
 | _::_,[],_,_,_,h,_,_=>(by cases h)
 | _::_,_::_,[],_,_,h,_,_=>(by cases h)
variable {w:World} {spare:Nat->Bool} {held:Bool}
theorem Ht {α:Type} {f:α->List Value} {s:Nat} {t e:TypeId} (hs:P.cellsOf e=s) (hs0:0<s) (ht:P.underlying t=some (.slice e)) {Good:α->Prop}
  (hel:∀ (fuel:Nat) (cs:List Value) (x:DataW H×List MemPlace),DataW.trod enc P w 0 spare held fuel e cs=some x->∃ a,cs=f a/\Good a) {fuel:Nat} {cs:List Value} {x:DataW H×List MemPlace}
  (h:DataW.trod enc P w 0 spare held fuel t cs=some x):∃ v,cs=[v]/\∃ xs:List α,Sl f s w 0 w.heap.size v xs/\∀ y∈xs,Good y:=by
 rcases open_slice ht h with ⟨rfl,_⟩ | ⟨a,len,cap,m,n,D,Pl,rfl,_,hl,hm,hmm,_,hi⟩
 ·exact ⟨_,rfl,[],Sl.nil_ _ _ (by omega),fun y hy=>absurd hy (by simp)⟩
 ·refine ⟨_,rfl,?_⟩;have hlm:len<=m:=by rw [hmm];split <;> omega
  have key:∀ i,i<len->∃ y:α,Good y/\∀ (j:Nat) (u:Value),(f y)[j]? = some u->w.cell? ((a.add (i*s)).add j)=some u:=by
   intro i hil;obtain ⟨cs',hc,ht'⟩:=hi i (by omega);obtain ⟨y,rfl,hg⟩:=hel _ _ _ ht';obtain ⟨_,hcl,hat⟩:=World.cells?_some hc;rw [hs] at hat hcl;exact ⟨y,hg,fun j u hu=>by
    have hj:j<s:=by
     have := (ges hu).1;omega
    rw [hat j hj];exact hu⟩
  have key2:∀ i,i<len->∃ cs',w.cells? 0 (a.add (i*s)) s=some cs':=by
   intro i hil;obtain ⟨cs',hc,_⟩:=hi i (by omega);rw [hs] at hc;exact ⟨cs',hc⟩
  clear hi;simp only [maxLen] at hm
  by_cases hn:0<len
  ·obtain ⟨cs0,hc0⟩:=key2 0 hn;obtain ⟨_,hcl,hat⟩:=World.cells?_some hc0;have h00:=hat 0 hs0;rw [geq (by omega)] at h00;have hspot:=World.cell?_spot h00;obtain ⟨b,o,sp⟩:=a;have hsp:sp=none:=by simpa [Addr.add] using hspot
   subst hsp;have hb:b<w.heap.size:=by
    have := World.block_lt_of_cell? w _ h00;simpa [sG] using this
   have hch:∃ F:Nat->α,∀ i,i<len->Good (F i)/\∀ (j:Nat) (u:Value),(f (F i))[j]? = some u->w.cell? (((⟨b,o,none⟩:Addr).add (i*s)).add j)=some u:=by
    obtain ⟨y0,_⟩:=key 0 hn;refine ⟨fun i=>if h:i<len then (key i h).choose else y0,fun i hil=>?_⟩;simp only [dif_pos hil];exact (key i hil).choose_spec
   obtain ⟨F,hF⟩:=hch;refine ⟨(List.range len).map F,⟨_,cap,by simp,by simpa using hl,by omega,fun _=>⟨b,o,rfl,Nat.zero_le _,hb,hb,fun k hk j u hu=>?_⟩⟩,fun y hy=>?_⟩
   ·have hk':k<len:=by simpa using hk
    have := (hF k hk').2 j u (by simpa using hu)
    rwa [sG,sG] at this
   ·rw [List.mem_map] at hy;obtain ⟨i,hi,rfl⟩:=hy;exact (hF i (by simpa using hi)).1
  ·have h0:len=0:=by omega
   subst h0;exact ⟨[],Sl.nil_ _ _ (by omega),fun y hy=>absurd hy (by simp)⟩
theorem Kn {t:TypeId} {k:IntKind} (ht:P.underlying t=some (.int k)) (fuel:Nat) (cs:List Value) (x:DataW H×List MemPlace) (h:DataW.trod enc P w 0 spare held fuel t cs=some x) :
  ∃ a:Int,cs=[.int k a]/\(Lit.int k a).wf=true:=by
 obtain ⟨n,h1,_,h3⟩:=DataW.trod_int ht h;exact ⟨n,h1,h3⟩
end
theorem one_cell {v u:Value} (h:v.cells.toList=[u]) (hv:∃ a len cap,v = .slice a len cap):v=u:=by
 obtain ⟨a,len,cap,rfl⟩:=hv;simpa [Value.cells] using h
open Go.ChangeShapes Go.WideShapes Go.ChangeAt Go.RowKit Go.Sort
theorem wh {w:World} {blk off g:Nat} {d:Array Int} (h:g≠blk):(putRow (Value.int .i64) w blk off d).heap[g]? = w.heap[g]? := by
 show (w.heap.modify blk _)[g]? = _;rw [Array.getElem?_modify,if_neg (Ne.symm h)]
theorem wm {w:World} {blk off:Nat} {d:Array Int} {cs:Array Value} {t:TypeId} {fr:Nat×Nat} (h:w.heap[blk]? = some (.cells cs t fr)):(putRow (Value.int .i64) w blk off d).heap[blk]? = some (.cells (putCells (Value.int .i64) off d cs) t fr):=by
 show (w.heap.modify blk _)[blk]? = _;rw [Array.getElem?_modify,if_pos rfl,h]
 rfl
theorem jZ {off:Nat} {d:Array Int} {cs:Array Value}:(putCells (Value.int .i64) off d cs).size=cs.size:=by simp [putCells]
theorem yT {off:Nat} {d:Array Int} {cs:Array Value} {k:Nat} (h:off+d.size<=cs.size) (hk:k<d.size):(putCells (Value.int .i64) off d cs)[off+k]? = some (.int .i64 d[k]!):=by
 unfold putCells;rw [Array.getElem?_mapIdx,Array.getElem?_eq_getElem (by omega)];simp only [Option.map_some];rw [if_pos (by omega),show off+k-off=k by omega]
theorem Hu {c:Cx} (hr:HRel c) {l q:LI} {ver ver':Nat} (hH:c.H=[some ⟨ver,1,3,l.map cI⟩]) {cs:Array Value} {fr0:Nat×Nat} (hB:BRel c 0 ⟨ver,1,3,l.map cI⟩ cs (some fr0)) {d':Array Int} (hd:d'.size=l.length) (hq:q.length<=d'.size)
  (hqe:∀ i (h:i<q.length),d'[i]! = q[i]) {m:Nat} {os:Array Obj} (hv:(ver'=ver/\q.length=l.length)\/ver<ver') :
  ∃ c',c'.w=grow (putRow (Value.int .i64) (Sort.ahead c.w m) (c.φ 0).1 (c.φ 0).2 d') os/\c'.H=[some ⟨ver',1,3,q.map cI⟩]/\HRel c'/\Ext c c'/\c'.φ 0=c.φ 0/\c'.w.heap[(c.φ 0).1]? = some (.cells (putCells (Value.int .i64) (c.φ 0).2 d' cs) 3 fr0):=by
 have hlv:c.live 0 ⟨ver,1,3,l.map cI⟩:=by
  unfold Cx.live;rw [hH]
  rfl
 have hat:c.w.heap[(c.φ 0).1]? = some (.cells cs 3 fr0):=hB.at_;have hblk:(c.φ 0).1<c.w.heap.size:=hr.live_lt hlv;have hfit:(c.φ 0).2+l.length<=cs.size:=by
  have := hB.fits;simpa using this
 have he1:Ext c (c.upd 0 ⟨ver',1,3,q.map cI⟩ ((c.φ 0).1,(c.φ 0).2) (putCells (Value.int .i64) (c.φ 0).2 d' cs)):=Cx.upd_ext hr hlv hB jZ (by
  rcases hv with ⟨h1,h2⟩ | h
  ·exact .inl ⟨h1,rfl,by simp [h2],rfl⟩
  ·exact .inr h)
 have hr1:=Cx.upd_rel hr hlv hB (k:=⟨ver',1,3,q.map cI⟩) (o:=(c.φ 0).2) (cs:=putCells (Value.int .i64) (c.φ 0).2 d' cs) jZ rfl he1 Nat.one_pos (by rw [jZ];simp;omega) (fun i row h=>by
  obtain ⟨x,_,rfl⟩:=by simpa [List.getElem?_map,Option.map_eq_some_iff] using h
  rfl) (fun i row j a h1 h2=>by
  have hi:i<q.length:=by simpa using (ges h1).1
  have hrw:row=cI q[i]:=by
   have := (ges h1).2;rw [<- this];simp
  subst hrw
  match j,h2 with
  | 0,h2=>
   obtain rfl:=osl h2;refine ⟨.int .i64 d'[i]!,?_,rfl,?_⟩
   ·have := yT (off:=(c.φ 0).2) (d:=d') (cs:=cs) (k:=i) (by omega) (by omega);simpa using this
   ·rw [hqe i hi];exact .fr (.v rfl)
  | j+1,h2=>simp [cI] at h2)
 have hbl:Below (c.upd 0 ⟨ver',1,3,q.map cI⟩ ((c.φ 0).1,(c.φ 0).2) (putCells (Value.int .i64) (c.φ 0).2 d' cs)).w.heap.size (c.upd 0 ⟨ver',1,3,q.map cI⟩ ((c.φ 0).1,(c.φ 0).2) (putCells (Value.int .i64) (c.φ 0).2 d' cs)).w (grow (putRow (Value.int .i64) (Sort.ahead c.w m) (c.φ 0).1 (c.φ 0).2 d') os):=by
  have hz:(c.upd 0 ⟨ver',1,3,q.map cI⟩ ((c.φ 0).1,(c.φ 0).2) (putCells (Value.int .i64) (c.φ 0).2 d' cs)).w.heap.size=c.w.heap.size:=by simp [Cx.upd]
  have hs:(putRow (Value.int .i64) (Sort.ahead c.w m) (c.φ 0).1 (c.φ 0).2 d').heap.size=c.w.heap.size:=by rw [size_putRow];rfl
  refine ⟨rfl,rfl,rfl,?_,fun g hg=>?_⟩
  ·rw [hz];show _<=((putRow (Value.int .i64) (Sort.ahead c.w m) (c.φ 0).1 (c.φ 0).2 d').heap++os).size;rw [Array.size_append,hs];omega
  ·rw [hz] at hg;show ((putRow (Value.int .i64) (Sort.ahead c.w m) (c.φ 0).1 (c.φ 0).2 d').heap++os)[g]? = (c.w.setRow (c.φ 0).1 (putCells (Value.int .i64) (c.φ 0).2 d' cs)).heap[g]?;rw [Array.getElem?_append_left (by rw [hs];exact hg)]
   by_cases e:g=(c.φ 0).1
   ·subst e;rw [wm (w:=Sort.ahead c.w m) hat,setRow_heap _ _ _ _ _ _ hat]
   ·rw [wh e,setRow_other _ _ _ _ e]
    rfl
 obtain ⟨g1,g2⟩:=ou hr1 hbl (fz':=fun _=>False) (fun _ h=>h.elim) (fun _ h=>h.elim) (fun _ _ _ h=>h);refine ⟨_,rfl,?_,g1,he1.trans g2,?_,?_⟩
 ·show c.H.set 0 _=_;rw [hH]
  rfl
 ·rfl
 ·have hz:(c.upd 0 ⟨ver',1,3,q.map cI⟩ ((c.φ 0).1,(c.φ 0).2) (putCells (Value.int .i64) (c.φ 0).2 d' cs)).w.heap.size=c.w.heap.size:=by simp [Cx.upd]
  have := hbl.block (c.φ 0).1 (by rw [hz];exact hblk);refine this.trans ?_;show (c.w.setRow (c.φ 0).1 (putCells (Value.int .i64) (c.φ 0).2 d' cs)).heap[_]? = _;exact setRow_heap _ _ _ _ _ _ hat
theorem Hv {c:Cx} (hr:HRel c) {l:LI} {ver:Nat} (hH:c.H=[some ⟨ver,1,3,l.map cI⟩]) {u:Value} (hu:c.rel (.hs 0 ver 1 0 l.length) u) (hn:0<l.length) :
  ∃ cs fr0 cap,BRel c 0 ⟨ver,1,3,l.map cI⟩ cs (some fr0)/\u = .slice (some ⟨(c.φ 0).1,(c.φ 0).2,none⟩) l.length cap/\l.length<=cap/\cap<=9223372036854775807/\(c.φ 0).2+cap<=cs.size/\Holds (Value.int .i64) c.w (c.φ 0).1 (c.φ 0).2 l.toArray/\(c.φ 0).1<c.w.heap.size:=by
 have hlv:c.live 0 ⟨ver,1,3,l.map cI⟩:=by
  unfold Cx.live;rw [hH]
  rfl
 obtain ⟨cs,fr0,hB⟩:=hr.blk 0 _ hlv
 cases hu with
 | fr h=>cases h
 | @hs _ _ _ _ _ cap A hb hc hm h0 h=>
 obtain ⟨f,rfl,hat,hhd⟩:=hB.cells hlv (fun x hx=>(h x hx).1);obtain ⟨_,_,h3,h4⟩:=h _ hhd;have hA:=h3 (by omega);simp only [Nat.zero_mul,Nat.add_zero,Nat.mul_one] at hA h4;refine ⟨cs,f,cap,hB,by rw [hA],hc,hm,h4,fun j hj=>?_,hr.live_lt hlv⟩;have hj:j<l.length:=by simpa using hj
 have hj2:(c.φ 0).2+j<cs.size:=by omega
 obtain ⟨u,g1,g2,g3⟩:=hB.rel j (cI l[j]) 0 (I l[j]) (by simp [hj]) rfl;refine ⟨?_,?_⟩
 ·simp only [World.cell?,hat];have := dR g3;simp only [Nat.mul_one,Nat.add_zero] at g1;rw [g1];obtain ⟨rfl,_⟩:=this;simp [hj]
 ·have := hB.free f rfl _ hj2;obtain ⟨lo,hi'⟩:=f;simp only [World.frozen?,hat,Bool.and_eq_false_iff,decide_eq_false_iff_not];simp only at this;omega
open Go.Shelf Go.RowKit Go.Lib Go.Sort
def Ko:Go.Shelf.Ren:=⟨fun | 23=>98 | n=>n,fun | 22=>35 | 3=>3 | 4=>4 | 0=>0 | n=>n,fun | n=>n⟩
theorem Kq:Go.Proofs.Lays2.n23 Tryz.prog Ko where
 mixed:=by kernel_rfl
 f23:=Tryz.func98.trans (congrArg some (by kernel_rfl))
 t0:=Tryz.underlying0
 a0:=Tryz.isAgg0
 z0:=Tryz.sizeOf0
 v0:=Tryz.zeroValue0
 t3:=Tryz.underlying3
 a3:=Tryz.isAgg3
 z3:=Tryz.sizeOf3
 v3:=Tryz.zeroValue3
 t4:=Tryz.underlying4
 a4:=Tryz.isAgg4
 z4:=Tryz.sizeOf4
 v4:=Tryz.zeroValue4
 t22:=Tryz.underlying35
 a22:=Tryz.isAgg35
 z22:=Tryz.sizeOf35
 v22:=Tryz.zeroValue35
 i3:=by kernel_rfl
open Go.ChangeShapes Go.WideShapes Go.ChangeAt Go.RowKit Go.Shelf Go.Sort
theorem tj (l:LI) (i j:Int) (g:Bool) (ver:Nat) (hg:g=true->l=[]) {q:LI} (h:kT l i j=some q) :
  bA Tryz.prog 98 [hS g 0 ver 1 l.length,I i,I j] [bE g ver 1 3 (l.map cI)] (C9 1 3 (fun x=>x) q.length (q.map cI) 0 []):=by
 obtain ⟨⟨h0,h1,h2,hn⟩,h⟩:=gdD h;obtain rfl:=osl h;obtain rfl:g=false:=by
  cases g with
  | false=>rfl
  | true=>
   rw [hg rfl] at hn;exact absurd hn (by simp)
 refine ⟨by kernel_rfl,fun c vs hH hr hall=>?_⟩;obtain ⟨hsz,hrel⟩:=hall;obtain ⟨u,a,b,rfl⟩:∃ u a b,vs = #[u,a,b]:=by
  match vs,hsz with
  | ⟨[u,a,b]⟩,_=>exact ⟨u,a,b,rfl⟩
 obtain ⟨rfl,_⟩:=dR (hrel 1 _ a rfl rfl);obtain ⟨rfl,_⟩:=dR (hrel 2 _ b rfl rfl);have hH:c.H=[some ⟨ver,1,3,l.map cI⟩]:=hH;obtain ⟨cs,fr0,cap,hB,rfl,hc,hm,hcs,hHo,hblk⟩:=Hv hr hH (hrel 0 _ u rfl rfl) hn;have hcon:=Any.slices_Delete_int Kq (c.φ 0).1 (c.φ 0).2 cap i.toNat j.toNat l c.w hHo hc hm (by omega) (by omega);rw [show (i.toNat:Int)=i by omega,show (j.toNat:Int)=j by omega] at hcon;refine (show Calls Tryz.prog 98 _ _ _ from hcon).mono ?_;rintro e w' ⟨rfl,m,rfl⟩;have hql:(l.take i.toNat++l.drop j.toNat).length=l.length-(j.toNat-i.toNat):=by simp;omega
 have hdl:(l.take i.toNat++l.drop j.toNat++List.replicate (j.toNat-i.toNat) (0:Int)).toArray.size=l.length:=by simp;omega
 obtain ⟨c',w1,w2,w3,w4,w5,w6⟩:=Hu hr hH hB (q:=l.take i.toNat++l.drop j.toNat) (ver':=ver+1) (d':=(l.take i.toNat++l.drop j.toNat++List.replicate (j.toNat-i.toNat) (0:Int)).toArray) hdl (by rw [hdl,hql];omega) (fun k hk=>by
  rw [getElem!_pos _ k (by rw [hdl];omega)];simp only [List.getElem_toArray];rw [List.getElem_append_left hk]) (m:=m) (os:=#[]) (.inr (Nat.lt_succ_self _))
 rw [grow_empty] at w1;have hlv:c'.live 0 ⟨ver+1,1,3,(l.take i.toNat++l.drop j.toNat).map cI⟩:=by
  unfold Cx.live;rw [w2]
  rfl
 refine ⟨_,c',hS false 0 (ver+1) 1 (l.take i.toNat++l.drop j.toNat).length,Z,w1,⟨false,ver+1,fun e=>(by cases e),Z,w2⟩,w3,w4,?_⟩;rw [<- hql];refine .hs ?_ (by omega) hm (fun _=>⟨_,Z⟩) fun x hx=>?_
 ·unfold Cx.born;rw [show c'.H[0]? = some (some _) from hlv];exact Nat.le_refl _
 ·have := Cx.hd_of hlv (by rw [w5];exact w6);rw [show (⟨ver+1,1,3,(l.take i.toNat++l.drop j.toNat).map cI⟩:ABlk).ver=ver+1 from rfl] at this;rw [this] at hx;obtain rfl:=osl hx;rw [w5];refine ⟨Z,by simp,fun _=>by simp,?_⟩;show (c.φ 0).2+0*1+cap*1<=(putCells (Value.int .i64) (c.φ 0).2 _ cs).size;rw [jZ];omega
def Kr:Go.Shelf.Ren:=⟨fun | 6=>70 | 15=>103 | 14=>102 | 28=>126 | 29=>127 | 20=>118 | 21=>119 | 22=>120 | 23=>121 | 24=>122 | 25=>123 | 26=>124 | 27=>125 | 46=>134 | 47=>135 | 48=>136 | 49=>137 | 50=>138 | 57=>141 | n=>n,fun | 22=>24 | 24=>35 | 25=>99 | 3=>3 | 39=>139 | 0=>0 | 53=>161 | 55=>163 | 4=>4 | 46=>154 | 45=>153 | 50=>158 | 5=>5 | 9=>9 | 66=>167 | 70=>171 | 76=>175 | 77=>176 | n=>n,fun | n=>n⟩
theorem Im:Go.Proofs.SlLaysF.n6 Tryz.prog Kr where
 mixed:=by kernel_rfl
 f6 := ⟨"slices.SortFunc[[][]int,[]int]",by decide,Tryz.func70.trans (congrArg some (by kernel_rfl))⟩
 f14 := ⟨"slices.pdqsortCmpFunc[[]int]",by decide,Tryz.func102.trans (congrArg some (by kernel_rfl))⟩
 f15:=Tryz.func103.trans (congrArg some (by kernel_rfl))
 f20 := ⟨"slices.insertionSortCmpFunc[[]int]",by decide,Tryz.func118.trans (congrArg some (by kernel_rfl))⟩
 f21 := ⟨"slices.heapSortCmpFunc[[]int]",by decide,Tryz.func119.trans (congrArg some (by kernel_rfl))⟩
 f22 := ⟨"slices.breakPatternsCmpFunc[[]int]",by decide,Tryz.func120.trans (congrArg some (by kernel_rfl))⟩
 f23 := ⟨"slices.choosePivotCmpFunc[[]int]",by decide,Tryz.func121.trans (congrArg some (by kernel_rfl))⟩
 f24 := ⟨"slices.reverseRangeCmpFunc[[]int]",by decide,Tryz.func122.trans (congrArg some (by kernel_rfl))⟩
 f25 := ⟨"slices.partialInsertionSortCmpFunc[[]int]",by decide,Tryz.func123.trans (congrArg some (by kernel_rfl))⟩
 f26 := ⟨"slices.partitionEqualCmpFunc[[]int]",by decide,Tryz.func124.trans (congrArg some (by kernel_rfl))⟩
 f27 := ⟨"slices.partitionCmpFunc[[]int]",by decide,Tryz.func125.trans (congrArg some (by kernel_rfl))⟩
 f28:=Tryz.func126.trans (congrArg some (by kernel_rfl))
 f29:=Tryz.func127.trans (congrArg some (by kernel_rfl))
 f46 := ⟨"slices.siftDownCmpFunc[[]int]",by decide,Tryz.func134.trans (congrArg some (by kernel_rfl))⟩
 f47:=Tryz.func135.trans (congrArg some (by kernel_rfl))
 f48:=Tryz.func136.trans (congrArg some (by kernel_rfl))
 f49 := ⟨"slices.medianAdjacentCmpFunc[[]int]",by decide,Tryz.func137.trans (congrArg some (by kernel_rfl))⟩
 f50 := ⟨"slices.medianCmpFunc[[]int]",by decide,Tryz.func138.trans (congrArg some (by kernel_rfl))⟩
 f57 := ⟨"slices.order2CmpFunc[[]int]",by decide,Tryz.func141.trans (congrArg some (by kernel_rfl))⟩
 t0:=Tryz.underlying0
 a0:=Tryz.isAgg0
 z0:=Tryz.sizeOf0
 v0:=Tryz.zeroValue0
 t3:=Tryz.underlying3
 a3:=Tryz.isAgg3
 z3:=Tryz.sizeOf3
 v3:=Tryz.zeroValue3
 t4:=Tryz.underlying4
 a4:=Tryz.isAgg4
 z4:=Tryz.sizeOf4
 v4:=Tryz.zeroValue4
 t5:=Tryz.underlying5
 a5:=Tryz.isAgg5
 z5:=Tryz.sizeOf5
 v5:=Tryz.zeroValue5
 t9:=Tryz.underlying9
 a9:=Tryz.isAgg9
 z9:=Tryz.sizeOf9
 v9:=Tryz.zeroValue9
 t22:=Tryz.underlying24
 a22:=Tryz.isAgg24
 z22:=Tryz.sizeOf24
 v22:=Tryz.zeroValue24
 a24:=Tryz.isAgg35
 z24:=Tryz.sizeOf35
 t25:=Tryz.underlying99
 a25:=Tryz.isAgg99
 z25:=Tryz.sizeOf99
 v25:=Tryz.zeroValue99
 t39:=Tryz.underlying139
 a39:=Tryz.isAgg139
 z39:=Tryz.sizeOf139
 v39:=Tryz.zeroValue139
 t45:=Tryz.underlying153
 a45:=Tryz.isAgg153
 z45:=Tryz.sizeOf153
 v45:=Tryz.zeroValue153
 t46:=Tryz.underlying154
 a46:=Tryz.isAgg154
 z46:=Tryz.sizeOf154
 v46:=Tryz.zeroValue154
 t50:=Tryz.underlying158
 a50:=Tryz.isAgg158
 z50:=Tryz.sizeOf158
 v50:=Tryz.zeroValue158
 t53:=Tryz.underlying161
 a53:=Tryz.isAgg161
 z53:=Tryz.sizeOf161
 v53:=Tryz.zeroValue161
 t55:=Tryz.underlying163
 a55:=Tryz.isAgg163
 z55:=Tryz.sizeOf163
 v55:=Tryz.zeroValue163
 t66:=Tryz.underlying167
 a66:=Tryz.isAgg167
 z66:=Tryz.sizeOf167
 v66:=Tryz.zeroValue167
 t70:=Tryz.underlying171
 a70:=Tryz.isAgg171
 z70:=Tryz.sizeOf171
 v70:=Tryz.zeroValue171
 t76:=Tryz.underlying175
 a76:=Tryz.isAgg175
 z76:=Tryz.sizeOf175
 v76:=Tryz.zeroValue175
 t77:=Tryz.underlying176
 a77:=Tryz.isAgg176
 z77:=Tryz.sizeOf176
 v77:=Tryz.zeroValue176
theorem Hw {α:Type} (f:α->LI):SWO (ltOf fun x y=>cmpL (f x) (f y)) where
 irrefl x:=by simp [ltOf,kU]
 trans x y z h1 h2:=by
  simp only [ltOf,decide_eq_true_eq] at *;exact kR h1 h2
 ntrans x y z h1 h2:=by
  simp only [ltOf,decide_eq_false_iff_not] at *;intro h;rcases m7 (f x) (f y) with g | g | g
  ·exact h1 g
  ·rw [g] at h;exact h2 h
  ·exact h2 (kR g h)
theorem wR (x y:Int) (w:World) :
  Calls Tryz.prog 104 #[.int .i64 x,.int .i64 y] w fun e w'=>e = .returned (.int .i64 (if x<y then -1 else if y<x then 1 else 0))/\w'=w:=by
 go_enter Tryz.func104,Tryz.ntmps104
 by_cases h1:x<y
 ·rw [if_pos h1]
  go_wp2
  go_ret
  exact ⟨rfl,rfl⟩
 ·rw [if_neg h1]
  by_cases h2:y<x
  ·rw [if_pos h2]
   go_wp2
   go_ret
   exact ⟨rfl,rfl⟩
  ·rw [if_neg h2]
   go_wp2
   go_ret
   exact ⟨rfl,rfl⟩
theorem BD {lo hi lo' hi':Nat} {u v:Value} {xs ys:LI} {w:World} (hu:Sl JV 1 w lo hi u xs) (hv:Sl JV 1 w lo' hi' v ys) :
  Calls Tryz.prog 71 #[u,v] w fun e w'=>e = .returned (.int .i64 (cmpL xs ys))/\w'=w:=by
 obtain ⟨A,ca,rfl,hca,hma,hA⟩:=hu.ints;obtain ⟨B,cb,rfl,hcb,hmb,hB⟩:=hv.ints;have HAA:=Lib.hid hA;clear hA;have HBB:=Lib.hid hB;clear hB
 go_enter Tryz.func71,Tryz.ntmps71
 go_wp2_with fail
 go_loopw [11] (fun i wr=>∃ k:Nat,k<=xs.length/\k<=ys.length/\i = .int .i64 k/\wr=w/\cmpL xs ys=cmpL (xs.drop k) (ys.drop k)) (fun i _=>xs.length-(intOf i).toNat)
 case atStart=>exact ⟨0,Nat.zero_le _,Nat.zero_le _,rfl,rfl,rfl⟩
 case round=>
  obtain ⟨k,hk,hk2,rfl,rfl,he⟩:=hrel;have HE:=Lib.hid he;clear he
  by_cases hlt:k<xs.length
  ·obtain ⟨ba,oa,rfl,_,_,hba,hA⟩:=HAA.out (by omega);have ca1:=hA k hlt;clear hA;have i1:(0:Int)<=(k:Int):=by omega
   have i2:(k:Int)<(xs.length:Int):=by omega
   have HX:=Lib.hid (List.drop_eq_getElem_cons hlt)
   by_cases hlt2:k<ys.length
   ·obtain ⟨bb,ob,rfl,_,_,hbb,hB⟩:=HBB.out (by omega);have cb1:=hB k hlt2;clear hB;have i3:(k:Int)<(ys.length:Int):=by omega
    have HY:=Lib.hid (List.drop_eq_getElem_cons hlt2);generalize xs[k]=x at *;generalize ys[k]=y at *;have hc:=wR x y wr
    by_cases h1:x<y
    ·rw [if_pos h1] at hc;have HR:=Lib.hid (show cmpL xs ys = -1 by rw [HE.out,HX.out,HY.out,cmpL,if_pos h1])
     go_wp2_with (go_at_call 104;refine hc.mono ?_;rintro e w' ⟨rfl,rfl⟩)
     go_ret
     exact ⟨by rw [HR.out];rfl,rfl⟩
    ·rw [if_neg h1] at hc
     by_cases h2:y<x
     ·rw [if_pos h2] at hc;have HR:=Lib.hid (show cmpL xs ys=1 by rw [HE.out,HX.out,HY.out,cmpL,if_neg h1,if_pos h2])
      go_wp2_with (go_at_call 104;refine hc.mono ?_;rintro e w' ⟨rfl,rfl⟩)
      go_ret
      exact ⟨by rw [HR.out];rfl,rfl⟩
     ·rw [if_neg h2] at hc;have HR:=Lib.hid (show cmpL xs ys=cmpL (xs.drop (k+1)) (ys.drop (k+1)) by rw [HE.out,HX.out,HY.out,cmpL,if_neg h1,if_neg h2])
      go_wp2_with (go_at_call 104;refine hc.mono ?_;rintro e w' ⟨rfl,rfl⟩)
      go_roundw
      case rel=>exact ⟨k+1,by omega,by omega,by go_num,by first | rfl | trivial,HR.out⟩
      case measure=>simp [intOf];omega
   ·have hky:k=ys.length:=by omega
    have i3:((ys.length:Int)<=(k:Int)):=by omega
    have HR:=Lib.hid (show cmpL xs ys=1 by rw [HE.out,HX.out,List.drop_eq_nil_of_le (show ys.length<=k by omega)];rfl);clear hky
    go_wp2_with fail
    go_ret
    exact ⟨by rw [HR.out];rfl,rfl⟩
  ·have hkx:k=xs.length:=by omega
   have HF:=Lib.hid (show cmpL xs ys=cmpL [] (ys.drop xs.length) by rw [HE.out,hkx,List.drop_length]);clear HE;subst hkx
   by_cases hl:xs.length<ys.length
   ·have i3:((xs.length:Int)<(ys.length:Int)):=by omega
    go_wp2_with fail
    go_ret
    exact ⟨by rw [HF.out,List.drop_eq_getElem_cons hl];rfl,rfl⟩
   ·have i3 : ¬ ((xs.length:Int)<(ys.length:Int)):=by omega
    go_wp2_with fail
    go_ret
    exact ⟨by rw [HF.out,List.drop_eq_nil_of_le (by omega)];rfl,rfl⟩
theorem rI {w:World} {fz:Nat->Prop} {v:Value} {l:LI} (h:FRel w fz (eL cI l) v):Sl JV 1 w 0 w.heap.size v l:=by
 have := xW (f:=JV) (s:=1) (c:=cI) (e:=id) (fun _=>rfl) (fun _=>rfl) h
 rwa [List.map_id] at this
def Rd1 (w:World) (fz:Nat->Prop):Type:={ p:Value×LI // p.1.oneCell'=true/\FRel w fz (eL cI p.2) p.1 }
theorem F6 (w:World) (fz:Nat->Prop):FRel w fz (eL cI ([]:LI)) (.slice none 0 0):=
 .sl (s:=1) (g:=0) (o:=0) (fun _ _ => .bool false) (Nat.le_refl _) (by decide) (fun h=>absurd h (by simp)) (fun i h=>absurd h (by simp)) (fun i j a h=>absurd h (by simp)) (fun i j a h=>absurd h (by simp)) (fun i j a h=>absurd h (by simp))
instance {w:World} {fz:Nat->Prop}:Inhabited (Rd1 w fz):=⟨⟨(.slice none 0 0,[]),rfl,F6 w fz⟩⟩
def yY {w:World} {fz:Nat->Prop} (x:Rd1 w fz):Value:=x.1.1
def F7 {w:World} {fz:Nat->Prop} (x:Rd1 w fz):LI:=x.1.2
theorem qd {α:Type} [Inhabited α] {enc:α->Value} {w:World} {blk off g:Nat} {d:Array α} (h:g≠blk):(putRow enc w blk off d).heap[g]? = w.heap[g]? := by
 show (w.heap.modify blk _)[g]? = _;rw [Array.getElem?_modify,if_neg (Ne.symm h)]
theorem wS {α:Type} [Inhabited α] {enc:α->Value} {w:World} {blk off:Nat} {d:Array α} {cs:Array Value} {t:TypeId} {fr:Nat×Nat} (h:w.heap[blk]? = some (.cells cs t fr)):(putRow enc w blk off d).heap[blk]? = some (.cells (putCells enc off d cs) t fr):=by
 show (w.heap.modify blk _)[blk]? = _;rw [Array.getElem?_modify,if_pos rfl,h]
 rfl
theorem qf {α:Type} [Inhabited α] {enc:α->Value} {w:World} {blk off m g:Nat} {d:Array α} {os:Array Obj} (hg:g<w.heap.size):(sortWorld enc w blk off m d os).heap[g]? = (putRow enc w blk off d).heap[g]? := by
 show ((putRow enc (Sort.ahead w m) blk off d).heap++os)[g]? = _;have hs:(putRow enc (Sort.ahead w m) blk off d).heap.size=w.heap.size:=by rw [size_putRow];rfl
 rw [Array.getElem?_append_left (by rw [hs];exact hg)]
 rfl
theorem nH {α:Type} [Inhabited α] {enc:α->Value} {off:Nat} {d:Array α} {cs:Array Value}:(putCells enc off d cs).size=cs.size:=by simp [putCells]
theorem Ae {α:Type} [Inhabited α] {enc:α->Value} {off:Nat} {d:Array α} {cs:Array Value} {k:Nat} (h:off+d.size<=cs.size) (hk:k<d.size):(putCells enc off d cs)[off+k]? = some (enc d[k]!):=by
 unfold putCells;rw [Array.getElem?_mapIdx,Array.getElem?_eq_getElem (by omega)];simp only [Option.map_some];rw [if_pos (by omega),show off+k-off=k by omega]
theorem Jq {c:Cx} {blk off size:Nat} (hnf : ¬ c.fz blk) (hlt:∀ g,c.fz g->g<c.w.heap.size):CmpLays1 Tryz.prog 71 #[] (yY (w:=c.w) (fz:=c.fz)) (fun x y=>cmpL (F7 x) (F7 y)) blk off size c.w:=by
 intro m os dk hs x y;have hW:∀ g,c.fz g->g<c.w.heap.size->(sortWorld yY c.w blk off m dk os).heap[g]? = c.w.heap[g]? /\ c.fz g:=fun g hg hl=>by
  rw [qf hl,qd (by rintro rfl;exact hnf hg)];exact ⟨rfl,hg⟩
 have hsz:c.w.heap.size<=(sortWorld yY c.w blk off m dk os).heap.size:=by
  show _<=((putRow yY (Sort.ahead c.w m) blk off dk).heap++os).size;rw [Array.size_append,size_putRow];show c.w.heap.size<=c.w.heap.size+os.size;omega
 have hx:=rI (x.2.2.mono hsz hW);have hy:=rI (y.2.2.mono hsz hW);refine (BD hx hy).mono fun e w' ⟨he,hw⟩=>⟨he,0,#[],?_⟩;rw [hw,grow_empty]
 rfl
theorem Hy {c:Cx} (hr:HRel c) {l:LL} {ver:Nat} (hH:c.H=[some ⟨ver,1,35,l.map (cL cI)⟩]) {u:Value} (hu:c.rel (.hs 0 ver 1 0 l.length) u) (hl:l.length<4611686018427387904) (hn:0<l.length) :
  Calls Tryz.prog 70 #[u,.func (.func 71) #[] #[]] c.w fun e w'=>∃ c',e = .returned (.tuple #[])/\c'.w=w'/\c'.H=[some ⟨ver,1,35,(zI l).map (cL cI)⟩]/\HRel c'/\Ext c c':=by
 have hlv:c.live 0 ⟨ver,1,35,l.map (cL cI)⟩:=by
  unfold Cx.live;rw [hH]
  rfl
 obtain ⟨cs,fr0,hB⟩:=hr.blk 0 _ hlv
 cases hu with
 | fr h=>cases h
 | @hs _ _ _ _ _ cap A hb hc hm h0 h=>
 obtain ⟨f,rfl,hat,hhd⟩:=hB.cells hlv (fun x hx=>(h x hx).1);obtain ⟨_,_,h3,_⟩:=h _ hhd;have hA:=h3 (by omega);have hfit:(c.φ 0).2+l.length<=cs.size:=by
  have := hB.fits;simpa using this
 have hrow:∀ i (hi:i<l.length),∃ p:Rd1 c.w c.fz,cs[(c.φ 0).2+i]? = some (yY p)/\F7 p=l[i]:=fun i hi=>by
  obtain ⟨u,g1,g2,g3⟩:=hB.rel i (cL cI l[i]) 0 (eL cI l[i]) (by simp [hi]) rfl;refine ⟨⟨(u,l[i]),g2,qg 1 _ _ rfl g3⟩,?_,rfl⟩;show _=some u;simpa using g1
 obtain ⟨d,hds,hd1,hd2⟩:∃ d:Array (Rd1 c.w c.fz),d.size=l.length/\(∀ i,i<l.length->cs[(c.φ 0).2+i]? = some (yY d[i]!))/\d.toList.map F7=l:=by
  refine ⟨Array.ofFn (fun i:_root_.Fin l.length=>(hrow i.1 i.2).choose),by simp,fun i hi=>?_,?_⟩
  ·rw [getElem!_pos _ i (by simpa using hi),Array.getElem_ofFn];exact (hrow i hi).choose_spec.1
  ·apply List.ext_getElem
   ·simp
   ·intro i h1 h2;simp only [List.getElem_map,Array.getElem_toList,Array.getElem_ofFn];exact (hrow i h2).choose_spec.2
 have hblk:(c.φ 0).1<c.w.heap.size:=hr.live_lt hlv;have hH2:Holds (yY (w:=c.w) (fz:=c.fz)) c.w (c.φ 0).1 (c.φ 0).2 d:=fun j hj=>by
  have hj2:(c.φ 0).2+j<cs.size:=by omega
  refine ⟨?_,?_⟩
  ·simp only [World.cell?,hat];exact hd1 j (by omega)
  ·have := hB.free f rfl _ hj2;obtain ⟨lo,hi'⟩:=f;simp only [World.frozen?,hat,Bool.and_eq_false_iff,decide_eq_false_iff_not];simp only at this;omega
 have eg:∀ args w,(callFunc 71 args).run Tryz.prog w = .ok (.enter 71 args) w:=enters_of Tryz.func71 (by kernel_rfl) rfl;have hcon:=Any.slices_SortFunc Im (yY (w:=c.w) (fz:=c.fz)) (fun x=>x.2.1) (fun x y=>cmpL (F7 x) (F7 y)) (Hw F7) 71 #[] (c.φ 0).1 (c.φ 0).2 cap d c.w eg (Jq (hr.not_fz hlv) hr.lt) hH2 hblk (by omega);rw [hA,show (c.φ 0).2+0*1=(c.φ 0).2 by omega,<- hds];refine (show Calls Tryz.prog 70 _ _ _ from hcon).mono ?_;rintro e w' ⟨rfl,d',m,os,hp,hs,rfl⟩;have hds':d'.size=l.length:=hp.1.trans hds;have hpl:d'.toList.Perm d.toList:=by
  have := hp.2.2
  rwa [Array.extract_eq_self_of_le (by omega),Array.extract_eq_self_of_le (by omega)] at this
 have hsl:d'.toList.map F7=zI l:=by
  refine ql ((hpl.map F7).trans (hd2 ▸ (kV l).symm)) ?_ (vD l);rw [List.pairwise_map,List.pairwise_iff_getElem];intro i j h1 h2 hij;have := hs i j (Nat.zero_le _) hij (by rw [hds,<- hds'];simpa using h2);rw [getElem!_pos d' j (by simpa using h2),getElem!_pos d' i (by simpa using h1)] at this;unfold ltOf at this;unfold leL;rw [decide_eq_true_eq];simpa using this
 have hat':∀ i (hi:i<(zI l).length),F7 d'[i]! = (zI l)[i]:=fun i hi=>by
  have hi2:i<d'.size:=by
   rw [(kV l).length_eq] at hi;omega
  rw [getElem!_pos d' i hi2];have : (d'.toList.map F7)[i]? = (zI l)[i]? := by rw [hsl]
  rw [geq (by simpa using hi2),geq hi] at this;simpa using this
 have hll:(zI l).length=l.length:=(kV l).length_eq;have he1:Ext c (c.upd 0 ⟨ver,1,35,(zI l).map (cL cI)⟩ ((c.φ 0).1,(c.φ 0).2) (putCells yY (c.φ 0).2 d' cs)):=Cx.upd_ext hr hlv hB nH (.inl ⟨rfl,rfl,by simp [hll],rfl⟩);have hr1:=Cx.upd_rel hr hlv hB (k:=⟨ver,1,35,(zI l).map (cL cI)⟩) (o:=(c.φ 0).2) (cs:=putCells yY (c.φ 0).2 d' cs) nH rfl he1 Nat.one_pos (by rw [nH];simpa [hll] using hfit) (fun i row h=>by
  obtain ⟨x,_,rfl⟩:=by simpa [List.getElem?_map,Option.map_eq_some_iff] using h
  rfl) (fun i row j a h1 h2=>by
  have hi:i<(zI l).length:=by simpa using (ges h1).1
  have hrw:row=cL cI (zI l)[i]:=by
   have := (ges h1).2;rw [<- this];simp
  subst hrw
  match j,h2 with
  | 0,h2=>
   obtain rfl:=osl h2;refine ⟨yY d'[i]!,?_,d'[i]!.2.1,?_⟩
   ·have := Ae (enc:=yY) (off:=(c.φ 0).2) (d:=d') (cs:=cs) (k:=i) (by omega) (by omega);simpa using this
   ·rw [<- hat' i hi];exact .fr d'[i]!.2.2
  | j+1,h2=>simp [cL] at h2)
 have hbl:Below (c.upd 0 ⟨ver,1,35,(zI l).map (cL cI)⟩ ((c.φ 0).1,(c.φ 0).2) (putCells yY (c.φ 0).2 d' cs)).w.heap.size (c.upd 0 ⟨ver,1,35,(zI l).map (cL cI)⟩ ((c.φ 0).1,(c.φ 0).2) (putCells yY (c.φ 0).2 d' cs)).w (sortWorld yY c.w (c.φ 0).1 (c.φ 0).2 m d' os):=by
  have hz:(c.upd 0 ⟨ver,1,35,(zI l).map (cL cI)⟩ ((c.φ 0).1,(c.φ 0).2) (putCells yY (c.φ 0).2 d' cs)).w.heap.size=c.w.heap.size:=by simp [Cx.upd]
  refine ⟨rfl,rfl,rfl,?_,fun g hg=>?_⟩
  ·rw [hz];show _<=((putRow yY (Sort.ahead c.w m) (c.φ 0).1 (c.φ 0).2 d').heap++os).size;rw [Array.size_append,size_putRow];show c.w.heap.size<=c.w.heap.size+os.size;omega
  ·rw [hz] at hg;rw [qf hg];show _=(c.w.setRow (c.φ 0).1 (putCells yY (c.φ 0).2 d' cs)).heap[g]?
   by_cases e:g=(c.φ 0).1
   ·subst e;rw [wS hat,setRow_heap _ _ _ _ _ _ hat]
   ·rw [qd e,setRow_other _ _ _ _ e]
 obtain ⟨g1,g2⟩:=ou hr1 hbl (fz':=fun _=>False) (fun _ h=>h.elim) (fun _ h=>h.elim) (fun _ _ _ h=>h);refine ⟨_,rfl,rfl,?_,g1,he1.trans g2⟩;show c.H.set 0 _=_;rw [hH]
 rfl
theorem qB (l:LL) (g:Bool) (ver:Nat) (hg:g=true->l=[]) {q:LL} (h:dW l=some q) :
  eM Tryz.prog 70 [hS g 0 ver 1 l.length,.fn (.func 71) []] [bE g ver 1 35 (l.map (cL cI))] (.tup []) [bE g ver 1 35 (q.map (cL cI))]:=by
 obtain ⟨hl,h⟩:=gdD h;obtain rfl:=osl h;refine ⟨by kernel_rfl,fun c vs hH hr hall=>?_⟩;obtain ⟨hsz,hrel⟩:=hall;obtain ⟨u,f,rfl⟩:∃ u f,vs = #[u,f]:=by
  match vs,hsz with
  | ⟨[u,f]⟩,_=>exact ⟨u,f,rfl⟩
 have hu:=hrel 0 _ u rfl rfl;obtain ⟨vs2,rfl,h5,_⟩:=tK (hrel 1 _ f rfl rfl);obtain rfl:vs2 = #[]:=Array.eq_empty_of_size_eq_zero h5
 by_cases hn:0<l.length
 ·obtain rfl:g=false:=by
   cases g with
   | false=>rfl
   | true=>
    rw [hg rfl] at hn;exact absurd hn (by simp)
  refine (Hy hr hH hu hl hn).mono ?_;rintro e w' ⟨c',rfl,hw,hH',h1,h2⟩;exact ⟨_,c',Z,hw,hH',h1,h2,.tup Z (fun i x y hx=>by simp at hx)⟩
 ·obtain rfl:l=[]:=List.eq_nil_of_length_eq_zero (by omega);obtain ⟨A,cap,rfl⟩:∃ A cap,u = .slice A 0 cap:=by
   cases g with
   | true=>
    cases hu with
    | fr h=>cases h;exact ⟨_,_,rfl⟩
   | false=>
    obtain ⟨A,cap,h6,_⟩:=jI hu;exact ⟨A,cap,h6⟩
  refine (show Calls Tryz.prog 70 _ _ _ from AnyF.slices_SortFunc_none { Im with } A cap _ c.w).mono ?_;rintro e w' ⟨rfl,rfl⟩;refine ⟨_,c,Z,Z,?_,hr,Ext.refl c,.tup Z (fun i x y hx=>by simp at hx)⟩;rw [hH,(kV []).eq_nil]
end
end Go.Proofs.YtlmjnhnpahicmaaGreat
