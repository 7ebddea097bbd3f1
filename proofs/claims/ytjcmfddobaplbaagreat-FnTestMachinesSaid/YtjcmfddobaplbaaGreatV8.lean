/- Texts joined. No conditions. -/
import Derived.Lib.Bytealg
import Derived.Laws.Externs
import Derived.Deep.RegionWith
import Derived.WalkKit
import Derived.RangeFuncNested
import Derived.RangeFuncBound
import Derived.RangeFuncCalls
import Derived.RangeFuncLeaves
import Derived.RangeFuncBox
import Derived.OwnWalkIn
import Derived.TacticsInMore
import Derived.LoopNIn
import Derived.LoopIn
import Derived.Shelf.Abstract
import Derived.Shelf.RegionOpen
import Derived.Test.YtjcmfddobaplbaaGreatProg
import Derived.Lib.Walk
import Derived.Lib.AppendZerosOnto
import Derived.Lib.Overlaps
import Derived.Laws.CopyRow
import Derived.Laws.NewBlocks
import Derived.Shelf.Spec.SlicesInsert
import Derived.ChangeSame
import Derived.ChangeSlices
import Derived.WideKeyArgs
import Derived.Carry
import Derived.Deep.Slices
import Derived.Deep.Fields
import Derived.ProofKit
import Derived.OpenShut
import Derived.BigRegion
import Derived.Sort.Row
import Derived.Sort.Grow
import Derived.Shelf.SortM.Plain
import Derived.Shelf.SortM.SortNone
import Derived.Shelf.SlSortCmp.NoneTotal
import Derived.Test.YtjcmfddobaplbaaGreatV7
namespace Go.Proofs.YtjcmfddobaplbaaGreat
noncomputable section
open _root_.Array renaming length_toList -> Ox, getElem?_toList -> OC, size_append -> OI, getElem?_modify -> OJ, getElem?_eq_some_iff -> OT, getElem?_append_left -> OZ, replicate_succ -> O6, replicate_zero -> O7, getElem?_mapIdx -> Pw, getElem?_eq_getElem -> Px, getElem_ofFn -> PD, extract_eq_self_of_le -> PE
open _root_.Nat renaming le_refl -> Oy, min -> OD, zero_le -> OE, add_zero -> OM, reduceAdd -> O4, reduceSub -> O5, mul_one -> Pd, min_def -> Pf, lt_of_lt_of_le -> Pi, zero_add -> Pm
open _root_.List renaming size_toArray -> Oz, getElem?_map -> OA, length_nil -> OG, getElem?_toArray -> OH, getElem_map -> OL, length_take -> OO, length_drop -> OP, range -> OQ, append_toArray -> OV, getElem?_take -> OX, getElem?_drop -> OY, all_eq_true -> O0, length_range -> O1, push_toArray -> O8, nil_append -> O9, cons_append -> Pb, mem_range -> Pg, map_id -> Ph, eq_nil_of_length_eq_zero -> Pj, mem_map -> Pk, getElem?_of_mem -> Pn, drop_eq_getElem_cons -> Po, contains_eq_mem -> Pp, mem_of_getElem? -> Pq, length_reverse -> Ps, mem_append_left -> Pu, mem_append_right -> Pv, drop_eq_nil_of_le -> Pz
open _root_.Option renaming getD_some -> OU, map_eq_some_iff -> OW, map_some -> Pe
open _root_.Int renaming tdiv_eq_ediv_of_nonneg -> Pt
open _root_.Bool renaming and_eq_false_iff -> Py
set_option maxHeartbeats 4000000
open Go.RowKit
set_option maxRecDepth 100000
section
variable {P:Program} {o:Oper} {ρ ρ':Operand->AV} {H:AH} {K K':AV->AH->Prop}
theorem OpG.congr {R:AV->AH->Prop} (h:OpG P o ρ H R) (he:∀ x∈o.op.operands,ρ x=ρ' x):OpG P o ρ' H R:=
 λc a K Q hH hr hxs hK=>h c a K Q hH hr (λx hx=>by rw [he x hx];exact hxs x hx) hK
theorem OpG.mono {R R':AV->AH->Prop} (h:OpG P o ρ H R) (hR:∀ r G,R r G->R' r G):OpG P o ρ H R':=
 λc a K Q hH hr hxs hK=>h c a K Q hH hr hxs λv c' r hr1 hr2 hr3 hr4=>hK v c' r (hR _ _ hr1) hr2 hr3 hr4
theorem Jc.opG {r:AV} {H':AH} (h:Jc P o ρ H r H'):OpG P o ρ H λr' G=>r'=r/\G=H':=
 λc a K Q hH hr hxs hK=>h c a K Q hH hr hxs λv c' hc hr2 hr3 hr4=>hK v c' r ⟨rfl,hc⟩ hr2 hr3 hr4
abbrev Xc:=Bool×List Nat
def agr (F:List Nat) (G H:AH):Prop:=∀ b∈F,G[b]? = H[b]?
theorem agr.a0 {b:Nat} {F:List Nat} {G H:AH} (h:agr (b::F) G H) {x:Option ABlk} (hx:H[b]? = some x):G[b]? = some x:=(h b<|by simp).trans hx
theorem agr.a1 {b c:Nat} {F:List Nat} {G H:AH} (h:agr (c::b::F) G H) {x:Option ABlk} (hx:H[b]? = some x):G[b]? = some x:=(h b<|by simp).trans hx
theorem agr.a2 {a b c:Nat} {F:List Nat} {G H:AH} (h:agr (a::c::b::F) G H) {x:Option ABlk} (hx:H[b]? = some x):G[b]? = some x:=(h b<|by simp).trans hx
def nS (W:List Nat) (H H':AH):Prop:=∀ b,b<H.length->b∉W->H'[b]? = H[b]?
theorem jy {b:Nat} {X:Option ABlk}:nS [b] H (H.set b X):=λc _ hc=>List.getElem?_set_ne λe=>hc (by simp [e])
theorem DU {L:AH}:nS [] H (H++L):=λ_ hb _=>gal hb
def sS (P:Program) (o:Oper) (ρ:Operand->AV) (H:AH) (b:Xc) (K:AV->AH->Prop):Prop:=match b.1 with
 | false=>∃ r,(∀ c∈b.2,c<H.length)/\(∀ G,agr b.2 G H->Jc P o ρ G r G)/\K r H
 | true=>OpG P o ρ H λr H'=>nS b.2 H H'/\K r H'
theorem sS.mono {b:Xc} (h:sS P o ρ H b K) (hK:∀ r G,K r G->K' r G):sS P o ρ H b K':=by
 obtain ⟨b,F⟩:=b
 cases b with
 | false=>
  obtain ⟨r,h0,h1,h2⟩:=h;exact ⟨r,h0,h1,hK _ _ h2⟩
 | true=>
  show OpG P o ρ H λr H'=>nS F H H'/\K' r H';exact OpG.mono (R:=λr H'=>nS F H H'/\K r H') h λr G hr=>⟨hr.1,hK _ _ hr.2⟩
theorem sS.congr {b:Xc} (h:sS P o ρ H b K) (he:∀ x∈o.op.operands,ρ x=ρ' x):sS P o ρ' H b K:=by
 obtain ⟨b,F⟩:=b
 cases b with
 | false=>
  obtain ⟨r,h0,h1,h2⟩:=h;exact ⟨r,h0,λG hG=>(h1 G hG).congr he,h2⟩
 | true=>
  show OpG P o ρ' H λr H'=>nS F H H'/\K r H';exact OpG.congr (R:=λr H'=>nS F H H'/\K r H') h he
theorem sS.opG {b:Xc} (h:sS P o ρ H b K):OpG P o ρ H K:=by
 obtain ⟨b,F⟩:=b
 cases b with
 | false=>
  obtain ⟨r,_,h1,h2⟩:=h;refine (Jc.opG<|h1 H λ_ _=>rfl).mono ?_;rintro r' G ⟨rfl,rfl⟩;exact h2
 | true=>exact OpG.mono (R:=λr H'=>nS F H H'/\K r H') h λr G hr=>hr.2
def DV (a b:Xc):Bool := !b.1||a.2.all λx => !b.2.contains x
def DW (P:Program) (ops:Array Oper) (cls:Nat->Xc) (Q:Env->AH->Prop):Nat->Array Bool->Env->AH->Prop
 | 0,listed,e,H=>Region.ready .any ops listed=[]/\Q e H
 | fuel+1,listed,e,H=>(Region.ready .any ops listed=[]->Q e H) /\
  ∀ i∈Region.ready .any ops listed,∃ o,ops[i]? = some o/\sS P o (rho e) H (cls i) λr H'=>DW P ops cls Q fuel (listed.setIfInBounds i true) (lc e o.dst r) H'
theorem z7 {ops:Array Oper} {cls:Nat->Xc} {Q:Env->AH->Prop} {i:Nat} {oi:Oper} {r:AV} {F:List Nat} (hi:ops[i]? = some oi) (hci:cls i=(false,F)) :
  ∀ (fuel:Nat) (listed:Array Bool) (e:Env) (H:AH),
   (∀ (j:Nat) (oj:Oper),ops[j]? = some oj->j≠i->listed.getD j true=false->(∀ ed∈oj.after,Region.binds .any ed=true->ed.on≠i)->oi.apart ops oj=true/\DV (cls i) (cls j)=true) ->
   i∈Region.ready .any ops listed->(∀ c∈F,c<H.length)->(∀ G,agr F G H->Jc P oi (rho e) G r G)->DW P ops cls Q fuel (listed.setIfInBounds i true) (lc e oi.dst r) H->DW P ops cls Q (fuel+1) listed e H:=by
 intro fuel
 induction fuel with
 | zero=>
  intro listed e H _ hr hF hy hA;refine ⟨λh=>(by rw [h] at hr;cases hr),λj hj=>?_⟩
  by_cases hji:j=i
  ·subst hji;exact ⟨oi,hi,by rw [hci];exact ⟨r,hF,hy,hA⟩⟩
  have := ready_mono hj hji;rw [hA.1] at this
  cases this
 | succ fuel ih=>
  intro listed e H hfree hr hF hy hA;refine ⟨λh=>(by rw [h] at hr;cases hr),λj hj=>?_⟩
  by_cases hji:j=i
  ·subst hji;exact ⟨oi,hi,by rw [hci];exact ⟨r,hF,hy,hA⟩⟩
  obtain ⟨oj,hoj,hsj⟩:=hA.2 j<|ready_mono hj hji;obtain ⟨hjun,oj',hoj',hall⟩:=mem_ready.1 hj;rw [hoj] at hoj';injection hoj' with hoj';subst hoj';have hnot:∀ ed∈oj.after,Region.binds .any ed=true->ed.on≠i:=λed he hb heq=>by
   have h1:=hall ed he hb;have h0:=(mem_ready.1 hr).1;rw [heq] at h1;rcases Nat.lt_or_ge i listed.size with h' | h'
   ·simp [h'] at h0 h1;rw [h0] at h1;cases h1
   simp [Array.getElem?_eq_none h'] at h1
  obtain ⟨hap,hcm⟩:=hfree j oj hoj hji hjun hnot;obtain ⟨h1,h2,h3⟩:=Oper.apart_spec hap;have ej:=oD (e:=e) (r:=r) h1;have hfree':∀ (k:Nat) (ok:Oper),ops[k]? = some ok->k≠i->(listed.setIfInBounds j true).getD k true=false->(∀ ed∈ok.after,Region.binds .any ed=true->ed.on≠i)->oi.apart ops ok=true/\DV (cls i) (cls k)=true:=λk ok hk hki hun hno=>by
   refine hfree k ok hk hki ?_ hno
   by_cases hjk:j=k
   ·subst hjk;exact hjun
   rw [getD_set_ne true hjk] at hun;exact hun
  have hsj':=hsj.congr ej;have go:∀ q Hj,(∀ c∈F,c<Hj.length)->(∀ c∈F,Hj[c]? = H[c]?)->DW P ops cls Q fuel ((listed.setIfInBounds i true).setIfInBounds j true) (lc (lc e oi.dst r) oj.dst q) Hj->DW P ops cls Q (fuel+1) (listed.setIfInBounds j true) (lc e oj.dst q) Hj:=λq Hj hF' hHj hAj=>by
   have ei:=oD (e:=e) (oi:=oj) (r:=q) h3;refine ih (listed.setIfInBounds j true) (lc e oj.dst q) Hj hfree' (ready_mono hr<|Ne.symm hji) hF' (λG hG=>(hy G λc hc=>(hG c hc).trans<|hHj c hc).congr λx hx=>(ei x hx).symm) ?_;rw [Array.setIfInBounds_comm _ _ hji,vW (λd hd=>λhd'=>h2 d (by simpa using hd')<|by simpa using hd)];exact hAj
  refine ⟨oj,hoj,?_⟩;rw [hci] at hcm;generalize cls j=cj at hsj' hcm ⊢;obtain ⟨b,W⟩:=cj
  cases b with
  | false=>
   obtain ⟨q,q0,q1,q2⟩:=hsj';exact ⟨q,q0,q1,go q H hF (λ_ _=>rfl) q2⟩
  | true=>
   simp only [DV,Bool.not_true,Bool.false_or,O0,Bool.not_eq_true',Pp,decide_eq_false_iff_not] at hcm;show OpG P oj (rho e) H λr1 H1=>nS W H H1/\DW P ops cls Q (fuel+1) (listed.setIfInBounds j true) (lc e oj.dst r1) H1;refine OpG.mono (R:=λr1 H1=>nS W H H1/\DW P ops cls Q fuel ((listed.setIfInBounds i true).setIfInBounds j true) (lc (lc e oi.dst r) oj.dst r1) H1) hsj' λq Hj ⟨k1,k2⟩=>⟨k1,go q Hj (λc hc=>?_) (λc hc=>k1 c (hF c hc)<|hcm c hc) k2⟩;have := k1 c (hF c hc)<|hcm c hc;rw [geq (hF c hc)] at this;exact (ges this).1
def Hu (ops:Array Oper) (cls:Nat->Xc):List Nat->Array Bool->Bool
 | [],listed=>(Region.ready .any ops listed).isEmpty
 | i::l,listed=>(match ops[i]? with
  | some oi=>if (cls i).1 then Region.ready .any ops listed==[i] else (Region.ready .any ops listed).contains i&&(OQ ops.size).all λj=>j==i||listed.getD j true||(match ops[j]? with
   | some oj=>(oj.after.any λed=>Region.binds .any ed&&ed.on==i)||(oi.apart ops oj&&DV (cls i) (cls j))
   | none=>true)
  | none=>false)&&Hu ops cls l (listed.setIfInBounds i true)
def TX (P:Program) (ops:Array Oper) (cls:Nat->Xc):List Nat->(Env->AH->Prop)->Env->AH->Prop
 | [],K,e,H=>K e H
 | i::l,K,e,H=>∃ o,ops[i]? = some o/\sS P o (rho e) H (cls i) λr H'=>TX P ops cls l K (lc e o.dst r) H'
theorem xZ {ops:Array Oper} {cls:Nat->Xc} {Q:Env->AH->Prop}:∀ (l:List Nat) (listed:Array Bool) (e:Env) (H:AH),Hu ops cls l listed=true->TX P ops cls l Q e H->DW P ops cls Q l.length listed e H
 | [],listed,e,H,hc,h=>⟨by simpa [Hu] using hc,h⟩
 | i::l,listed,e,H,hc,h=>by
  obtain ⟨oi,hi,hs⟩:=h;simp only [Hu,hi,bae] at hc;obtain ⟨hc1,hc2⟩:=hc;generalize hci:cls i=ci at hc1 hs;obtain ⟨b,F⟩:=ci
  cases b with
  | true=>
   simp only [if_true,beq_iff_eq] at hc1;refine ⟨λhn=>(by rw [hc1] at hn;cases hn),λj hj=>?_⟩;rw [hc1,List.mem_singleton] at hj;subst hj;exact ⟨oi,hi,by rw [hci];exact sS.mono (b:=(true,F)) hs λr G hr=>xZ l _ _ _ hc2 hr⟩
  | false=>
   obtain ⟨r,hF,hy,hK⟩:=hs;simp only [Bool.false_eq_true,if_false,bae,Pp,dte,O0,Pg] at hc1;refine z7 hi hci l.length listed e H (λj oj hj hne hun hno=>?_) hc1.1 hF hy<|xZ l _ _ _ hc2 hK;have hjs:j<ops.size:=(OT.1 hj).1;have := hc1.2 j hjs;simp only [hj,hun,Bool.or_eq_true,beq_iff_eq,hne,false_or,Bool.false_eq_true,bae] at this;rw [hci];rcases this with h1 | h1
   ·rw [Array.any_eq_true'] at h1;obtain ⟨ed,h2,h3⟩:=h1;simp only [bae,beq_iff_eq] at h3;exact absurd h3.2<|hno ed h2 h3.1
   exact h1
theorem uH {nt:Nat} {ops:Array Oper} {cls:Nat->Xc} {Q:Exit->Env->AH->Prop} (hd:AP nt ops.toList=true) (hg:ops.all (λo=>o.guard.isNone)=true):∀ (fuel:Nat) (listed:Array Bool) (e:Env) (H:AH),DW P ops cls (Q .normal) fuel listed e H ->
  ∀ (c c0:Cx) (a:Act),c.H=H->Ext c0 c->SRel c nt e a->wpAny P .any ops (Gm nt c0 Q) fuel listed a c.w
 | 0,listed,e,H,h,c,c0,a,hH,hx,hs=>⟨h.1,trivial,c,e,rfl,hx,hs,hH ▸ h.2⟩
 | fuel+1,listed,e,H,h,c,c0,a,hH,hx,hs=>by
  refine ⟨λhr=>⟨trivial,c,e,rfl,hx,hs,hH ▸ h.1 hr⟩,λi hi=>?_⟩;obtain ⟨o,ho,hst⟩:=h.2 i hi;have hm:o∈ops.toList:=by rw [Array.mem_toList_iff];exact Array.mem_of_getElem? ho
  have hgn:o.guard=none:=by
   rw [Array.all_eq_true] at hg;obtain ⟨hlt,rfl⟩:=OT.1 ho;simpa using hg i hlt
  have hw:Region.wanted o (yielded ops a.tmps)=true:=by simp [Region.wanted,hgn]
  unfold wpOp;simp only [ho];rw [if_pos hw];refine .inl<|hst.opG c a _ _ hH hs.heap (λx _=>hs.rho x) λv c' r hA hr' hx' hv=>?_;exact uH hd hg fuel _ _ _ hA c' c0 _ rfl (hx.trans hx')<|hs.put o.dst (kP hd hm) hx' hr' hv
end
section
variable {P:Program} {nt b0:Nat} {Q:Exit->Env->AH->Prop} {e:Env} {H H':AH} {r:AV}
theorem T.drawX {i:Nat} {ops:Array Oper} (ord:List Nat) (cls:Nat->Xc) (hm:P.follows .mixedOrders=true) (hg:ops.all (λo=>o.guard.isNone)=true) (hc:(Hu ops cls ord (Array.replicate ops.size false)&&(ord.length==ops.size))=true) (h:TX P ops cls ord (Q .normal) e H):T P nt b0 (.region i ops true) Q e H:=by
 intro hok c c0 a hH hb hx hs;simp only [codeOk] at hok;simp only [bae,beq_iff_eq] at hc;refine wp_region_any hm ?_;have hlex:=xZ ord (Array.replicate ops.size false) e H hc.1 h;have := uH hok hg ord.length _ e H hlex c.drew c0 a hH (hx.trans c.drew_ext) ⟨hs.size,hs.defers,λt=>(hs.rel t).ext hs.heap c.drew_ext,Cx.drew_rel hs.heap⟩;rw [hc.2] at this;exact this
variable {d:Tmp} {op:Op} {ty:TypeId} {pos:String} {af:Array Edge} {en:List (Nat×AV)} {cls:Nat->Xc} {ops:Array Oper} {i:Nat} {K:Env->AH->Prop} {l:List Nat}
theorem TX.nil (h:K e H):TX P ops cls [] K e H:=h
theorem xN (h0:ops[i]? = some ⟨some d,op,ty,pos,af,none⟩) (hc:cls i=(false,[])) (hv:Jf P (rho<|ax en) op r) (h:TX P ops cls l K (ax ((d,r)::en)) H):TX P ops cls (i::l) K (ax en) H:=
 ⟨_,h0,by rw [hc];exact ⟨r,λ_ h=>(by cases h),λG _=>hv _ rfl G,h⟩⟩
theorem xR (F:List Nat) (h0:ops[i]? = some ⟨some d,op,ty,pos,af,none⟩) (hc:cls i=(false,F)) (hb:F.all (λb=>Nat.blt b H.length)=true) (hv:∀ G,agr F G H->EvA P (rho<|ax en) op G r G) (h:TX P ops cls l K (ax ((d,r)::en)) H):TX P ops cls (i::l) K (ax en) H:=
 ⟨_,h0,by rw [hc];exact ⟨r,λb hm=>nlb<|O0.1 hb b hm,λG hG=>hv G hG _ rfl,h⟩⟩
theorem xT {W:List Nat} {o:Oper} {R:AV->AH->Prop} {e:Env} (h0:ops[i]? = some o) (hc:cls i=(true,W)) (hv:OpG P o (rho e) H R) (hk:∀ r G,R r G->nS W H G/\TX P ops cls l K (lc e o.dst r) G):TX P ops cls (i::l) K e H:=by
 refine ⟨o,h0,?_⟩;rw [hc];exact OpG.mono (R':=λr H'=>nS W H H'/\TX P ops cls l K (lc e o.dst r) H') hv hk
theorem xA {W:List Nat} (h0:ops[i]? = some ⟨some d,op,ty,pos,af,none⟩) (hc:cls i=(true,W)) (hv:EvA P (rho<|ax en) op H r H') (hk:nS W H H') (h:TX P ops cls l K (ax ((d,r)::en)) H'):TX P ops cls (i::l) K (ax en) H:=
 xT h0 hc (Jc.opG<|hv ⟨some d,op,ty,pos,af,none⟩ rfl) λr' G hG=>by obtain ⟨e1,e2⟩:=hG;subst e1 e2;exact ⟨hk,h⟩
theorem xV {W:List Nat} (h0:ops[i]? = some ⟨none,op,ty,pos,af,none⟩) (hc:cls i=(true,W)) (hv:EvA P (rho<|ax en) op H r H') (hk:nS W H H') (h:TX P ops cls l K (ax en) H'):TX P ops cls (i::l) K (ax en) H:=
 xT h0 hc (Jc.opG<|hv ⟨none,op,ty,pos,af,none⟩ rfl) λr' G hG=>by obtain ⟨e1,e2⟩:=hG;subst e1 e2;exact ⟨hk,h⟩
theorem xG {cl:Call} {f:Operand} {g:FuncId} {iX Jq:List AV} {w m:Nat} {ety:TypeId} {mk:AV->AV} {n:Nat} {rows:List (List AV)} (h0:ops[i]? = some ⟨some d,.call cl,ty,pos,af,none⟩) (hci:cls i=(true,[])) (hc:cl.callee = .value f) (hf:rho (ax en) f = .fn (.func g) iX) (ha:cl.args.toList.map (rho<|ax en)++iX=Jq)
  (h:dD P g Jq H<|wU w ety mk n rows m H) (k:∀ g ver,(g=true->n=0)->TX P ops cls l K (ax ((d,mk<|hS g m ver w n)::en)) (H++[bE g ver w ety rows])):TX P ops cls (i::l) K (ax en) H:=by
 subst ha;exact xT h0 hci (mS rfl hc hf h) λr' G ⟨g',qq,hg,hr,hH⟩=>by
  subst hr hH;exact ⟨DU,k g' qq hg⟩
theorem xGW {cl:Call} {f:Operand} {g:FuncId} {iX as0:List AV} {b w0 ver w:Nat} {g0:Bool} {ty0 ty1:TypeId} {kg rows:List (List AV)} {mk:AV->AV} {n:Nat} (h0:ops[i]? = some ⟨some d,.call cl,ty,pos,af,none⟩) (hci:cls i=(true,[b])) (hc:cl.callee = .value f) (hf:rho (ax en) f = .fn (.func g) iX)
  (h:dD P g as0 [bE g0 ver w0 ty0 kg]<|wU w ty1 mk n rows 0 []) (hb:H[b]? = some (bE g0 ver w0 ty0 kg)) (has:RenL (λc i=>[b][i]? = some c) (cl.args.toList.map (rho<|ax en)++iX) as0) (hk0:∀ r∈kg,∀ a∈r,isF 9 a=true) (hk:∀ r∈rows,∀ a∈r,isF 9 a=true)
  (hmk:∀ (S:Nat->Nat->Prop) (a b:AV),Ren S a b->Ren S (mk a) (mk b)) (k:∀ g' qq,(g'=true->n=0)->TX P ops cls l K (ax ((d,mk<|hS g' b qq w n)::en)) (H.set b<|bE g' qq w ty1 rows)):TX P ops cls (i::l) K (ax en) H:=
 xT h0 hci (mS rfl hc hf<|h.wown hb has hk0 hk hmk) λr' G ⟨g',qq,hg,hr,hH⟩=>by
  subst hr hH;exact ⟨jy,k g' qq hg⟩
end
def EqS (a b:AV):Prop:=∀ (w:World) (fz:Nat->Prop) (v:Value),FRel w fz a v->FRel w fz b v
def Aj:List AV->List AV->Prop
 | [],[]=>True
 | a::r,b::q=>EqS a b/\Aj r q
 | _,_=>False
theorem EqS.refl (a:AV):EqS a a:=λ_ _ _ h=>h
theorem Aj.refl:∀ r:List AV,Aj r r
 | []=>trivial
 | a::r=>⟨EqS.refl a,Aj.refl r⟩
theorem Aj.len:∀ {r q:List AV},Aj r q->r.length=q.length
 | [],[],_=>rfl
 | a::r,b::q,h=>by rw [llc,llc,Aj.len h.2]
 | [],_::_,h=>h.elim
 | _::_,[],h=>h.elim
theorem Aj.get:∀ {r q:List AV},Aj r q->∀ {j:Nat} {b:AV},q[j]? = some b->∃ a,r[j]? = some a/\EqS a b
 | [],[],_,j,b,h=>by simp at h
 | a::r,b::q,h,0,c,hc=>by
  simp only [List.getElem?_cons_zero,sie] at hc;subst hc;exact ⟨a,rfl,h.1⟩
 | a::r,b::q,h,j+1,c,hc=>by
  simp only [List.getElem?_cons_succ] at hc ⊢;exact h.2.get hc
 | [],_::_,h,_,_,_=>h.elim
 | _::_,[],h,_,_,_=>h.elim
theorem EqS.sl {n:Nat} {row row':Nat->List AV} (he:∀ i,i<n->Aj (row i) (row' i)):EqS (.sl n row) (.sl n row'):=λw fz v h=>by
 cases h with
 | @sl _ cap s g o _ a us hc hm ha hs hu h1 h3=>
  refine .sl (s:=s) (g:=g) (o:=o) us hc hm ha (λi hi=>?_) (λi j b hi hj=>?_) (λi j b hi hj=>?_) λi j b hi hj=>?_
  ·rw [<- (he i hi).len];exact hs i hi
  ·obtain ⟨a',ha',_⟩:=(he i hi).get hj;exact hu i j a' hi ha'
  ·obtain ⟨a',ha',_⟩:=(he i hi).get hj;exact h1 i j a' hi ha'
  obtain ⟨a',ha',e⟩:=(he i hi).get hj;exact e _ _ _<|h3 i j a' hi ha'
theorem EqS.fp {row row':List AV} (he:Aj row row') {j:Nat}:EqS (.fp row j) (.fp row' j):=λw fz v h=>by
 cases h with
 | fp us hg hlt hu h1 h3=>
  refine .fp us hg hlt (λj b hj=>?_) (λj b hj=>?_) λj b hj=>?_
  ·obtain ⟨a',ha',_⟩:=he.get hj;exact hu j a' ha'
  ·obtain ⟨a',ha',_⟩:=he.get hj;exact h1 j a' ha'
  obtain ⟨a',ha',e⟩:=he.get hj;exact e _ _ _<|h3 j a' ha'
theorem EqS.eL {α β:Type} [Inhabited α] [Inhabited β] {f:α->List AV} {g:β->List AV} {i:α->β} (h:∀ x,Aj (f x)<|g<|i x) (l:List α):EqS (eL f l) (eL g<|l.map i):=by
 unfold Go.Proofs.YtjcmfddobaplbaaGreat.eL;rw [llm];refine .sl λk hk=>?_;have e1:l.getD k default=l[k]:=by rw [gdq,geq hk];rfl
 have e2:(l.map i).getD k default=i l[k]:=by rw [gdq,OA,geq hk];rfl
 rw [e1,e2];exact h _
section
variable {P:Program} {ρ:Operand->AV} {x:Operand} {t e:TypeId} {ag:Bool}
end
section
variable {P:Program} {ρ:Operand->AV} {H:AH}
end
section
variable {α β:Type} [Inhabited β] {f:α->List Value} {s:Nat} {c:β->List AV} {w:World} {fz:Nat->Prop} {v:Value}
theorem qJ {u x:Value} (h:FRel w fz (.v u) x):x=u:=by
 cases h with
 | v _=>rfl
theorem uI {e:β->α} (hf:∀ x,c x=(f<|e x).map AV.v) (hs:∀ x,(f<|e x).length=s) {l:List β} (h:FRel w fz (eL c l) v):Sl f s w 0 w.heap.size v (l.map e):=by
 unfold eL at h
 cases h with
 | sl us hc hm ha hr hu h1 h=>
  refine ⟨_,_,by rw [llm],by simpa using hc,hm,λhn=>?_⟩;rw [llm] at hn;obtain ⟨rfl,hg,hlt⟩:=ha hn;refine ⟨_,_,rfl,OE _,hlt,hlt,λk hk j u hu' => ?_⟩;rw [llm] at hk;rw [OL] at hu';have hk0:l.getD k default=l[k]:=by simp [List.getD,hk]
  have hrow:(c<|l.getD k default)[j]? = some (.v u):=by rw [hk0,hf,OA,hu'];rfl
  have hs':=hr k hk
  dsimp only at hs'
  rw [hf,llm,hs] at hs';subst hs';have h2:=hu k j _ hk hrow;rw [qJ (h k j _ hk hrow)] at h2;exact h2
theorem qK {e:β->α} (hf:∀ x,c x=(f<|e x).map AV.v) (hs:∀ x,(f<|e x).length=s) {l:List (List β)} (h:FRel w fz (eL (cL c) l) v):zI f s w 0 w.heap.size v (l.map λr=>r.map e):=by
 unfold eL at h
 cases h with
 | sl us hc hm ha hr hu h1 h=>
  refine ⟨(OQ l.length).map λi=>us i 0,?_,by simp,λk hk hk' => ?_⟩
  ·refine ⟨_,_,by rw [llm,O1],by simpa using hc,hm,λhn=>?_⟩;rw [llm,O1] at hn;obtain ⟨rfl,hg,hlt⟩:=ha hn;refine ⟨_,_,rfl,OE _,hlt,hlt,λk hk j u hu' => ?_⟩;rw [llm,O1] at hk;rw [OL,List.getElem_range] at hu';have hs':=hr k hk;change 1=_ at hs';subst hs'
   match j with
   | 0=>
    have h2:=hu k 0 _ hk rfl;rw [h2];simpa [Gv] using hu'
   | j+1=>simp [Gv] at hu'
  rw [llm,O1] at hk;rw [OL,OL,List.getElem_range];have h2:=h k 0 _ hk rfl;have hk0:l.getD k default=l[k]:=by simp [List.getD,hk]
  rw [hk0] at h2;exact uI hf hs h2
theorem z8 {e:α->β} (hf:∀ x,c (e x)=(f x).map AV.v) (hs:∀ x,(f x).length=s) (hp:∀ x,∀ u∈f x,plain u=true) {l:List α} {hi:Nat} (h:Sl f s w 0 hi v l):FRel w (λg=>g<w.heap.size) (eL c<|l.map e) v:=by
 obtain ⟨A,cap,rfl,hc,hm,h⟩:=h;have key:∀ (g o:Nat),(0<l.length->A=some ⟨g,o,none⟩/\g<w.heap.size/\∀ (k:Nat) (h:k<l.length) (j:Nat) (u:Value),(f l[k])[j]? = some u->w.cell? ⟨g,o+k*s+j,none⟩=some u)->FRel w (λg=>g<w.heap.size) (eL c<|l.map e) (.slice A l.length cap):=by
  intro g o hh;have hrow:∀ (i j:Nat) (a:AV),i<l.length->(c<|(l.map e).getD i default)[j]? = some a->∃ u,l[i]?.bind (λx=>(f x)[j]?)=some u/\a = .v u/\plain u=true/\w.cell? ⟨g,o+i*s+j,none⟩=some u:=by
   intro i j a hi ha;have h0:(l.map e).getD i default=e l[i]:=by simp [List.getD,hi]
   rw [h0,hf,OA] at ha
   cases hq:(f l[i])[j]? with
   | none=>rw [hq] at ha;cases ha
   | some u=>
    rw [hq] at ha;refine ⟨u,by rw [geq hi];exact hq,(osl ha).symm,hp _ u<|Pq hq,(hh<|by omega).2.2 i hi j u hq⟩
  have e0:(l.map e).length=l.length:=by simp
  unfold eL;rw [e0];refine FRel.sl (s:=s) (g:=g) (o:=o) (λi j=>(l[i]?.bind λx=>(f x)[j]?).getD<|.bool false) hc hm (λhn=>⟨(hh hn).1,(hh hn).2.1,(hh hn).2.1⟩) (λi hi=>?_) (λi j a hi ha=>?_) (λi j a hi ha=>?_) λi j a hi ha=>?_
  ·have h0:(l.map e).getD i default=e l[i]:=by simp [List.getD,hi]
   rw [h0,hf,llm,hs]
  ·obtain ⟨u,h1,h2,h3,h4⟩:=hrow i j a hi ha;simp only [h1,OU];exact h4
  ·obtain ⟨u,h1,h2,h3,h4⟩:=hrow i j a hi ha;simp only [h1,OU];exact rF h3
  obtain ⟨u,h1,h2,h3,h4⟩:=hrow i j a hi ha;subst h2;simp only [h1,OU];exact .v h3
 by_cases h0:0<l.length
 ·obtain ⟨b,o,hA,_,_,hlt,hcell⟩:=h h0;exact key b o λ_=>⟨hA,hlt,hcell⟩
 exact key 0 0 λh1=>absurd h1 h0
theorem vD {P:Program} {g:FuncId} {ars:List AV} {r:AV} (h:aX P g ars r) (vs:Array Value) (hl:vs.size=ars.length) (hr:∀ (i:Nat) (a:AV) (v:Value),ars[i]? = some a->vs[i]? = some v->FRel w (λg=>g<w.heap.size) a v) (hgl:Gl w (λg=>g<w.heap.size):=by exact Al) :
  Calls P g vs w λe w'=>∃ v fz',e = .returned v/\Below w.heap.size w w'/\FRel w' fz' r v:=
 (h.2 w _ vs (λg hg=>hg) hgl hl hr).mono λe w' ⟨v,fz',h1,h2,h3,_⟩=>⟨v,fz',h1,h2,h3⟩
theorem IA {a:AV} {u:Value} (h:FRel w fz a u):∀ (i:Nat) (a':AV) (v:Value),[a][i]? = some a' -> #[u][i]? = some v->FRel w fz a' v:=by
 intro i a' v h1 h2
 match i with
 | 0=>
  obtain rfl:=osl h1;obtain rfl:u=v:=by simpa using h2
  exact h
 | i+1=>simp at h1
end
theorem Aa {w:World} {v:Value} {hi:Nat} {l:LI} (h:Sl xw 1 w 0 hi v l):FRel w (λg=>g<w.heap.size) (eL cY l) v:=by
 have := z8 (f:=xw) (s:=1) (c:=cY) (e:=id) (λ_=>rfl) (λ_=>rfl) (λx u hu=>by simp [xw] at hu;subst hu;rfl) h
 rwa [Ph] at this
theorem yc {P:Program} {g:FuncId} {ars:List AV} {w:World} {vs:Array Value} (h:aX P g ars<|Bo true) (hl:vs.size=ars.length) (hr:∀ (i:Nat) (a:AV) (v:Value),ars[i]? = some a->vs[i]? = some v->FRel w (λg=>g<w.heap.size) a v) (hgl:Gl w (λg=>g<w.heap.size):=by exact Al) :
  Calls P g vs w λe w'=>e = .returned (.bool true)/\Below w.heap.size w w':=
 (vD h vs hl hr hgl).mono λe w' ⟨v,fz',h1,h2,h3⟩=>⟨by rw [h1,qJ h3],h2⟩
theorem Hv {vs:Array Value} {a:AV} (hl:vs.size=[a].length):∃ u,vs = #[u]:=by
 obtain ⟨l⟩:=vs
 match l,hl with
 | [u],_=>exact ⟨u,rfl⟩
abbrev jA:=@TO.nil
abbrev jC:=@T.region
abbrev jE:=@T.block
abbrev jG:=@T.skip
abbrev jH:=@T.seq
abbrev jI:=@T.sr
abbrev jK:=@T.ret
abbrev jM:=@T.exit
abbrev jN:=@T.ifH
abbrev jO:=@T.loop
abbrev jP:=@T.drawF
abbrev jQ:=@Fin.ret
abbrev jR:=@TF.nil
theorem qC {m:Nat} {H:AH} {a:AV} (h:isF 9 a=true):Fz m H a a:=.of_isF 9 _ h
theorem qD {α:Sort _} {β:α->Sort _} {f:(x:α)->β x}:∀ x,f x=f x:=λ_=>rfl
theorem dO (p:List<|List Ji) {q} (h:aJ p=some q):aX Tryz.prog 16 [eL (cL Ji.c) p] (Bo q):=by
 unfold aJ at h;obtain ⟨⟨h1,h2⟩,h⟩:=gdD h;obtain rfl:=osl h;refine ⟨by kernel_rfl,λw fz vs hlt _ hl hrel=>?_⟩;obtain ⟨u,rfl⟩:=Hv hl;have hs:=qK (f:=Ins.cells) (s:=4) (e:=iN) (λ_=>rfl) (λ_=>rfl)<|hrel 0 _ u rfl rfl;refine (mD hs (Oy _)<|by rw [Bl];exact h2).mono λe w' ⟨he,hb⟩ => ?_;exact ⟨_,fz,he,hb,.v Z,λg hg=>hg,λg hg => .inl hg,λg hg=>Pi (hlt g hg) hb.size⟩
theorem Ab {w:World} {g o:Nat} {sp:Bool} (hc:w.cell? ⟨g,o+16,none⟩=some (.bool sp)) {t l:Int} (ht:0<=t/\t<3) (hl:0<=l/\l<3) :
  Calls Tryz.prog 253 #[.pointer (some ⟨g,o,none⟩),.int .i64 t,.int .i64 l] w λe w'=>e = .returned (.int .i64<|fD sp t l)/\w'=w:=by
 obtain ⟨t1,t2⟩:=ht;obtain ⟨l1,l2⟩:=hl
 cases sp with
 | true=>
  go_enter Tryz.func253,Tryz.ntmps253
  go_wp2
  go_ret
  exact ⟨rfl,rfl⟩
 | false=>
  go_enter Tryz.func253,Tryz.ntmps253
  go_wp2
  go_ret
  exact ⟨rfl,rfl⟩
def IV:Code:=match (Tryz.f252).body with
 | some (.seq _<|.seq (.seq c _) _)=>c
 | _ => .skip
def IX:Code:=match (Tryz.f252).body with
 | some (.seq _<|.seq _<|.seq c _)=>c
 | _ => .skip
theorem FV {w:World} {g o:Nat} {sp:Bool} (hsp:w.cell? ⟨g,o+16,none⟩=some (.bool sp)) {wb wo wl wc:Nat} (hw:w.cell? ⟨g,o+17,none⟩=some (.slice (some ⟨wb,wo,none⟩) wl wc))
  (hg:g<w.heap.size) (hwb:wb<w.heap.size) {t loc:Int} (ht:0<=t/\t<3) (hl:0<=loc/\loc<3) (hi0:0<=fD sp t loc) (hi:fD sp t loc<(wl:Int)) {A:Option Addr} {n cap:Nat} (hwi:w.cell? ⟨wb,wo+(fD sp t loc).toNat,none⟩=some (.slice A n cap))
  (BK:∀ W:World,Calls Tryz.prog 258 #[.slice A n cap] W λe w'=>e = .returned (.func (.func 260) #[] #[.pointer (some ⟨W.heap.size,0,none⟩)])/\w'=W.alloc (.cells #[.slice A n cap] 22))
  {K:Act->World->Prop} (h:K { tmps := #[.pointer (some ⟨g,o,none⟩),.int .i64 t,.int .i64 loc,undef,undef,.pointer (some ⟨w.heap.size,0,none⟩),.pointer (some ⟨w.heap.size+1,0,none⟩),undef,undef,.pointer (some ⟨g,o,none⟩),.pointer (some ⟨g,o,none⟩),.pointer (some ⟨g,o+17,none⟩),.slice (some ⟨wb,wo,none⟩) wl wc,.pointer (some ⟨g,o,none⟩),.int .i64 t,.int .i64 loc,.int .i64 (fD sp t loc),.pointer (some ⟨wb,wo+(fD sp t loc).toNat,none⟩),.slice A n cap,.func (.func 260) #[] #[.pointer (some ⟨w.heap.size+1+1,0,none⟩)],undef,undef,undef,undef,undef,undef,undef,undef,undef,undef,undef,undef,undef,undef,undef,undef],defers:=[] } (((w.alloc<|.cells #[.int .i64 loc] 3).alloc<|.cells #[.int .u8 0] 5).alloc<|.cells #[.slice A n cap] 22).drew) :
  IV.wp Tryz.prog (Exit.then K λ_ _ _=>False) { tmps := #[.pointer (some ⟨g,o,none⟩),.int .i64 t,.int .i64 loc,undef,undef,.pointer (some ⟨w.heap.size,0,none⟩),.pointer (some ⟨w.heap.size+1,0,none⟩),undef,undef,undef,undef,undef,undef,undef,undef,undef,undef,undef,undef,undef,undef,undef,undef,undef,undef,undef,undef,undef,undef,undef,undef,undef,undef,undef,undef,undef],defers:=[] } ((w.alloc<|.cells #[.int .i64 loc] 3).alloc<|.cells #[.int .u8 0] 5):=by
 obtain ⟨t1,t2⟩:=ht;obtain ⟨l1,l2⟩:=hl;have BU:∀ W:World,W.cell? ⟨g,o+16,none⟩=some (.bool sp)->Calls Tryz.prog 253 #[.pointer (some ⟨g,o,none⟩),.int .i64 t,.int .i64 loc] W λe w'=>e = .returned (.int .i64<|fD sp t loc)/\w'=W:=λW h=>Ab h ⟨t1,t2⟩ ⟨l1,l2⟩;have e:IV=Code.region 1 _ true:=rfl;rw [e]
 go_region_with (first
  | (go_at_call 253;refine (BU _ ?_).mono ?_;(exact (((((Below.refl w.heap.size w).alloc (Oy _) _).alloc (by simp) _).drew).cell (p:=⟨g,o+16,none⟩) hg).trans hsp);rintro e w' ⟨rfl,rfl⟩)
  | (go_at_call 258;refine (BK _).mono ?_;rintro e w' ⟨rfl,rfl⟩))
 all_goals exact h
theorem FW {W:World} {g o LB RB:Nat} {t loc m:Int} (hl:0<=loc/\loc<3) (hc5:W.cell? ⟨LB,0,none⟩=some (.int .i64 loc)) (hc6:W.cell? ⟨RB,0,none⟩=some (.int .u8 0)) (hf6:W.frozen? ⟨RB,0,none⟩=false) (hm:W.cell? ⟨g,o+13+loc.toNat,none⟩=some (.int .u8 m)) {ds:List Deferred} {A9 A10 A11 A12 A13 A14 A15 A16 A17 A18 A19:Value}
  {K:Act->World->Prop} (h:K { tmps := #[.pointer (some ⟨g,o,none⟩),.int .i64 t,.int .i64 loc,undef,undef,.pointer (some ⟨LB,0,none⟩),.pointer (some ⟨RB,0,none⟩),undef,undef,A9,A10,A11,A12,A13,A14,A15,A16,A17,A18,A19,undef,undef,undef,undef,undef,undef,undef,undef,undef,.pointer (some ⟨g,o,none⟩),.int .i64 loc,.pointer (some ⟨g,o,none⟩),.pointer (some ⟨g,o,none⟩),.pointer (some ⟨g,o+13,none⟩),.pointer (some ⟨g,o+13+loc.toNat,none⟩),.int .u8 m],defers:=ds } (W.setCell ⟨RB,0,none⟩<|.int .u8 m).drew) :
  IX.wp Tryz.prog (Exit.then K λ_ _ _=>False) { tmps := #[Value.pointer (some ⟨g,o,none⟩),.int .i64 t,.int .i64 loc,undef,undef,.pointer (some ⟨LB,0,none⟩),.pointer (some ⟨RB,0,none⟩),undef,undef,A9,A10,A11,A12,A13,A14,A15,A16,A17,A18,A19,undef,undef,undef,undef,undef,undef,undef,undef,undef,undef,undef,undef,undef,undef,undef,undef],defers:=ds } W:=by
 obtain ⟨l1,l2⟩:=hl;have e:IX=Code.region 5 _ true:=rfl;rw [e]
 go_region
 all_goals exact h
open Go.RowKit Go.Shelf
theorem yd (F:Fence) (n:Nat) (hf:F.fn 258) (hro:F.round=none) (a:Option Addr) (len cap:Nat) (w:World) :
  CallsIn F n Tryz.prog 258 #[.slice a len cap] w λe w'=>e = .returned (.func (.func 260) #[] #[.pointer (some ⟨w.heap.size,0,none⟩)])/\w'=w.alloc (.cells #[.slice a len cap] 22):=by
 refine callsIn_of_wp Tryz.func258 rfl hf ?_ hro;simp only [Tryz.ntmps258,Oz,llc,OG,O4,O5,O6,O7,O8,OV,O9,Pb]
 gi_wp2
 go_ret
 exact ⟨rfl,rfl⟩
section
attribute [local go_sem] Oper.semAt_some
def ql {α:Type} (f:Nat->α) (k:Nat):List α:=(OQ k).map f
theorem qm {α:Type} (f:Nat->α) (k:Nat):ql f (k+1)=ql f k++[f k]:=by simp [ql,List.range_succ]
theorem wR {α:Type} (f:Nat->α) (k:Nat):(ql f k).length=k:=by simp [ql]
abbrev BX:={ x:Int×Int // 0<=x.2/\x.2<=255 }
def Gd (zs:LI):Prop:=∀ j:Nat,0<=zs[j]?.getD 0/\zs[j]?.getD 0<=255
def lY (zs:LI) (hz:Gd zs) (len k:Nat):BX:=⟨((len:Int)-1-k,zs[len-1-k]?.getD 0),hz _⟩
set_option maxHeartbeats 2000000 in
theorem DX (F:Fence) (n:Nat) (h7:F.fn 260) (hro:F.round=none) (hn:1<=n) (l Bs n₀ b off len cap:Nat) (zs:LI) (hz:Gd zs) (hreach:len<=9223372036854775807) (hb:b<n₀) (J Jx:List BX->World->Prop)
  (hY:∀ pre x W,J pre W->pre.length<len->YieldAt F (n-1) Tryz.prog l #[.int .i64 x.1.1,.int .u8 x.1.2] W λe W'=>
   (e = .returned (.bool true)/\J (pre++[x]) W'/\Below n₀ W W')\/(e = .returned (.bool false)/\Jx (pre++[x]) W'))
  (W:World) (hBs:W.cell? ⟨Bs,0,none⟩=some (.slice (some ⟨b,off,none⟩) len cap)) (hBn:Bs<n₀) (hc:∀ j,j<len->W.cell? ⟨b,off+j,none⟩=some (.int .u8<|zs[j]?.getD 0)) (h0:J [] W) :
  CallsIn F n Tryz.prog 260 #[.func (.yield l) #[] #[],.pointer (some ⟨Bs,0,none⟩)] W λe W'=>(∃ v,e = .returned v) /\
   ((∃ ys,ys=ql (lY zs hz len) len/\J ys W')\/(∃ pre,(∃ k,k<=len/\pre=ql (lY zs hz len) k)/\Jx pre W')):=by
 refine callsIn_of_wp Tryz.func260 rfl h7 ?_ hro;simp only [Tryz.ntmps260,Oz,llc,OG,O4,O5,O6,O7,O8,OV,O9,Pb]
 gi_wp2
 gi_loopw [3] (λi wr=>∃ k:Nat,k<=len/\i = .int .i64 ((len:Int)-1-k)/\J (ql (lY zs hz len) k) wr/\Below n₀ W wr)
  (λi _=>(intOf i+1).toNat)
 case atStart=>exact ⟨0,OE _,by simp,h0,Below.refl _ _⟩
 case round=>
  obtain ⟨k,hk,rfl,hJs,hnx⟩:=hrel;have hcb:wr.cell? ⟨Bs,0,none⟩=some (.slice (some ⟨b,off,none⟩) len cap):=(hnx.cell (p:=⟨Bs,0,none⟩) hBn).trans hBs;have hcx:k<len->wr.cell? ⟨b,off+(len-1-k),none⟩=some (.int .u8<|zs[len-1-k]?.getD 0):=λh=>(hnx.cell (p:=⟨b,off+(len-1-k),none⟩) hb).trans<|hc _ (by omega)
  by_cases hlt:k<len
  ·obtain ⟨fn,tmps,assign,body,hy,hR⟩:=hY _ (lY zs hz len k) wr hJs (by rw [wR];exact hlt)
   dsimp only [lY] at hy
   have hcx':=hcx hlt;have hix:((len:Int)-1-k).toNat=len-1-k:=by omega
   gi_wp2
   refine hR.mono ?_;rintro e W3 (⟨rfl,hJ3,hk3⟩ | ⟨rfl,hJx3⟩)
   ·gi_wp2
    go_roundw
    case rel=>exact ⟨k+1,by omega,by simp;omega,by rw [qm];exact hJ3,hnx.trans hk3⟩
    case measure=>simp [intOf];omega
   gi_wp2
   refine bodyPost_ret (results_none rfl _ _ _) rfl ?_;exact ⟨⟨_,rfl⟩,.inr ⟨_,⟨k+1,by omega,(qm _ _).symm⟩,hJx3⟩⟩
  obtain rfl:k=len:=by omega
  gi_wp2
  go_end0
  exact ⟨⟨_,rfl⟩,.inl ⟨_,rfl,hJs⟩⟩
set_option maxHeartbeats 2000000 in
theorem DY (F:Fence) (n:Nat) (h7:F.fn 260) (hro:F.round=none) (l Bs:Nat) (A:Option Addr) (cap:Nat) (J:List BX->World->Prop) (W:World) (hBs:W.cell? ⟨Bs,0,none⟩=some (.slice A 0 cap)) (h0:J [] W) :
  CallsIn F n Tryz.prog 260 #[.func (.yield l) #[] #[],.pointer (some ⟨Bs,0,none⟩)] W λe W'=>(∃ v,e = .returned v)/\J [] W':=by
 refine callsIn_of_wp Tryz.func260 rfl h7 ?_ hro;simp only [Tryz.ntmps260,Oz,llc,OG,O4,O5,O6,O7,O8,OV,O9,Pb]
 gi_wp2
 gi_loopw [3] (λi wr=>i = .int .i64 (-1)/\J [] wr) (λ_ _=>0)
 case atStart=>exact ⟨rfl,h0⟩
 case round=>
  obtain ⟨rfl,hJs⟩:=hrel
  gi_wp2
  go_end0
  exact ⟨⟨_,rfl⟩,hJs⟩
end
def uJ (n₀:Nat) (W:World) (A:Option Addr) (zs:LI):Prop:=0<zs.length->∃ b off,A=some ⟨b,off,none⟩/\b<n₀/\∀ j,j<zs.length->W.cell? ⟨b,off+j,none⟩=some (.int .u8<|zs[j]?.getD 0)
theorem uJ.below {n₀:Nat} {V W:World} (h:Below n₀ V W) {A:Option Addr} {zs:LI} (hb:uJ n₀ V A zs):uJ n₀ W A zs:=λh0=>by
 obtain ⟨b,off,e,hb,hc⟩:=hb h0;exact ⟨b,off,e,hb,λj hj=>(h.cell (p:=⟨b,off+j,none⟩) hb).trans<|hc j hj⟩
theorem Ac {zs:LI} {loc m:Int} (h:∀ z∈zs,z.tdiv 16≠loc):p6 zs loc m=m:=by
 unfold p6;have : (zs.reverse.find? λb=>b.tdiv 16==loc)=none:=List.find?_eq_none.2 λz hz=>by
  have := h z<|List.mem_reverse.1 hz;simpa using this
 rw [this]
theorem DZ {zs:LI} {hz:Gd zs} {loc m:Int} {k:Nat} (hk:k+1<=zs.length) (h:(lY zs hz zs.length k).1.2.tdiv 16=loc) (hb:∀ j,j<k->(lY zs hz zs.length j).1.2.tdiv 16≠loc):p6 zs loc m=(lY zs hz zs.length k).1.2.tmod 16:=by
 unfold p6;have hat:∀ (j:Nat) (hj:j<zs.reverse.length),zs.reverse[j]=(lY zs hz zs.length j).1.2:=λj hj=>by
  rw [Ps] at hj;simp only [lY];rw [List.getElem_reverse,geq (by omega),OU]
 have : (zs.reverse.find? λb=>b.tdiv 16==loc)=some (lY zs hz zs.length k).1.2:=by
  refine List.find?_eq_some_iff_getElem.2 ⟨by simpa using h,k,by rw [Ps];omega,hat k _,λj hj=>?_⟩;rw [hat j _];simpa using hb j hj
 rw [this]
theorem Ad (F:Fence) (n:Nat) (h7:F.fn 260) (hro:F.round=none) (hn:1<=n) (Bs n₀:Nat) (A:Option Addr) (cap:Nat) (zs:LI) (hz:Gd zs) (hreach:zs.length<=9223372036854775807) (w:World) (hBs:Bs<n₀) (hn₀:n₀<=w.heap.size)
  (hc:w.cell? ⟨Bs,0,none⟩=some (.slice A zs.length cap)) (hI:uJ n₀ w A zs) :
  SeqStopsK F n Tryz.prog 260 #[.pointer (some ⟨Bs,0,none⟩)] (λx:BX => #[Value.int .i64 x.1.1,Value.int .u8 x.1.2]) (Below n₀) (λys=>ys=ql (lY zs hz zs.length) zs.length) (λpre=>∃ k,k<=zs.length/\pre=ql (lY zs hz zs.length) k) zs.length w:=λl J Jx W hW _ _ hY h0=>by
 have hc':=(hW.cell (p:=⟨Bs,0,none⟩)<|Pi hBs hn₀).trans hc
 by_cases h0l:0<zs.length
 ·obtain ⟨b,off,rfl,hb,hcs⟩:=hI.below (hW.mono hn₀) h0l;exact DX F n h7 hro hn l Bs n₀ b off zs.length cap zs hz hreach hb J Jx hY W hc' hBs hcs h0
 have : zs=[]:=Pj (by omega);subst this;exact (DY F n h7 hro l Bs A cap J W hc' h0).mono λe W' ⟨he,hj⟩=>⟨he,.inl ⟨_,rfl,hj⟩⟩
section
attribute [local go_sem] Oper.semAt_some
theorem FX (n:Nat) (hn:3<=n) {w:World} {g o:Nat} {sp:Bool} (hsp:w.cell? ⟨g,o+16,none⟩=some (.bool sp)) {wb wo wl wc:Nat} (hw:w.cell? ⟨g,o+17,none⟩=some (.slice (some ⟨wb,wo,none⟩) wl wc))
  (hg:g<w.heap.size) (hwb:wb<w.heap.size) {t loc:Int} (ht:0<=t/\t<3) (hl:0<=loc/\loc<3) (hi0:0<=fD sp t loc) (hi:fD sp t loc<(wl:Int)) {A:Option Addr} {zs:LI} {cap:Nat} (hwi:w.cell? ⟨wb,wo+(fD sp t loc).toNat,none⟩=some (.slice A zs.length cap))
  (hz:uJ w.heap.size w A zs) (hreach:zs.length<=9223372036854775807) (hby:Gd zs) {m:Int} (hm:w.cell? ⟨g,o+13+loc.toNat,none⟩=some (.int .u8 m)) :
  CallsIn Fence.wide n Tryz.prog 252 #[.pointer (some ⟨g,o,none⟩),.int .i64 t,.int .i64 loc] w λe W'=>e = .returned (.int .u8<|p6 zs loc m)/\Below w.heap.size w W':=by
 have h1:1<=n:=by omega
 have hro:Fence.wide.round=none:=rfl;have hF:∀ f,Fence.wide.fn f:=λ_=>trivial;have BK:∀ W:World,Calls Tryz.prog 258 #[.slice A zs.length cap] W λe w'=>e = .returned (.func (.func 260) #[] #[.pointer (some ⟨W.heap.size,0,none⟩)])/\w'=W.alloc (.cells #[.slice A zs.length cap] 22):=λW=>(callsIn_wide (n:=n)).1<|yd Fence.wide n (hF _) rfl _ _ _ _;have bL:=Boxed.new w 3<|.int .i64 loc;have bR:=Boxed.new (w.alloc<|.cells #[.int .i64 loc] 3) 5<|.int .u8 0;have bN:=Boxed.new ((w.alloc<|.cells #[.int .i64 loc] 3).alloc<|.cells #[.int .u8 0] 5) 22<|.slice A zs.length cap;rw [World.size_alloc] at bR;rw [World.size_alloc,World.size_alloc] at bN;have hB0:Below w.heap.size w (((w.alloc<|.cells #[.int .i64 loc] 3).alloc<|.cells #[.int .u8 0] 5).alloc<|.cells #[.slice A zs.length cap] 22).drew:=((((Below.refl _ w).alloc (Oy _) _).alloc (by simp) _).alloc (by simp;omega) _).drew;refine callsIn_of_wp_marks Tryz.func252 rfl (hF _) ?_ hro;simp only [Tryz.ntmps252,Oz,llc,OG,O4,O5,O6,O7,O8,OV,O9,Pb]
 gi_wp2_with fail
 refine wpIn_wide.2<|wp_mono (FV hsp hw hg hwb ht hl hi0 hi hwi BK (K:=λa W=>a=_/\W=_) ⟨rfl,rfl⟩) ?_;intro e a W h
 cases e with
 | normal=>
  obtain ⟨rfl,rfl⟩:=h
  gi_wp2_with fail
  have hsz:(((w.alloc<|.cells #[.int .i64 loc] 3).alloc<|.cells #[.int .u8 0] 5).alloc<|.cells #[.slice A zs.length cap] 22).drew.heap.size=w.heap.size+1+1+1:=by simp
  have fL:(((w.alloc<|.cells #[.int .i64 loc] 3).alloc<|.cells #[.int .u8 0] 5).alloc<|.cells #[.slice A zs.length cap] 22).drew.cell? ⟨w.heap.size,0,none⟩=some (.int .i64 loc):=((bL.alloc _).alloc _).cell;have fR:(((w.alloc<|.cells #[.int .i64 loc] 3).alloc<|.cells #[.int .u8 0] 5).alloc<|.cells #[.slice A zs.length cap] 22).drew.cell? ⟨w.heap.size+1,0,none⟩=some (.int .u8 0):=(bR.alloc _).cell;have fF:(((w.alloc<|.cells #[.int .i64 loc] 3).alloc<|.cells #[.int .u8 0] 5).alloc<|.cells #[.slice A zs.length cap] 22).drew.frozen? ⟨w.heap.size+1,0,none⟩=false:=(bR.alloc _).frozen;have fN:(((w.alloc<|.cells #[.int .i64 loc] 3).alloc<|.cells #[.int .u8 0] 5).alloc<|.cells #[.slice A zs.length cap] 22).drew.cell? ⟨w.heap.size+1+1,0,none⟩=some (.slice A zs.length cap):=bN.cell;generalize (((w.alloc<|.cells #[.int .i64 loc] 3).alloc<|.cells #[.int .u8 0] 5).alloc<|.cells #[.slice A zs.length cap] 22).drew=W3 at hB0 hsz fL fR fF fN ⊢;refine wpIn_rangeFunc_ownG hro h1 (gf:=260) (lb:=#[.pointer (some ⟨w.heap.size+1+1,0,none⟩)]) rfl (hF _) (enters_of Tryz.func260 (by kernel_rfl) rfl) (Ad Fence.wide (n-1) (hF _) hro (by omega) (w.heap.size+1+1) (w.heap.size+1+1+1) A cap zs hby hreach W3 (by omega) (by rw [hsz];exact Oy _) fN (λh0=>by obtain ⟨b,off,e,hb,hc⟩:=hz.below hB0 h0;exact ⟨b,off,e,by omega,hc⟩)) belowK_t (belowK_b<|by rw [hsz];exact Oy _) (Below.refl _ _) (λ_=>rfl) (λpre W=>((∀ x∈pre,x.1.2.tdiv 16≠loc)/\W.cell? ⟨w.heap.size,0,none⟩=some (.int .i64 loc)/\W.cell? ⟨w.heap.size+1,0,none⟩=some (.int .u8 0)/\W.frozen? ⟨w.heap.size+1,0,none⟩=false)/\Below w.heap.size w W) (λc pre W=>(c = .ret/\∃ ini last,pre=ini++[last]/\(∀ x∈ini,x.1.2.tdiv 16≠loc)/\last.1.2.tdiv 16=loc/\W.cell? ⟨w.heap.size+1,0,none⟩=some (.int .u8<|last.1.2.tmod 16))/\Below w.heap.size w W) (OwnFrom.and (Own.from (λs A B row hs hg hr=>⟨hs.1,cell_kept hs.2.1 hg hr,cell_kept hs.2.2.1 hg hr,(frozen_kept hs.2.2.1 hg hr).trans hs.2.2.2⟩) _)<|ownFrom_below (Oy _)<|by rw [hsz];omega) (λc=>OwnFrom.and (Own.from (λs A B row hs hg hr=>by obtain ⟨hc,ini,last,e1,e2,e3,e4⟩:=hs;exact ⟨hc,ini,last,e1,e2,e3,cell_kept e4 hg hr⟩) _)<|ownFrom_below (Oy _)<|by rw [hsz];omega) ⟨⟨by simp,fL,fR,fF⟩,hB0⟩ (λx=>{ tmps := #[.pointer (some ⟨g,o,none⟩),.int .i64 t,.int .i64 loc,undef,undef,.pointer (some ⟨w.heap.size,0,none⟩),.pointer (some ⟨w.heap.size+1,0,none⟩),undef,.int .u8 x.1.2,.pointer (some ⟨g,o,none⟩),.pointer (some ⟨g,o,none⟩),.pointer (some ⟨g,o+17,none⟩),.slice (some ⟨wb,wo,none⟩) wl wc,.pointer (some ⟨g,o,none⟩),.int .i64 t,.int .i64 loc,.int .i64 (fD sp t loc),.pointer (some ⟨wb,wo+(fD sp t loc).toNat,none⟩),.slice A zs.length cap,.func (.func 260) #[] #[.pointer (some ⟨w.heap.size+1+1,0,none⟩)],.int .i64 x.1.1,.int .u8 x.1.2,undef,undef,undef,undef,undef,undef,undef,undef,undef,undef,undef,undef,undef,undef],defers:=[] }) ?assign ?body ?done ?stop
  case assign=>
   intro l x W K hK
   gi_wp2
   exact hK
  case body=>
   rintro l pre ⟨⟨xi,xb⟩,hx1,hx2⟩ W ⟨⟨hp,hcl,hcr,hfr⟩,hB⟩ _;simp only at hx1 hx2
   gi_wp2
   ·have hx:(xb / 16==loc)=true:=by assumption
    have e1:xb.tdiv 16=loc:=(Pt hx1).trans<|eq_of_beq hx;have e2:xb.tmod 16=xb % 16:=Int.tmod_eq_emod_of_nonneg hx1;exact ⟨(KeepsOthers.setCell _ _ _).from _,⟨rfl,pre,_,rfl,hp,e1,by simp only [e2];exact World.cell?_setCell_same' _ _ _<|by rw [hcr];rfl⟩,hB.setCell (p:=⟨w.heap.size+1,0,none⟩) (by simp) _⟩
   have hx:(xb / 16==loc)=false:=by assumption
   have e1:xb.tdiv 16≠loc:=λe=>by
    rw [Pt hx1] at e;rw [e] at hx;simp at hx
   exact ⟨KeepsFrom.refl _ _,Below.refl _ _,⟨λx hx'=>(List.mem_append.1 hx').elim (hp x) (λe=>by rw [List.mem_singleton.1 e];exact e1),hcl,hcr,hfr⟩,hB⟩
  case done=>
   rintro D ys W hD rfl ⟨⟨hne,hcl,hcr,hfr⟩,hB⟩ hK;have hr:p6 zs loc m=m:=Ac λz hz'=>by
    obtain ⟨j,hj,rfl⟩:=List.getElem_of_mem hz';have := hne (lY zs hby zs.length<|zs.length-1-j) (by unfold ql;exact Pk.2 ⟨_,Pg.2 (by omega),rfl⟩);simp only [lY] at this
    rwa [show zs.length-1-(zs.length-1-j)=j by omega,geq hj,OU] at this
   gi_wp2_with fail
   refine wpIn_wide.2<|wp_mono (FW hl hcl hcr hfr ((hB.cell (p:=⟨g,o+13+loc.toNat,none⟩) hg).trans hm) (K:=λa W=>a=_/\W=_) ⟨rfl,rfl⟩) ?_;intro e a V h
   cases e with
   | normal=>
    obtain ⟨rfl,rfl⟩:=h
    gi_wp2
    have hK':((W.setCell ⟨w.heap.size+1,0,none⟩<|.int .u8 m).drew).heap[D]? = some (.deferred<|some []):=(KeepsOthers.setCell W ⟨w.heap.size+1,0,none⟩<|.int .u8 m).same D _ hK rfl;refine ⟨by simp,.inl ⟨_,_,rfl,run_takeDeferred hK',?_⟩⟩;have hc4:(W.setCell ⟨w.heap.size+1,0,none⟩<|.int .u8 m).drew.cell? ⟨w.heap.size+1,0,none⟩=some (.int .u8 m):=World.cell?_setCell_same' W ⟨w.heap.size+1,0,none⟩ (.int .u8 m) (by rw [hcr];rfl);have hc5:=cell_kept hc4 (grownBy_putObj' _ D<|.deferred none) (λr e=>by cases e;exact ⟨_,hK',rfl⟩);refine ⟨.int .u8 m,?_,by rw [hr],((hB.setCell (p:=⟨w.heap.size+1,0,none⟩) (by simp) _).drew).trans<|belowK_b (w:=w) (Oy _) _ D _ _ (by omega) hK' rfl rfl⟩;simp [results,Tryz.f252,go_sem,hc5]
   | _=>exact h.elim
  case stop=>
   rintro D c pre W hD ⟨k,hk,rfl⟩ ⟨⟨rfl,ini,last,e1,e2,e3,hcr⟩,hB⟩ hK
   gi_wp2
   refine ⟨by simp,.inl ⟨_,_,rfl,run_takeDeferred hK,?_⟩⟩;have hc5:=cell_kept hcr (grownBy_putObj' _ D<|.deferred none) (λr e=>by cases e;exact ⟨_,hK,rfl⟩);obtain ⟨k',rfl⟩:∃ k',k=k'+1:=by
    cases k with
    | zero=>simp [ql] at e1
    | succ k'=>exact ⟨k',rfl⟩
   rw [qm] at e1;obtain ⟨rfl,e5⟩:=List.append_inj' e1 rfl;obtain rfl:lY zs hby zs.length k'=last:=by simpa using e5
   have hr:p6 zs loc m=((lY zs hby zs.length k').1.2).tmod 16:=DZ hk e3 λj hj=>e2 (lY zs hby zs.length j) (by unfold ql;exact Pk.2 ⟨_,Pg.2 hj,rfl⟩);refine ⟨.int .u8 _,?_,by rw [hr],hB.trans<|belowK_b (w:=w) (Oy _) W D _ _ (by omega) hK rfl rfl⟩;simp [results,Tryz.f252,go_sem,hc5]
 | _=>exact h.elim
end
theorem FY {w:World} {fz:Nat->Prop} {row:List AV} {v:Value} (h:FRel w fz (.fp row 0) v):∃ (g o:Nat) (us:Nat->Value),v = .pointer (some ⟨g,o,none⟩)/\g<w.heap.size/\(∀ (j:Nat) (c:AV),row[j]? = some c->w.cell? ⟨g,o+j,none⟩=some (us j))/\∀ (j:Nat) (c:AV),row[j]? = some c->FRel w fz c (us j):=by
 cases h with
 | @fp _ _ g o us hg hlt hu h1 h=>exact ⟨g,o,us,rfl,hlt,hu,h⟩
theorem gdB {α:Type} {b:Bool} {x:Option α} {r:α} (h:gd b x=some r):b=true/\x=some r:=by
 cases b with
 | true=>exact ⟨rfl,h⟩
 | false=>cases h
theorem mK (s:aj) (t loc:Int) {q} (h:dm s t loc=some q):aX Tryz.prog 252 [.fp (aj.c s) 0,I t,I loc] (Y q):=by
 unfold dm at h;obtain ⟨⟨ht,hl⟩,h⟩:=gdD h;obtain ⟨hi,h⟩:=gdD h;obtain ⟨hby,h⟩:=gdB h;obtain rfl:=osl h;refine ⟨by kernel_rfl,λw fz vs hlt _ hvl hrel=>?_⟩;obtain ⟨u,v,x,rfl⟩:∃ u v x,vs = #[u,v,x]:=by
  obtain ⟨l⟩:=vs
  match l,hvl with
  | [u,v,x],_=>exact ⟨u,v,x,rfl⟩
 obtain ⟨g,o,us,rfl,hg,hu,hr⟩:=FY<|hrel 0 _ u rfl rfl;obtain rfl:v = .int .i64 t:=qJ<|hrel 1 _ v rfl rfl;obtain rfl:x = .int .i64 loc:=qJ<|hrel 2 _ x rfl rfl;have hsp:w.cell? ⟨g,o+16,none⟩=some (.bool s.split):=by
  have h1:=hu 16 _ rfl;rw [qJ (hr 16 _ rfl)] at h1;exact h1
 have hi0:0<=fD s.split t loc:=by
  unfold fD
  cases s.split <;> simp only [cond_true,cond_false] <;> omega
 obtain ⟨xs,hxs,hxl,hxr⟩:=qK (f:=xw) (s:=1) (e:=id) (λ_=>rfl) (λ_=>rfl)<|hr 17 _ rfl;obtain ⟨A,ca,e17,hca,hma,hA⟩:=hxs;rw [llm] at hxl;obtain ⟨i,hie⟩:∃ i:Nat,fD s.split t loc=i:=⟨_,(Int.toNat_of_nonneg hi0).symm⟩;have hin:i<s.waits.length:=by omega
 obtain ⟨wb,wo,rfl,_,_,hwb,hcells⟩:=hA (by omega);have hix:i<xs.length:=by omega
 have hwi:=hcells i hix 0 xs[i] rfl;obtain ⟨A2,c2,e2,hc2,hm2,hA2⟩:=hxr i hix (by rw [llm];exact hin);have hrow:(s.waits.map λr=>r.map id)[i]'(by rw [llm];exact hin)=s.waits.getD i default:=by
  rw [OL,Ph];simp [List.getD,hin]
 rw [hrow] at e2 hc2 hA2;rw [hie,tnn] at hby ⊢;have hw17:w.cell? ⟨g,o+17,none⟩=some (.slice (some ⟨wb,wo,none⟩) xs.length ca):=by
  rw [<- e17];exact hu 17 _ rfl
 have hm:w.cell? ⟨g,o+13+loc.toNat,none⟩=some (.int .u8<|Z3b.get s.values.mem loc):=by
  have : loc=0\/loc=1\/loc=2:=by omega
  rcases this with rfl | rfl | rfl
  ·have h1:=hu 13 _ rfl;rw [qJ (hr 13 _ rfl)] at h1;exact h1
  ·have h1:=hu 14 _ rfl;rw [qJ (hr 14 _ rfl)] at h1;exact h1
  have h1:=hu 15 _ rfl;rw [qJ (hr 15 _ rfl)] at h1;exact h1
 have hAll:Gd (s.waits.getD i default):=λj=>by
  cases e:(s.waits.getD i default)[j]? with
  | none=>exact ⟨by decide,by decide⟩
  | some b=>exact of_decide_eq_true (O0.1 hby b<|Pq e)
 have hB:uJ w.heap.size w A2 (s.waits.getD i default):=λh0=>by
  obtain ⟨b,off,e,_,_,hlt',hc⟩:=hA2 h0;refine ⟨b,off,e,hlt',λj hj=>?_⟩;have := hc j hj 0 _ rfl;rw [Pd,OM] at this;rw [this,geq hj]
  rfl
 refine ((callsIn_wide (n:=3)).1<|FX 3 (by omega) hsp hw17 hg hwb ht hl hi0 (by omega) (A:=A2) (zs:=s.waits.getD i default) (cap:=c2) ?_ hB (by omega) hAll hm).mono λe w' ⟨he,hb⟩ => ?_
 ·rw [hie,tnn,<- e2];rw [Pd,OM] at hwi;exact hwi
 exact ⟨_,fz,he,hb,.v Z,λg hg=>hg,λg hg => .inl hg,λg hg=>Pi (hlt g hg) hb.size⟩
section
variable {P:Program}
theorem oZ (w:World) (dT sT ty elem:TypeId) {i:TypeInfo} (hi:P.info? elem=some i) (g o dLen dCap:Nat) (a:Addr) (sLen sCap:Nat) (cur:Array Value) (t:TypeId) (fr:Nat×Nat) (cs:List Value)
  (hu:P.underlying dT=some (.slice elem)) (hg:w.heap[g]? = some (.cells cur t fr)) (hfr:∀ i,i<cur.size -> ¬ (fr.1<=i/\i<fr.2)) (hn:cs.length=OD sLen dLen*i.size)
  (hsrc:∀ j v,cs[j]? = some v->w.cell? (a.add j)=some v) (hfit:o+cs.length<=cur.size) (h1:∀ v∈cs,v.oneCell'=true) :
  (Builtin.copy_ #[dT,sT] ty #[.slice (some ⟨g,o,none⟩) dLen dCap,.slice (some a) sLen sCap]).run P w =
   .ok (goInt<|OD sLen dLen) (w.setRow g (cur.toList.take o++cs++cur.toList.drop (o+cs.length)).toArray):=by
 have hl:=run_loadCells_list (P:=P) w a cs hsrc;have hst:=dh (P:=P) g o t fr cs 0 cur w hg hfr (by simpa using hfit) h1;simp [Builtin.copy_,run_underlying hu,Builtin.lenOf,Builtin.firstCells,sizeOf,typeInfo,hi,<- hn,hl,hst]
theorem vE (w:World) (tS tR e:TypeId) (ht:P.underlying tS=some (.slice e)) (size:Nat) (hz:∀ w,(Go.sizeOf e).run P w = .ok size w)
  (a b:Addr) (la ca lb cb:Nat) (hne:a.block≠b.block) (tA tB:TypeId) (kA kB:Nat)
  (hsa:w.shape? a.block=some (tA,kA)) (hsb:w.shape? b.block=some (tB,kB)) (hkA:kA≠0)
  (hfb:w.frozen? b=false) (hfe:w.frozen? { block:=b.block,off:=kB }=false) :
  (Extern.SlicesOverlaps.overlaps #[tS,tS] #[tR] #[.slice (some a) la ca,.slice (some b) lb cb]).run P w = .ok (.bool false) w:=by
 have hnb:(a.block != b.block)=true:=by simpa using hne
 have hnb':(a.block==b.block)=false:=by simpa using hne
 change Sem.run P (α:=Value) (do
  let some t := (#[tS,tS] : Array TypeId)[0]? | stuck "slices.overlaps: no parameter types"
  let .slice elem <- underlying t | stuck "slices.overlaps: slice type expected"
  let size <- sizeOf elem
  match (some a:Option Addr),(some b:Option Addr) with
  | some a,some b=>
   if la=0\/lb=0\/size=0 then pure (Value.bool false)
   else if a.block != b.block&&(<- frozen a)&&(<- frozen b) then unsupported .addressObserved
   else do
    if a.block != b.block then do
     noView a;noView b
     if <- mayBeOne a b then return Value.bool ((<- choose (.extern "sameAddr.stringBytes" 2)) == 1)
    pure (Value.bool<|a.block==b.block&&a.off<b.off+lb*size&&b.off<a.off+la*size)
  | _,_=>pure (Value.bool false)) w=_
 by_cases h0:la=0\/lb=0\/size=0
 ·simp [run_underlying ht,hz,h0]
 cases kA with
 | zero=>exact absurd rfl hkA
 | succ kA=>
  cases hfa:w.frozen? a <;> cases hfk:w.frozen? { block:=a.block,off:=kA+1 } <;>
   simp [run_underlying ht,hz,h0,hnb,hnb',frozen,noView,viewAt,mayBeOne,stringish,shape,Sem.run,hsa,hsb,hfa,hfb,hfe,hfk]
end
theorem D5:∃ i0:TypeInfo,∃ z:Value,Tryz.prog.info? 134=some i0/\i0.size=5/\i0.bytes=5/\i0.zero=some z/\z.cells.size=5:=by
 have h1:(Tryz.prog.info? 134).map (λi=>(i.size,i.bytes,i.zero.map λz=>z.cells.size))=some (5,5,some 5):=by kernel_rfl
 cases hi:Tryz.prog.info? 134 with
 | none=>simp [hi] at h1
 | some i0=>
  rw [hi] at h1;simp only [Pe,sie,Prod.mk.injEq] at h1;obtain ⟨e1,e2,e3⟩:=h1;obtain ⟨z,hz,hs⟩:=OW.1 e3;exact ⟨i0,z,rfl,e1,e2,hz,hs⟩
def sU (cs2:Array Value) (o:Nat) (cur:Array Value) (off n i:Nat) (V:List Value):Prop:=
 ∀ q,q<(n+1)*5->cs2[o+q]? = if q<i*5 then cur[off+q]? else if q<i*5+5 then V[q-i*5]? else cur[off+q-5]?
section
variable {w:World} {b off n c vb voff vc:Nat} {cur:Array Value} {fr:Nat×Nat} {V:List Value}
theorem vF (hat:w.heap[b]? = some (.cells cur 134 fr)) (hfr:∀ i,i<=cur.size -> ¬ (fr.1<=i/\i<fr.2)) (hroom:n+1<=c) (hfit:off+c*5<=cur.size) (hbig:n<=1000)
  (hV:V.length=5) (hvs:∀ j v,V[j]? = some v->w.cell? ⟨vb,voff+j,none⟩=some v) (h1v:∀ v∈V,v.oneCell'=true) :
  Calls Tryz.prog 228 #[.slice (some ⟨b,off,none⟩) n c,.int .i64 n,.slice (some ⟨vb,voff,none⟩) 1 vc] w λe w'=>
   e = .returned (.slice (some ⟨b,off,none⟩) (n+1) c)/\∃ cs2:Array Value,cs2.size=cur.size/\sU cs2 off cur off n n V/\w'=w.setRow b cs2:=by
 obtain ⟨i0,z,hi0,hs5,hb5,hz,hz5⟩:=D5;have hl:=run_loadCells_list (P:=Tryz.prog) w ⟨vb,voff,none⟩ V (λj v hj=>by rw [Addr.add_lit];exact hvs j v hj);have hst:=dh (P:=Tryz.prog) b (off+n*5) 134 fr V 0 cur w hat (λi hi=>hfr i<|Nat.le_of_lt hi) (by omega) h1v;obtain ⟨C,hC⟩:∃ C,C=(cur.toList.take (off+n*5)++V++cur.toList.drop (off+n*5+V.length)).toArray:=⟨_,rfl⟩;rw [OM,<- hC] at hst;have hrun:∀ ty,(Builtin.append_ #[127,127] ty #[.slice (some ⟨b,off,none⟩) n c,.slice (some ⟨vb,voff,none⟩) 1 vc]).run Tryz.prog w = .ok (.slice (some ⟨b,off,none⟩) (n+1) c) (w.setRow b C):=λty=>by
  refine lC (m:=1) (news:=V.toArray) (w':=w.setRow b C) Tryz.underlying127 (.inl ⟨_,Tryz.underlying127⟩) hi0 (by simp [Builtin.lenOf]) ?_ hroom (λh=>nomatch h) λa ha=>?_
  ·rw [hV] at hl;simp [Builtin.firstCells,hs5,hl]
  injection ha with ha;subst ha;rw [hs5,Addr.add_lit];exact hst
 have hle:off+n*5+V.length<=cur.toList.length:=by rw [hV,Ox];omega
 have hsz:C.size=cur.size:=by
  have := kz cur.toList (off+n*5) V hle;rw [hC,Oz,this,Ox]
 have hIns:sU C off cur off n n V:=by
  intro q hq;have hg:=lw cur.toList (off+n*5) V hle<|off+q;rw [hC,OH,hg,hV]
  by_cases h1:q<n*5
  ·rw [if_neg (by omega),if_pos h1,OC]
  rw [if_pos (by omega),if_neg h1,if_pos (by omega)]
  congr 1
  omega
 clear hC hst hl hle hvs
 go_enter Tryz.func228,Tryz.ntmps228
 go_wp2_with (at_builtin;refine Lib.wpList_append_run _ rfl _ _ _ _ rfl _ _ rfl rfl _ _ (hrun _) ?_)
 go_ret
 exact ⟨rfl,C,hsz,hIns,rfl⟩
theorem vG (hat:w.heap[b]? = some (.cells cur 134 fr)) (j:Nat):w.cell? ⟨b,j,none⟩=cur[j]? := by simp [World.cell?,hat]
theorem vH (hat:w.heap[b]? = some (.cells cur 134 fr)) (hroom:c<n+1) (hnc:n<=c) (hfit:off+c*5<=cur.size) (hbig:n<=1000)
  (hV:V.length=5) (hvs:∀ j v,V[j]? = some v->w.cell? ⟨vb,voff+j,none⟩=some v) :
  Calls Tryz.prog 228 #[.slice (some ⟨b,off,none⟩) n c,.int .i64 n,.slice (some ⟨vb,voff,none⟩) 1 vc] w λe w'=>
   ∃ nc,n+1<=nc/\nc<=9223372036854775807/\e = .returned (.slice (some ⟨w.heap.size,0,none⟩) (n+1) nc)/\∃ cs2:Array Value,nc*5<=cs2.size/\sU cs2 0 cur off n n V/\w'=w.drew.alloc (.cells cs2 134):=by
 obtain ⟨i0,z,hi0,hs5,hb5,hz,hz5⟩:=D5;have hl:=run_loadCells_list (P:=Tryz.prog) w.drew ⟨vb,voff,none⟩ V (λj v hj=>by rw [Addr.add_lit];exact hvs j v hj);obtain ⟨O,hO⟩:∃ O,O=(cur.toList.drop off).take (n*5):=⟨_,rfl⟩;have hOl:O.length=n*5:=by rw [hO,OO,OP,Ox];omega
 have hOg:∀ j,j<n*5->O[j]? = cur[off+j]? := λj hj=>by rw [hO,OX,if_pos hj,OY,OC]
 have hlo:=run_loadCells_list (P:=Tryz.prog) w.drew ⟨b,off,none⟩ O (λj v hj=>by
  rw [Addr.add_lit];show w.cell? _=_;rw [vG hat,<- hOg j (by rw [<- hOl];exact (ges hj).1),hj])
 rw [hV] at hl;rw [hOl] at hlo;obtain ⟨nc,h1,h2,hrun0⟩:=iY (P:=Tryz.prog) (w:=w) (t:=127) (u:=127) (ty:=127) (e:=134) Tryz.underlying127 (.inl ⟨_,Tryz.underlying127⟩) hi0 hz (A:=some ⟨b,off,none⟩) (n:=n) (cap:=c) (m:=1) (x:=.slice (some ⟨vb,voff,none⟩) 1 vc) (olds:=O.toArray) (news:=V.toArray)
  (by simp [Builtin.lenOf]) (by simp [Builtin.firstCells,hs5,hlo]) (by simp [Builtin.firstCells,hs5,hl]) hroom (by omega) (by rw [hb5];omega)
 obtain ⟨C,hC⟩:∃ C,C=O.toArray++V.toArray++Builtin.zeroCells z.cells (nc-(n+1)):=⟨_,rfl⟩;rw [<- hC] at hrun0;have hsz:nc*5<=C.size:=by
  rw [hC,OI,OI,di,hz5,Oz,Oz,hOl,hV];omega
 have hIns:sU C 0 cur off n n V:=by
  intro q hq;have e:C[0+q]? = (O++V)[q]? := by
   rw [hC,Pm,OZ (by simp [hOl,hV];omega),OV,OH]
  rw [e]
  by_cases h3:q<n*5
  ·rw [if_pos h3,gal (by omega),hOg q h3]
  rw [if_neg h3,if_pos (by omega),gar (by omega),hOl]
 have hrun:∀ ty,(Builtin.append_ #[127,127] ty #[.slice (some ⟨b,off,none⟩) n c,.slice (some ⟨vb,voff,none⟩) 1 vc]).run Tryz.prog w = .ok (.slice (some ⟨w.heap.size,0,none⟩) (n+1) nc) (w.drew.alloc<|.cells C 134):=λty=>hrun0;clear hC hl hlo hz hz5 hOg hOl hO hvs hat hrun0
 go_enter Tryz.func228,Tryz.ntmps228
 go_wp2_with (at_builtin;refine Lib.wpList_append_run _ rfl _ _ _ _ rfl _ _ rfl rfl _ _ (hrun _) ?_)
 go_ret
 exact ⟨nc,h1,h2,rfl,C,hsz,hIns,rfl⟩
theorem zn {w:World} {g k:Nat} {v:Value} (h:w.cell? ⟨g,k,none⟩=some v):∃ t n,w.shape? g=some (t,n)/\n≠0:=by
 unfold World.cell? at h;unfold World.shape?
 split at h
 ·rename_i cs t f hh;simp only at hh;rw [hh];refine ⟨_,cs.size,rfl,λe=>?_⟩;have := (OT.1 h).1;omega
 all_goals simp_all
theorem Ae {i:Nat} (hat:w.heap[b]? = some (.cells cur 134 fr)) (hfr:∀ i,i<=cur.size -> ¬ (fr.1<=i/\i<fr.2)) (hi:i<n) (hroom:n+1<=c) (hfit:off+c*5<=cur.size) (hc63:c<=9223372036854775807) (hbig:n<=1000) (hvb:vb≠b)
  (h1c:∀ j v,off<=j->j<off+n*5->cur[j]? = some v->v.oneCell'=true)
  (hV:V.length=5) (hvs:∀ j v,V[j]? = some v->w.cell? ⟨vb,voff+j,none⟩=some v) (h1v:∀ v∈V,v.oneCell'=true) :
  Calls Tryz.prog 228 #[.slice (some ⟨b,off,none⟩) n c,.int .i64 i,.slice (some ⟨vb,voff,none⟩) 1 vc] w λe w'=>
   e = .returned (.slice (some ⟨b,off,none⟩) (n+1) c)/\∃ cs2:Array Value,cs2.size=cur.size/\sU cs2 off cur off n i V/\w'=w.drew.setRow b cs2:=by
 obtain ⟨i0,z,hi0,hs5,hb5,hz,hz5⟩:=D5;obtain ⟨M,hM⟩:∃ M,M=(cur.toList.drop<|off+i*5).take ((n-i)*5):=⟨_,rfl⟩;have hMl:M.length=(n-i)*5:=by rw [hM,OO,OP,Ox];omega
 have hMg:∀ j,j<(n-i)*5->M[j]? = cur[off+i*5+j]? := λj hj=>by rw [hM,OX,if_pos hj,OY,OC]
 have hle1:off+(i+1)*5+M.length<=cur.toList.length:=by rw [hMl,Ox];omega
 obtain ⟨C1,hC1⟩:∃ C,C=(cur.toList.take (off+(i+1)*5)++M++cur.toList.drop (off+(i+1)*5+M.length)).toArray:=⟨_,rfl⟩;have hz1:C1.size=cur.size:=by rw [hC1,Oz,kz cur.toList _ M hle1,Ox]
 have hg1:∀ q,C1[q]? = if off+(i+1)*5<=q/\q<off+(i+1)*5+M.length then M[q-(off+(i+1)*5)]? else cur[q]? := λq=>by rw [hC1,OH,lw cur.toList _ M hle1 q,OC (xs:=cur)]
 have hle2:off+i*5+V.length<=C1.toList.length:=by rw [hV,Ox,hz1];omega
 obtain ⟨C2,hC2⟩:∃ C,C=(C1.toList.take (off+i*5)++V++C1.toList.drop (off+i*5+V.length)).toArray:=⟨_,rfl⟩;have hz2:C2.size=cur.size:=by rw [hC2,Oz,kz C1.toList _ V hle2,Ox,hz1]
 have hg2:∀ q,C2[q]? = if off+i*5<=q/\q<off+i*5+V.length then V[q-(off+i*5)]? else C1[q]? := λq=>by rw [hC2,OH,lw C1.toList _ V hle2 q,OC (xs:=C1)]
 have hcp1:∀ ty dc sc,(Builtin.copy_ #[127,127] ty #[.slice (some ⟨b,off+(i+1)*5,none⟩) (n+1-(i+1)) dc,.slice (some ⟨b,off+i*5,none⟩) (n+1-i) sc]).run Tryz.prog w.drew = .ok (goInt<|OD (n+1-i)<|n+1-(i+1)) (w.drew.setRow b C1):=λty dc sc=>by
  rw [hC1];refine oZ w.drew _ _ ty 134 hi0 b _ _ _ ⟨b,off+i*5,none⟩ _ _ cur 134 fr M Tryz.underlying127 hat (λi hi=>hfr i<|Nat.le_of_lt hi) ?_ (λj v hj=>?_) (by rw [<- Ox];exact hle1) λv hv=>?_
  ·rw [hMl,hs5]
   congr 1
   simp only [Pf]
   split <;> omega
  ·have hj2:=(ges hj).1;rw [Addr.add_lit];show w.cell? _=_;rw [vG hat,<- hMg j (by omega),hj]
  obtain ⟨j,hj⟩:=Pn hv;have hj2:=(ges hj).1;rw [hMg j (by omega)] at hj;exact h1c _ v (by omega) (by omega) hj
 obtain ⟨W1,hW1⟩:∃ W1,W1=w.drew.setRow b C1:=⟨_,rfl⟩;have hat1:W1.heap[b]? = some (.cells C1 134 fr):=by rw [hW1];exact setRow_heap w.drew b cur C1 _ fr hat
 have hcp2:∀ ty dc,(Builtin.copy_ #[127,127] ty #[.slice (some ⟨b,off+i*5,none⟩) (n+1-i) dc,.slice (some ⟨vb,voff,none⟩) 1 vc]).run Tryz.prog W1 = .ok (goInt<|OD 1<|n+1-i) (W1.setRow b C2):=λty dc=>by
  rw [hC2];refine oZ W1 _ _ ty 134 hi0 b _ _ _ ⟨vb,voff,none⟩ _ _ C1 134 fr V Tryz.underlying127 hat1 (λi hi=>hfr i<|by omega) ?_ (λj v hj=>?_) (by rw [<- Ox];exact hle2) h1v
  ·rw [hV,hs5];have : OD 1 (n+1-i)=1:=by simp only [Pf];split <;> omega
   rw [this]
  rw [Addr.add_lit,hW1];have := hvs j v hj;rw [<- this];simp only [World.cell?,World.setRow];rw [OJ,if_neg (Ne.symm hvb)]
  rfl
 have hend:W1.setRow b C2=w.drew.setRow b C2:=by rw [hW1,setRow_setRow]
 rw [hend] at hcp2;rw [<- hW1] at hcp1;have hvsh:=zn<|hvs 0 _<|geq (by omega);obtain ⟨tA,kA,hsa,hkA⟩:=hvsh;have hov:∀ lb cb,(callFunc 230 #[.slice (some ⟨vb,voff,none⟩) 1 vc,.slice (some ⟨b,off+(i+1)*5,none⟩) lb cb]).run Tryz.prog w = .ok (.value<|.bool false) w:=λlb cb=>by
  rw [run_callFunc_extern Tryz.func230 (by kernel_rfl) (by kernel_rfl) (by kernel_rfl) (e:=Extern.SlicesOverlaps.overlaps #[127,127] #[4]) (by kernel_rfl),
   vE w 127 4 134 Tryz.underlying127 5 Tryz.sizeOf134 ⟨vb,voff,none⟩ ⟨b,off+(i+1)*5,none⟩ 1 vc lb cb hvb tA 134 kA cur.size hsa (by simp [World.shape?,hat]) hkA (by simp [World.frozen?,hat];have := hfr (off+(i+1)*5) (by omega);omega) (by simp [World.frozen?,hat];have := hfr cur.size (Oy _);omega)]
  rfl
 have hIns:sU C2 off cur off n i V:=by
  intro q hq;rw [hg2,hg1,hV,hMl]
  by_cases h1:q<i*5
  ·rw [if_neg (by omega),if_neg (by omega),if_pos h1]
  rw [if_neg h1]
  by_cases h2:q<i*5+5
  ·rw [if_pos (by omega),if_pos h2]
   congr 1
   omega
  rw [if_neg (by omega),if_pos (by omega),if_neg h2,hMg _ (by omega)]
  congr 1
  omega
 clear hend hg2 hg1 hC2 hC1 hat1 hsa hMg hM hvs hat;clear hW1 hle1 hle2;have hi2 : ¬ ((i:Int)=(n:Int)):=by omega
 have hi3 : ¬ ((c:Int)<(n:Int)+1):=by omega
 have mixed:Tryz.prog.follows .mixedOrders=true:=by kernel_rfl
 have hw1:IntKind.i64.wrap ((i:Int)+1)=(i:Int)+1:=by rw [IntKind.wrap_i64];omega
 have hb1:(0:Int)<=(i:Int)+1:=by omega
 have htn:((i:Int)+1).toNat=i+1:=by omega
 have hb2 : ¬ (c=i+1):=by omega
 have hb3:(i:Int)<=(n:Int):=by omega
 have hb4 : ¬ (c=i):=by omega
 have hb5:(i:Int)<=(n:Int)+1:=by omega
 go_enter Tryz.func228,Tryz.ntmps228
 go_wp2_with (simp only [hov])
 go_region_law_o (refine step_copy_runI rfl _ _ 127 127 rfl (.slice (some ⟨b,off+(i+1)*5,none⟩) (n+1-(i+1))<|c-(i+1)) (.slice (some ⟨b,off+i*5,none⟩) (n+1-i)<|c-i) (by simp [Act.eval,Act.put]) (by simp [Act.eval,Act.put]) (hcp1 _ _ _) ?_)
 go_wp2_with (at_builtin;refine wpList_copy_runI _ rfl _ _ 127 127 rfl _ _ rfl rfl (hcp2 _ _) ?_)
 go_ret
 exact ⟨rfl,C2,hz2,hIns,rfl⟩
theorem FZ (w:World) (a c:Array Value) (ty:TypeId):(w.alloc<|.cells a ty).setRow w.heap.size c=w.alloc (.cells c ty):=by
 unfold World.setRow World.alloc
 congr 1
 apply Array.ext_getElem?;intro k;rw [OJ];simp only [Array.getElem?_push]
 by_cases h:k=w.heap.size
 ·subst h;simp
 rw [if_neg (Ne.symm h),if_neg h,if_neg h]
theorem Cz {i:Nat} (hat:w.heap[b]? = some (.cells cur 134 fr)) (hi:i<n) (hnc:n<=c) (hroom:c<n+1) (hfit:off+c*5<=cur.size) (hbig:n<=1000)
  (h1c:∀ j v,off<=j->j<off+n*5->cur[j]? = some v->v.oneCell'=true)
  (hV:V.length=5) (hvs:∀ j v,V[j]? = some v->w.cell? ⟨vb,voff+j,none⟩=some v) (h1v:∀ v∈V,v.oneCell'=true) :
  Calls Tryz.prog 228 #[.slice (some ⟨b,off,none⟩) n c,.int .i64 i,.slice (some ⟨vb,voff,none⟩) 1 vc] w λe w'=>
   ∃ nc,n+1<=nc/\nc<=9223372036854775807/\e = .returned (.slice (some ⟨w.heap.size,0,none⟩) (n+1) nc)/\∃ cs2:Array Value,nc*5<=cs2.size/\sU cs2 0 cur off n i V/\w'=w.drew.drew.alloc (.cells cs2 134):=by
 obtain ⟨i0,z,hi0,hs5,hb5,hz,hz5⟩:=D5;have hbw:b<w.heap.size:=(OT.1 hat).1;have hvw:vb<w.heap.size:=by
  obtain ⟨_,_,h,_⟩:=zn<|hvs 0 _<|geq (by omega);unfold World.shape? at h
  split at h
  ·rename_i hh;exact (OT.1 hh).1
  cases h
 obtain ⟨O,hO⟩:∃ O,O=(cur.toList.drop off).take (i*5):=⟨_,rfl⟩;have hOl:O.length=i*5:=by rw [hO,OO,OP,Ox];omega
 have hOg:∀ j,j<i*5->O[j]? = cur[off+j]? := λj hj=>by rw [hO,OX,if_pos hj,OY,OC (xs:=cur)]
 have hlo:=run_loadCells_list (P:=Tryz.prog) w.drew ⟨b,off,none⟩ O (λj v hj=>by
  rw [Addr.add_lit];show w.cell? _=_;rw [vG hat,<- hOg j (by rw [<- hOl];exact (ges hj).1),hj])
 rw [hOl] at hlo;have hik:i+(n+1-i)=n+1:=by omega
 have hkk:(n:Int)+1-(i:Int)=((n+1-i:Nat):Int):=by omega
 obtain ⟨G,hG⟩:∃ G,G=grownCap w (n+1) c 134:=⟨_,rfl⟩;have hGn:n+1<=G:=by rw [hG];exact grownCap_ge w _ _ _
 have hG63:G<=9223372036854775807:=by
  have := grownCap_le_maxLen w (n+1) c 134 (by unfold maxLen;omega);rw [<- hG] at this;unfold maxLen at this;omega
 obtain ⟨R,hR⟩:∃ R:Array Value,R=O.toArray++Builtin.zeroCells z.cells (n+1-i)++Builtin.zeroCells z.cells (G-(n+1)):=⟨_,rfl⟩;have hRs:R.size=G*5:=by
  rw [hR,OI,OI,di,di,hz5,Oz,hOl];omega
 have hRg:∀ j,j<i*5->R[j]? = cur[off+j]? := λj hj=>by
  rw [hR,OZ (by simp [hOl];omega),OZ (by simp [hOl];omega),OH,hOg j hj]
 have hrz:∀ ty,(Builtin.append_ #[127,3] ty #[.slice (some ⟨b,off,none⟩) i c,.int .i64 ((n:Int)+1-(i:Int))]).run Tryz.prog w =
   .ok (.slice (some ⟨w.heap.size,0,none⟩) (n+1) G) (w.drew.alloc<|.cells R 134):=λty=>by
  have h:=Lib.run_append_grow_zeros (P:=Tryz.prog) w 127 3 ty 134 i0 z .i64 .i64 Tryz.underlying127 Tryz.underlying3 hi0 hz (some ⟨b,off,none⟩) i c O (by simp [Builtin.firstCells,hs5,hlo]) (n+1-i) (by omega) (by omega) (by omega) (by omega) (by rw [hb5];omega) (by rw [hb5,hik];exact growslice_fits hroom<|by omega);rw [hik,<- hG,<- hR] at h;rw [hkk];exact h
 obtain ⟨M,hM⟩:∃ M,M=(cur.toList.drop<|off+i*5).take ((n-i)*5):=⟨_,rfl⟩;have hMl:M.length=(n-i)*5:=by rw [hM,OO,OP,Ox];omega
 have hMg:∀ j,j<(n-i)*5->M[j]? = cur[off+i*5+j]? := λj hj=>by rw [hM,OX,if_pos hj,OY,OC (xs:=cur)]
 have hle1:i*5+V.length<=R.toList.length:=by rw [hV,Ox,hRs];omega
 obtain ⟨C1,hC1⟩:∃ C,C=(R.toList.take (i*5)++V++R.toList.drop (i*5+V.length)).toArray:=⟨_,rfl⟩;have hz1:C1.size=R.size:=by rw [hC1,Oz,kz R.toList _ V hle1,Ox]
 have hg1:∀ q,C1[q]? = if i*5<=q/\q<i*5+V.length then V[q-i*5]? else R[q]? := λq=>by rw [hC1,OH,lw R.toList _ V hle1 q,OC (xs:=R)]
 have hle2:(i+1)*5+M.length<=C1.toList.length:=by rw [hMl,Ox,hz1,hRs];omega
 obtain ⟨C2,hC2⟩:∃ C,C=(C1.toList.take ((i+1)*5)++M++C1.toList.drop ((i+1)*5+M.length)).toArray:=⟨_,rfl⟩;have hz2:C2.size=R.size:=by rw [hC2,Oz,kz C1.toList _ M hle2,Ox,hz1]
 have hg2:∀ q,C2[q]? = if (i+1)*5<=q/\q<(i+1)*5+M.length then M[q-(i+1)*5]? else C1[q]? := λq=>by rw [hC2,OH,lw C1.toList _ M hle2 q,OC (xs:=C1)]
 obtain ⟨W1,hW1⟩:∃ W1,W1=w.drew.alloc (.cells R 134):=⟨_,rfl⟩;rw [<- hW1] at hrz;have hN:w.heap.size=w.drew.heap.size:=rfl;have hat1:W1.heap[w.heap.size]? = some (.cells R 134 (0,0)):=by rw [hW1];exact heap_alloc_new w.drew _
 have hOld:∀ g j,g<w.heap.size->W1.cell? ⟨g,j,none⟩=w.cell? ⟨g,j,none⟩:=λg j hg=>by
  rw [hW1,World.cell?_alloc_past (w:=w.drew) _ g j hg]
  rfl
 have hcp1:∀ ty dc,(Builtin.copy_ #[127,127] ty #[.slice (some ⟨w.heap.size,i*5,none⟩) (n+1-i) dc,.slice (some ⟨vb,voff,none⟩) 1 vc]).run Tryz.prog W1 = .ok (goInt<|OD 1<|n+1-i) (W1.setRow w.heap.size C1):=λty dc=>by
  rw [hC1];refine oZ W1 _ _ ty 134 hi0 _ _ _ _ ⟨vb,voff,none⟩ _ _ R 134 (0,0) V Tryz.underlying127 hat1 (λi _=>by omega) ?_ (λj v hj=>?_) (by rw [<- Ox];exact hle1) h1v
  ·rw [hV,hs5];have : OD 1 (n+1-i)=1:=by simp only [Pf];split <;> omega
   rw [this]
  rw [Addr.add_lit,hOld _ _ hvw];exact hvs j v hj
 obtain ⟨W2,hW2⟩:∃ W2,W2=W1.setRow w.heap.size C1:=⟨_,rfl⟩;rw [<- hW2] at hcp1;have hat2:W2.drew.heap[w.heap.size]? = some (.cells C1 134 (0,0)):=by rw [hW2];exact setRow_heap W1 _ R C1 _ _ hat1
 have hOld2:∀ g j,g<w.heap.size->W2.drew.cell? ⟨g,j,none⟩=w.cell? ⟨g,j,none⟩:=λg j hg=>by
  rw [<- hOld g j hg,hW2];show World.cell? (W1.setRow w.heap.size C1) _=_;simp only [World.cell?,World.setRow];rw [OJ,if_neg (by omega)]
 have hcp2:∀ ty dc sc,(Builtin.copy_ #[127,127] ty #[.slice (some ⟨w.heap.size,(i+1)*5,none⟩) (n+1-(i+1)) dc,.slice (some ⟨b,off+i*5,none⟩) (n-i) sc]).run Tryz.prog W2.drew = .ok (goInt<|OD (n-i)<|n+1-(i+1)) (W2.drew.setRow w.heap.size C2):=λty dc sc=>by
  rw [hC2];refine oZ W2.drew _ _ ty 134 hi0 _ _ _ _ ⟨b,off+i*5,none⟩ _ _ C1 134 (0,0) M Tryz.underlying127 hat2 (λi _=>by omega) ?_ (λj v hj=>?_) (by rw [<- Ox];exact hle2) λv hv=>?_
  ·rw [hMl,hs5]
   congr 1
   simp only [Pf]
   split <;> omega
  ·have hj2:=(ges hj).1;rw [Addr.add_lit,hOld2 _ _ hbw,vG hat,<- hMg j (by omega),hj]
  obtain ⟨j,hj⟩:=Pn hv;have hj2:=(ges hj).1;rw [hMg j (by omega)] at hj;exact h1c _ v (by omega) (by omega) hj
 have hend:W2.drew.setRow w.heap.size C2=w.drew.drew.alloc (.cells C2 134):=by
  rw [hW2];show (((W1.setRow w.heap.size C1).setRow w.heap.size C2).drew)=_;rw [setRow_setRow,hW1];exact congrArg World.drew<|FZ w.drew R C2 134
 rw [hend] at hcp2;have hsz:G*5<=C2.size:=by rw [hz2,hRs];exact Oy _
 have hIns:sU C2 0 cur off n i V:=by
  intro q hq;rw [Pm,hg2,hg1,hV,hMl]
  by_cases h1:q<i*5
  ·rw [if_neg (by omega),if_neg (by omega),if_pos h1,hRg q h1]
  rw [if_neg h1]
  by_cases h2:q<i*5+5
  ·rw [if_neg (by omega),if_pos (by omega),if_pos h2]
  rw [if_pos (by omega),if_neg h2,hMg _ (by omega)]
  congr 1
  omega
 have hGi : ¬ (G=i):=by omega
 have hGim : ¬ (G=i+1):=by omega
 have hci : ¬ (c=i):=by omega
 clear hend hg2 hg1 hC2 hC1 hat1 hat2 hMg hM hvs hat hW1 hW2 hOld hOld2 hlo hO hOg hOl hG hR hRg hRs hz1 hz2 hle1 hle2 hN hkk hik hi0 hz hz5 hs5 hb5;have hi2 : ¬ ((i:Int)=(n:Int)):=by omega
 have hi3:(c:Int)<(n:Int)+1:=by omega
 have mixed:Tryz.prog.follows .mixedOrders=true:=by kernel_rfl
 have hw1:IntKind.i64.wrap ((i:Int)+1)=(i:Int)+1:=by rw [IntKind.wrap_i64];omega
 have hb1:(0:Int)<=(i:Int)+1:=by omega
 have htn:((i:Int)+1).toNat=i+1:=by omega
 have hb3:(i:Int)<=(n:Int):=by omega
 have hb5':(i:Int)<=(n:Int)+1:=by omega
 go_enter Tryz.func228,Tryz.ntmps228
 go_wp2_with (first
  | (at_builtin;refine Lib.wpList_append_run _ rfl _ _ _ _ rfl _ _ rfl rfl _ _ (hrz _) ?_)
  | (at_builtin;refine wpList_copy_runI _ rfl _ _ 127 127 rfl _ _ rfl rfl (hcp1 _ _) ?_))
 go_region_law_o (refine step_copy_runI rfl _ _ 127 127 rfl (.slice (some ⟨w.heap.size,(i+1)*5,none⟩) (n+1-(i+1))<|G-(i+1)) (.slice (some ⟨b,off+i*5,none⟩) (n-i)<|c-i) (by simp [Act.eval,Act.put]) (by simp [Act.eval,Act.put]) (hcp2 _ _ _) ?_)
 go_wp2
 go_ret
 exact ⟨G,hGn,hG63,rfl,C2,hsz,hIns,rfl⟩
end
def Cx.dr (c:Cx) (m:Nat):Cx:={ c with w:={ c.w with drawn:=m } }
theorem Cx.dr_ext (c:Cx) (m:Nat):Ext c (c.dr m):=⟨rfl,rfl,rfl,Oy _,λ_ _ _=>rfl,λ_ h=>h,λ_ h => .inl h,Oy _,λ_ _ h=>h,λ_ _ _ _ h=>h,λb k h => .inr ⟨b,k,h,rfl⟩⟩
theorem Cx.dr_rel {c:Cx} (h:HRel c) (m:Nat):HRel (c.dr m) where
 gl:=h.glx<|c.dr_ext m
 lt:=h.lt
 blk:=λb k hl=>by
  obtain ⟨cs,fr,hB⟩:=h.blk b k hl;exact ⟨cs,fr,⟨hB.at_,hB.nf,hB.pos,hB.free,hB.fits,hB.len,λi row j a h1 h2=>by
   obtain ⟨u,g1,g2,g3⟩:=hB.rel i row j a h1 h2;exact ⟨u,g1,g2,g3.ext h (c.dr_ext m)⟩⟩⟩
 inj:=h.inj
theorem BRel.dr {c:Cx} (h:HRel c) {b:Nat} {k:ABlk} {cs:Array Value} {fr:Option (Nat×Nat)} (hB:BRel c b k cs fr) (m:Nat):BRel (c.dr m) b k cs fr:=
 ⟨hB.at_,hB.nf,hB.pos,hB.free,hB.fits,hB.len,λi row j a h1 h2=>by
  obtain ⟨u,g1,g2,g3⟩:=hB.rel i row j a h1 h2;exact ⟨u,g1,g2,g3.ext h (c.dr_ext m)⟩⟩
theorem wS {c:Cx} {b:Nat} {s:List ai} {x:ai} {m ver:Nat} {cur cs2:Array Value} {fr:Option (Nat×Nat)} {V:List Value} {o:Nat} (hB:BRel c b ⟨ver,5,134,s.map ai.c⟩ cur fr) (hm:m<=s.length)
  (hx:∀ (j:Nat) (a:AV),(ai.c x)[j]? = some a->∃ u,V[j]? = some u/\u.oneCell'=true/\c.rel a u) (hI:sU cs2 o cur (c.φ b).2 s.length m V) :
  ∀ (i:Nat) (row:List AV) (j:Nat) (a:AV),((s.take m++[x]++s.drop m).map ai.c)[i]? = some row->row[j]? = some a->∃ u,cs2[o+i*5+j]? = some u/\u.oneCell'=true/\c.rel a u:=by
 intro i row j a hi hj;have hl:(s.take m).length=m:=by rw [OO];omega
 have hil:i<s.length+1:=by
  have := (ges hi).1;simp only [llm,lla,llc,OG,OP,hl] at this;omega
 have hr5:∀ {y:ai},(ai.c y)[j]? = some a->j<5:=λ{y} h=>by
  have := (ges h).1;rw [ai.len] at this;exact this
 obtain ⟨y,hy,rfl⟩:∃ y,(s.take m++[x]++s.drop m)[i]? = some y/\ai.c y=row:=by
  rw [OA] at hi;exact OW.1 hi
 have h5:=hr5 hj;have hq:=hI (i*5+j) (by omega);rw [<- Nat.add_assoc] at hq;rw [hq]
 by_cases h1:i<m
 ·rw [if_pos (by omega)];rw [List.append_assoc,gal (by omega),OX,if_pos h1] at hy;have := hB.rel i (ai.c y) j a (by simp only [OA,hy,Pe]) hj;rw [<- Nat.add_assoc];exact this
 rw [if_neg (by omega)]
 by_cases h2:i=m
 ·subst h2;rw [if_pos (by omega),show i*5+j-i*5=j by omega];rw [List.append_assoc,gar (by omega),hl,Nat.sub_self] at hy;obtain rfl:x=y:=by simpa using hy
  exact hx j a hj
 rw [if_neg (by omega)];rw [gar (by rw [lla,hl];simp;omega),lla,hl,OY] at hy;simp only [llc,OG] at hy;have := hB.rel (i-1) (ai.c y) j a (by rw [OA,show i-1=m+(i-(m+(0+1))) by omega,hy];rfl) hj;rw [show (c.φ b).2+(i*5+j)-5=(c.φ b).2+(i-1)*5+j by omega];exact this
theorem D6 {s:List ai} {x:ai} {m:Nat} (hm:m<=s.length):(s.take m++[x]++s.drop m).length=s.length+1:=by
 simp only [lla,OO,llc,OG,OP];omega
theorem cQ (s:List ai) (i:Int) (v:List ai) (gw:Bool) (fe:Nat) (hgw:gw=true->s=[]) {q} (h:cg s i v=some q) :
  dD Tryz.prog 228 [hS gw 0 fe 5 s.length,I i,eL ai.c v] [bE gw fe 5 134 (s.map ai.c)] (wU 5 134 (λx=>x) q.length (q.map ai.c) 0 []):=by
 obtain ⟨⟨⟨hi0,hin⟩,hn,hbig,hv1⟩,h⟩:=gdD h;obtain rfl:=osl h;obtain rfl:gw=false:=by
  cases gw with
  | false=>rfl
  | true=>rw [hgw rfl] at hn;exact absurd hn (by simp)
 obtain ⟨x,rfl⟩:∃ x,v=[x]:=List.length_eq_one_iff.1 hv1;obtain ⟨m,rfl⟩:=Int.eq_ofNat_of_zero_le hi0;have hm:m<=s.length:=by omega
 refine ⟨by kernel_rfl,λc vs hH hr hall=>?_⟩;obtain ⟨hsz,hrel⟩:=hall;obtain ⟨u,k,y,rfl⟩:∃ u k y,vs = #[u,k,y]:=by
  match vs,hsz with
  | ⟨[u,k,y]⟩,_=>exact ⟨u,k,y,rfl⟩
 have hu:c.rel (.hs 0 fe 5 0 s.length) u:=hrel 0 _ u rfl rfl;have hk:=hrel 1 _ k rfl rfl;have hy:=hrel 2 _ y rfl rfl;obtain ⟨rfl,_⟩:=dE hk;have hH:c.H=[some ⟨fe,5,134,s.map ai.c⟩]:=hH;have hlv:c.live 0 ⟨fe,5,134,s.map ai.c⟩:=by
  unfold Cx.live;rw [hH]
  rfl
 obtain ⟨cur,fr0,hB⟩:=hr.blk 0 _ hlv
 cases hu with
 | fr h=>cases h
 | @hs _ _ _ _ _ cap A hb hc hmx h0 h=>
 obtain ⟨f,rfl,hat,hhd⟩:=hB.cells hlv λx hx=>(h x hx).1;obtain ⟨_,_,h3,h4⟩:=h _ hhd;have hA:=h3 (by omega);simp only [Nat.zero_mul,OM] at hA h4;subst hA;have hy:=mg hy
 cases hy with
 | @sl _ vc sx vb vo _ yA us hyc hym hya hys hyu hy1 hyr=>
 obtain ⟨rfl,hfz,hlt⟩:=hya (by simp);obtain rfl:sx=5:=(hys 0<|by simp).symm;have hvb:vb≠(c.φ 0).1:=λe=>hB.nf<|e ▸ hfz;have hget:∀ j,j<5->∃ a,(ai.c x)[j]? = some a:=λj hj=>⟨_,geq<|by rw [ai.len];exact hj⟩;obtain ⟨V,hV⟩:∃ V,V=(OQ 5).map (us 0):=⟨_,rfl⟩;have hVl:V.length=5:=by rw [hV];simp
 have hVg:∀ j,j<5->V[j]? = some (us 0 j):=λj hj=>by rw [hV,OA,List.getElem?_range hj];rfl
 have hVi:∀ j v,V[j]? = some v->j<5/\v=us 0 j:=λj v hj=>by
  have h5:j<5:=by rw [<- hVl];exact (ges hj).1
  rw [hVg j h5] at hj;exact ⟨h5,(osl hj).symm⟩
 have hvs:∀ j v,V[j]? = some v->c.w.cell? ⟨vb,vo+j,none⟩=some v:=λj v hj=>by
  obtain ⟨h5,rfl⟩:=hVi j v hj;obtain ⟨a,ha⟩:=hget j h5;have := hyu 0 j a (by simp) ha;simpa using this
 have h1v:∀ v∈V,v.oneCell'=true:=λv hv=>by
  obtain ⟨j,hj⟩:=Pn hv;obtain ⟨h5,rfl⟩:=hVi j v hj;obtain ⟨a,ha⟩:=hget j h5;exact hy1 0 j a (by simp) ha
 have hxr:∀ (j:Nat) (a:AV),(ai.c x)[j]? = some a->∃ u,V[j]? = some u/\u.oneCell'=true/\c.rel a u:=λj a ha=>by
  have h5:j<5:=by
   have := (ges ha).1
   rwa [ai.len] at this
  exact ⟨_,hVg j h5,hy1 0 j a (by simp) ha,.fr<|hyr 0 j a (by simp) ha⟩
 have hfr:∀ i,i<=cur.size -> ¬ (f.1<=i/\i<f.2):=λi hi=>hB.free f rfl i (by simp only;omega);have h1c:∀ j v,(c.φ 0).2<=j->j<(c.φ 0).2+s.length*5->cur[j]? = some v->v.oneCell'=true:=λj v hj1 hj2 hj=>by
  obtain ⟨p,r,hp,hr5,rfl⟩:∃ p r,p<s.length/\r<5/\j=(c.φ 0).2+p*5+r:=⟨(j-(c.φ 0).2) / 5,(j-(c.φ 0).2) % 5,by omega,by omega,by omega⟩;obtain ⟨a,ha⟩:∃ a,(ai.c s[p])[r]? = some a:=⟨_,geq (show r<(ai.c s[p]).length by have := ai.len s[p];omega)⟩;obtain ⟨u,g1,g2,_⟩:=hB.rel p _ r a (by rw [OA,geq hp];rfl) ha;simp only at g1;rw [hj] at g1;exact osl g1 ▸ g2
 have hlen:=D6 (x:=x) hm;have hrl:∀ (i:Nat) (row:List AV),((s.take m++[x]++s.drop m).map ai.c)[i]? = some row->row.length=5:=λi row hi=>by
  rw [OA] at hi;obtain ⟨y,_,rfl⟩:=OW.1 hi;exact ai.len y
 have stay:∀ (d:Nat) (cs2:Array Value),s.length+1<=cap->cs2.size=cur.size->sU cs2 (c.φ 0).2 cur (c.φ 0).2 s.length m V->∃ c' r,c'.w={ c.w with drawn:=d }.setRow (c.φ 0).1 cs2/\wU 5 134 (λx=>x) (s.take m++[x]++s.drop m).length ((s.take m++[x]++s.drop m).map ai.c) 0 [] r c'.H/\HRel c'/\Ext c c'/\c'.rel r (.slice (some ⟨(c.φ 0).1,(c.φ 0).2,none⟩) (s.length+1) cap):=by
  intro d cs2 hroom hsz2 hI;have hr1:=Cx.dr_rel hr d;have hB1:=BRel.dr hr hB d;have hlv1:(c.dr d).live 0 ⟨fe,5,134,s.map ai.c⟩:=hlv;have hext:=Cx.upd_ext (k:=⟨fe+1,5,134,(s.take m++[x]++s.drop m).map ai.c⟩) (o:=((c.dr d).φ 0).2) (cs:=cs2) hr1 hlv1 hB1 hsz2<|.inr (by simp);have hfit2:((c.dr d).φ 0).2+((s.take m++[x]++s.drop m).map ai.c).length*5<=cs2.size:=by
   rw [llm,hlen,hsz2];show (c.φ 0).2+_<=_;omega
  have hrel2:=Cx.upd_rel (k:=⟨fe+1,5,134,(s.take m++[x]++s.drop m).map ai.c⟩) (o:=((c.dr d).φ 0).2) (cs:=cs2) hr1 hlv1 hB1 hsz2 rfl hext (by simp) hfit2 hrl (λi row j a h1 h2=>by
   obtain ⟨u,g1,g2,g3⟩:=wS hB hm hxr hI i row j a h1 h2;exact ⟨u,g1,g2,g3.ext hr (c.dr_ext d)⟩)
  refine ⟨_,.hs 0 (fe+1) 5 0<|s.length+1,Z,⟨false,fe+1,nofun,by rw [hlen];rfl,?_⟩,hrel2,(c.dr_ext d).trans hext,?_⟩
  ·show c.H.set 0 _=_;rw [hH]
   rfl
  have hl2:=Cx.upd_live_self (k:=⟨fe+1,5,134,(s.take m++[x]++s.drop m).map ai.c⟩) (p:=(((c.dr d).φ 0).1,((c.dr d).φ 0).2)) (cs:=cs2) hlv1;exact CP (k:=⟨fe+1,5,134,(s.take m++[x]++s.drop m).map ai.c⟩) hl2 (cs:=cs2) (t:=134) (fr:=f) (by
   rw [Cx.upd_φ_self];exact setRow_heap _ _ cur cs2 _ f hat) (by simp only [llm,hlen];exact Oy _) hroom hmx (λ_=>by rw [Cx.upd_φ_self];rfl) (by
   rw [Cx.upd_φ_self,hsz2];exact h4)
 have move:∀ (d nc:Nat) (cs2:Array Value),s.length+1<=nc->nc<=9223372036854775807->nc*5<=cs2.size->sU cs2 0 cur (c.φ 0).2 s.length m V->∃ c' r,c'.w={ c.w with drawn:=d }.alloc (.cells cs2 134)/\wU 5 134 (λx=>x) (s.take m++[x]++s.drop m).length ((s.take m++[x]++s.drop m).map ai.c) 0 [] r c'.H/\HRel c'/\Ext c c'/\c'.rel r (.slice (some ⟨c.w.heap.size,0,none⟩) (s.length+1) nc):=by
  intro d nc cs2 hnc hnc2 hsz2 hI;have hr1:=Cx.dr_rel hr d;have hlv1:(c.dr d).live 0 ⟨fe,5,134,s.map ai.c⟩:=hlv;have hext:=Cx.mov_ext (k:=⟨fe+1,5,134,(s.take m++[x]++s.drop m).map ai.c⟩) (cs:=cs2) hr1 hlv1 (by simp);have hrel2:=Cx.mov_rel (k:=⟨fe+1,5,134,(s.take m++[x]++s.drop m).map ai.c⟩) (cs:=cs2) hr1 hlv1 (by simp) (by simp) (by rw [llm,hlen];show _*5<=_;omega) hrl (λi row j a h1 h2=>by
   obtain ⟨u,g1,g2,g3⟩:=wS hB hm hxr hI i row j a h1 h2;rw [Pm] at g1;exact ⟨u,g1,g2,g3.ext hr (c.dr_ext d)⟩)
  refine ⟨_,.hs 0 (fe+1) 5 0<|s.length+1,Z,⟨false,fe+1,nofun,by rw [hlen];rfl,?_⟩,hrel2,(c.dr_ext d).trans hext,?_⟩
  ·show c.H.set 0 _=_;rw [hH]
   rfl
  have hl2:=Cx.mov_live_self (k:=⟨fe+1,5,134,(s.take m++[x]++s.drop m).map ai.c⟩) (cs:=cs2) hlv1;exact CP (k:=⟨fe+1,5,134,(s.take m++[x]++s.drop m).map ai.c⟩) hl2 (cs:=cs2) (t:=134) (fr:=(0,0)) (by
   rw [Cx.mov_φ_self];exact heap_alloc_new (c.dr d).w _) (by simp only [llm,hlen];exact Oy _) hnc hnc2 (λ_=>by rw [Cx.mov_φ_self];rfl) (by
   rw [Cx.mov_φ_self];simpa using hsz2)
 by_cases hroom:s.length+1<=cap
 ·by_cases he:m=s.length
  ·subst he;refine (vF hat hfr hroom h4 hbig hVl hvs h1v).mono ?_;rintro e w' ⟨rfl,cs2,h5,h6,rfl⟩;obtain ⟨c',r,e1,e2,e3,e4,e5⟩:=stay c.w.drawn cs2 hroom h5 h6;exact ⟨_,c',r,Z,e1,e2,e3,e4,e5⟩
  refine (Ae hat hfr (by omega) hroom h4 hmx hbig hvb h1c hVl hvs h1v).mono ?_;rintro e w' ⟨rfl,cs2,h5,h6,rfl⟩;obtain ⟨c',r,e1,e2,e3,e4,e5⟩:=stay (c.w.drawn+1) cs2 hroom h5 h6;exact ⟨_,c',r,Z,e1,e2,e3,e4,e5⟩
 by_cases he:m=s.length
 ·subst he;refine (vH hat (by omega) hc h4 hbig hVl hvs).mono ?_;rintro e w' ⟨nc,h5,h6,rfl,cs2,h7,h8,rfl⟩;obtain ⟨c',r,e1,e2,e3,e4,e5⟩:=move (c.w.drawn+1) nc cs2 h5 h6 h7 h8;exact ⟨_,c',r,Z,e1,e2,e3,e4,e5⟩
 refine (Cz hat (by omega) hc (by omega) h4 hbig h1c hVl hvs h1v).mono ?_;rintro e w' ⟨nc,h5,h6,rfl,cs2,h7,h8,rfl⟩;obtain ⟨c',r,e1,e2,e3,e4,e5⟩:=move (c.w.drawn+1+1) nc cs2 h5 h6 h7 h8;exact ⟨_,c',r,Z,e1,e2,e3,e4,e5⟩
open Go.RowKit Go.WideShapes Go.ChangeShapes Go.Deep
section
variable {H:Type} {enc:TypeId×Value->H} {P:Program}
theorem vI {f:Func} {s:ChangeSpec} {apart fresh handsOn again:Bool} {W W':World} {args:Array Value} {v:Value} {ds gs:List (DataW H)} {before pa pv:List MemPlace}
  (hW:DataW.Whole enc P f.params.toList s.vars apart W args.toList ds gs before)
  (hres:∀ (b:Nat) (sp:Nat->Bool) (hd:Bool),DataW.TrodAll enc P W' b sp hd f.resultTypes.toList (v.resultList f.resultTypes.size) (s.fn H<|ds++gs).results [])
  (hargs:∀ sp:Nat->Bool,(∀ p∈before,sp p.block=true)->DataW.TrodAll enc P W' 0 sp true f.params.toList args.toList (s.fn H<|ds++gs).args pa)
  (hvars:∀ sp:Nat->Bool,(∀ p∈before,sp p.block=true)->DataW.TrodVars enc P W' sp s.vars (s.fn H<|ds++gs).vars pv)
  (hps:before=pa++pv) (hb:Below W.heap.size W W')
  (hok:∀ (j:Nat) (t:TypeId) (r:Value),f.resultTypes[j]? = some t->(v.resultList f.resultTypes.size)[j]? = some r->Value.okWide P W' .any 0 t r) :
  s.post enc P f apart fresh handsOn again W args v W':=by
 have hlt:∀ p∈before,p.block<W.heap.size:=λp hp=>hW.lt p hp;have hold:∀ p∈before,(λb=>decide<|b<W.heap.size) p.block=true:=λp hp=>by simpa using hlt p hp
 refine ⟨ds,gs,before,[],pa,pv,hW,hres _ _ _,hargs _ hold,hvars _ hold,World.keptBut_mono (λp hp=>⟨hp,?_⟩) (hb.frame (· ∈ before)),λ_=>?_⟩
 ·rw [hps,List.mem_append] at hp;exact Or.inr hp
 obtain ⟨_,_,_,_,_,hz,hn⟩:=hW;refine ⟨hok,_,_,([]++pa)++pv,⟨[]++pa,pv,trodAll_append (hargs _ λ_ _=>rfl)<|hres _ _ _,hvars _ λ_ _=>rfl,rfl,?_,?_⟩,?_⟩
 ·intro b off hp;have hin:MemPlace.cell b off∈before:=by rw [hps];simpa using hp
  rw [hb.frozen (hlt _ hin)];exact hz b off hin
 ·intro ha;have := hn ha;rw [hps] at this;simpa using this
 intro p hp _;rw [hps];simpa using hp
theorem o9 (hl:laidOutB P=true) {W W':World} (hb:Below W.heap.size W W') {sp:Nat->Bool}:∀ (ts:List TypeId) (vs:List Value) (ds:List<|DataW H) (ps:List MemPlace),
  (∀ t∈ts,P.readableRec t=true/\t<P.types.size)->DataW.TrodAll enc P W 0 (λ_=>true) true ts vs ds ps->(∀ x∈ps,x.block<W.heap.size)->(∀ x∈ps,sp x.block=true) ->
  DataW.TrodAll enc P W' 0 sp true ts vs ds ps
 | [],[],[],_,_,h,_,_=>h
 | t::ts,v::vs,d::ds,ps,hr,⟨p,q,h1,h2,hpq⟩,hlt,hs=>by
  subst hpq;have hp:∀ x∈p,x.block<W.heap.size:=λx hx=>hlt x (Pu _ hx);exact ⟨p,q,WideElems.Trod_stays hl (hr t (by simp)).1 (hr t (by simp)).2 h1 (λx hx=>hb.same (hp x hx)) (λx hx=>hs x (Pu _ hx)),
   o9 hl hb ts vs ds q (λt ht=>hr t (List.mem_cons_of_mem _ ht)) h2 (λx hx=>hlt x (Pv _ hx)) (λx hx=>hs x (Pv _ hx)),rfl⟩
 | [],_::_,_,_,_,h,_,_=>(by cases h)
 | [],[],_::_,_,_,h,_,_=>(by cases h)
 | _::_,[],_,_,_,h,_,_=>(by cases h)
 | _::_,_::_,[],_,_,h,_,_=>(by cases h)
variable {w:World} {spare:Nat->Bool} {held:Bool}
theorem D7 {α:Type} {f:α->List Value} {s:Nat} {t e:TypeId} (hs:P.cellsOf e=s) (hs0:0<s) (ht:P.underlying t=some (.slice e)) {Good:α->Prop}
  (hel:∀ (fuel:Nat) (cs:List Value) (x:DataW H×List MemPlace),DataW.trod enc P w 0 spare held fuel e cs=some x->∃ a,cs=f a/\Good a) {fuel:Nat} {cs:List Value} {x:DataW H×List MemPlace}
  (h:DataW.trod enc P w 0 spare held fuel t cs=some x):∃ v,cs=[v]/\∃ xs:List α,Sl f s w 0 w.heap.size v xs/\∀ y∈xs,Good y:=by
 rcases open_slice ht h with ⟨rfl,_⟩ | ⟨a,len,cap,m,n,D,Pl,rfl,_,hl,hm,hmm,_,hi⟩
 ·exact ⟨_,rfl,[],Sl.nil_ _ _ (by omega),λy hy=>absurd hy<|by simp⟩
 refine ⟨_,rfl,?_⟩;have hlm:len<=m:=by rw [hmm];split <;> omega
 have key:∀ i,i<len->∃ y:α,Good y/\∀ (j:Nat) (u:Value),(f y)[j]? = some u->w.cell? ((a.add<|i*s).add j)=some u:=by
  intro i hil;obtain ⟨cs',hc,ht'⟩:=hi i (by omega);obtain ⟨y,rfl,hg⟩:=hel _ _ _ ht';obtain ⟨_,hcl,hat⟩:=World.cells?_some hc;rw [hs] at hat hcl;exact ⟨y,hg,λj u hu=>by
   have hj:j<s:=by
    have := (ges hu).1;omega
   rw [hat j hj];exact hu⟩
 have key2:∀ i,i<len->∃ cs',w.cells? 0 (a.add<|i*s) s=some cs':=by
  intro i hil;obtain ⟨cs',hc,_⟩:=hi i (by omega);rw [hs] at hc;exact ⟨cs',hc⟩
 clear hi;simp only [maxLen] at hm
 by_cases hn:0<len
 ·obtain ⟨cs0,hc0⟩:=key2 0 hn;obtain ⟨_,hcl,hat⟩:=World.cells?_some hc0;have h00:=hat 0 hs0;rw [geq (by omega)] at h00;have hspot:=World.cell?_spot h00;obtain ⟨b,o,sp⟩:=a;have hsp:sp=none:=by simpa [Addr.add] using hspot
  subst hsp;have hb:b<w.heap.size:=by
   have := World.block_lt_of_cell? w _ h00;simpa [p7] using this
  have hch:∃ F:Nat->α,∀ i,i<len->Good (F i)/\∀ (j:Nat) (u:Value),(f<|F i)[j]? = some u->w.cell? (((⟨b,o,none⟩:Addr).add<|i*s).add j)=some u:=by
   obtain ⟨y0,_⟩:=key 0 hn;refine ⟨λi=>if h:i<len then (key i h).choose else y0,λi hil=>?_⟩;simp only [dif_pos hil];exact (key i hil).choose_spec
  obtain ⟨F,hF⟩:=hch;refine ⟨(OQ len).map F,⟨_,cap,by simp,by simpa using hl,by omega,λ_=>⟨b,o,rfl,OE _,hb,hb,λk hk j u hu=>?_⟩⟩,λy hy=>?_⟩
  ·have hk':k<len:=by simpa using hk
   have := (hF k hk').2 j u (by simpa using hu)
   rwa [p7,p7] at this
  rw [Pk] at hy;obtain ⟨i,hi,rfl⟩:=hy;exact (hF i<|by simpa using hi).1
 have h0:len=0:=by omega
 subst h0;exact ⟨[],Sl.nil_ _ _ (by omega),λy hy=>absurd hy<|by simp⟩
theorem Hw {t:TypeId} {k:IntKind} (ht:P.underlying t=some (.int k)) (fuel:Nat) (cs:List Value) (x:DataW H×List MemPlace) (h:DataW.trod enc P w 0 spare held fuel t cs=some x) :
  ∃ a:Int,cs=[.int k a]/\(Lit.int k a).wf=true:=by
 obtain ⟨n,h1,_,h3⟩:=DataW.trod_int ht h;exact ⟨n,h1,h3⟩
end
theorem one_cell {v u:Value} (h:v.cells.toList=[u]) (hv:∃ a len cap,v = .slice a len cap):v=u:=by
 obtain ⟨a,len,cap,rfl⟩:=hv;simpa [Value.cells] using h
open Go.ChangeShapes Go.WideShapes Go.ChangeAt Go.RowKit Go.Sort
theorem sV {w:World} {blk off g:Nat} {d:Array Int} (h:g≠blk):(putRow (Value.int .i64) w blk off d).heap[g]? = w.heap[g]? := by
 show (w.heap.modify blk _)[g]? = _;rw [OJ,if_neg (Ne.symm h)]
theorem sZ {w:World} {blk off:Nat} {d:Array Int} {cs:Array Value} {t:TypeId} {fr:Nat×Nat} (h:w.heap[blk]? = some (.cells cs t fr)):(putRow (Value.int .i64) w blk off d).heap[blk]? = some (.cells (putCells (Value.int .i64) off d cs) t fr):=by
 show (w.heap.modify blk _)[blk]? = _;rw [OJ,if_pos rfl,h]
 rfl
theorem kM {off:Nat} {d:Array Int} {cs:Array Value}:(putCells (Value.int .i64) off d cs).size=cs.size:=by simp [putCells]
theorem vJ {off:Nat} {d:Array Int} {cs:Array Value} {k:Nat} (h:off+d.size<=cs.size) (hk:k<d.size):(putCells (Value.int .i64) off d cs)[off+k]? = some (.int .i64 d[k]!):=by
 unfold putCells;rw [Pw,Px (by omega)];simp only [Pe];rw [if_pos (by omega),show off+k-off=k by omega]
theorem D8 {c:Cx} (hr:HRel c) {l q:LI} {ver qq:Nat} (hH:c.H=[some ⟨ver,1,3,l.map cI⟩]) {cs:Array Value} {fr0:Nat×Nat} (hB:BRel c 0 ⟨ver,1,3,l.map cI⟩ cs<|some fr0) {d':Array Int} (hd:d'.size=l.length) (hq:q.length<=d'.size)
  (hqe:∀ i (h:i<q.length),d'[i]! = q[i]) {m:Nat} {os:Array Obj} (hv:(qq=ver/\q.length=l.length)\/ver<qq) :
  ∃ c',c'.w=grow (putRow (Value.int .i64) (Sort.ahead c.w m) (c.φ 0).1 (c.φ 0).2 d') os/\c'.H=[some ⟨qq,1,3,q.map cI⟩]/\HRel c'/\Ext c c'/\c'.φ 0=c.φ 0/\c'.w.heap[(c.φ 0).1]? = some (.cells (putCells (Value.int .i64) (c.φ 0).2 d' cs) 3 fr0):=by
 have hlv:c.live 0 ⟨ver,1,3,l.map cI⟩:=by
  unfold Cx.live;rw [hH]
  rfl
 have hat:c.w.heap[(c.φ 0).1]? = some (.cells cs 3 fr0):=hB.at_;have hblk:(c.φ 0).1<c.w.heap.size:=hr.live_lt hlv;have hfit:(c.φ 0).2+l.length<=cs.size:=by
  have := hB.fits;simpa using this
 have he1:Ext c (c.upd 0 ⟨qq,1,3,q.map cI⟩ ((c.φ 0).1,(c.φ 0).2) (putCells (Value.int .i64) (c.φ 0).2 d' cs)):=Cx.upd_ext hr hlv hB kM (by
  rcases hv with ⟨h1,h2⟩ | h
  ·exact .inl ⟨h1,rfl,by simp [h2],rfl⟩
  exact .inr h)
 have hr1:=Cx.upd_rel hr hlv hB (k:=⟨qq,1,3,q.map cI⟩) (o:=(c.φ 0).2) (cs:=putCells (Value.int .i64) (c.φ 0).2 d' cs) kM rfl he1 Nat.one_pos (by rw [kM];simp;omega) (λi row h=>by
  obtain ⟨x,_,rfl⟩:=by simpa [OA,OW] using h
  rfl) (λi row j a h1 h2=>by
  have hi:i<q.length:=by simpa using (ges h1).1
  have hrw:row=cI q[i]:=by
   have := (ges h1).2;rw [<- this];simp
  subst hrw
  match j,h2 with
  | 0,h2=>
   obtain rfl:=osl h2;refine ⟨.int .i64 d'[i]!,?_,rfl,?_⟩
   ·have := vJ (off:=(c.φ 0).2) (d:=d') (cs:=cs) (k:=i) (by omega) (by omega);simpa using this
   rw [hqe i hi];exact .fr<|.v rfl
  | j+1,h2=>simp [cI] at h2)
 have hbl:Below (c.upd 0 ⟨qq,1,3,q.map cI⟩ ((c.φ 0).1,(c.φ 0).2)<|putCells (Value.int .i64) (c.φ 0).2 d' cs).w.heap.size (c.upd 0 ⟨qq,1,3,q.map cI⟩ ((c.φ 0).1,(c.φ 0).2)<|putCells (Value.int .i64) (c.φ 0).2 d' cs).w (grow (putRow (Value.int .i64) (Sort.ahead c.w m) (c.φ 0).1 (c.φ 0).2 d') os):=by
  have hz:(c.upd 0 ⟨qq,1,3,q.map cI⟩ ((c.φ 0).1,(c.φ 0).2)<|putCells (Value.int .i64) (c.φ 0).2 d' cs).w.heap.size=c.w.heap.size:=by simp [Cx.upd]
  have hs:(putRow (Value.int .i64) (Sort.ahead c.w m) (c.φ 0).1 (c.φ 0).2 d').heap.size=c.w.heap.size:=by rw [size_putRow];rfl
  refine ⟨rfl,rfl,rfl,?_,λg hg=>?_⟩
  ·rw [hz];show _<=((putRow (Value.int .i64) (Sort.ahead c.w m) (c.φ 0).1 (c.φ 0).2 d').heap++os).size;rw [OI,hs];omega
  rw [hz] at hg;show ((putRow (Value.int .i64) (Sort.ahead c.w m) (c.φ 0).1 (c.φ 0).2 d').heap++os)[g]? = (c.w.setRow (c.φ 0).1<|putCells (Value.int .i64) (c.φ 0).2 d' cs).heap[g]?;rw [OZ (by rw [hs];exact hg)]
  by_cases e:g=(c.φ 0).1
  ·subst e;rw [sZ (w:=Sort.ahead c.w m) hat,setRow_heap _ _ _ _ _ _ hat]
  rw [sV e,setRow_other _ _ _ _ e]
  rfl
 obtain ⟨g1,g2⟩:=rV hr1 hbl (fz':=λ_=>False) (λ_ h=>h.elim) (λ_ h=>h.elim) λ_ _ _ h=>h;refine ⟨_,rfl,?_,g1,he1.trans g2,?_,?_⟩
 ·show c.H.set 0 _=_;rw [hH]
  rfl
 ·rfl
 have hz:(c.upd 0 ⟨qq,1,3,q.map cI⟩ ((c.φ 0).1,(c.φ 0).2)<|putCells (Value.int .i64) (c.φ 0).2 d' cs).w.heap.size=c.w.heap.size:=by simp [Cx.upd]
 have := hbl.block (c.φ 0).1 (by rw [hz];exact hblk);refine this.trans ?_;show (c.w.setRow (c.φ 0).1<|putCells (Value.int .i64) (c.φ 0).2 d' cs).heap[_]? = _;exact setRow_heap _ _ _ _ _ _ hat
theorem D9 {c:Cx} (hr:HRel c) {l:LI} {ver:Nat} (hH:c.H=[some ⟨ver,1,3,l.map cI⟩]) {u:Value} (hu:c.rel (.hs 0 ver 1 0 l.length) u) (hn:0<l.length) :
  ∃ cs fr0 cap,BRel c 0 ⟨ver,1,3,l.map cI⟩ cs (some fr0)/\u = .slice (some ⟨(c.φ 0).1,(c.φ 0).2,none⟩) l.length cap/\l.length<=cap/\cap<=9223372036854775807/\(c.φ 0).2+cap<=cs.size/\Holds (Value.int .i64) c.w (c.φ 0).1 (c.φ 0).2 l.toArray/\(c.φ 0).1<c.w.heap.size:=by
 have hlv:c.live 0 ⟨ver,1,3,l.map cI⟩:=by
  unfold Cx.live;rw [hH]
  rfl
 obtain ⟨cs,fr0,hB⟩:=hr.blk 0 _ hlv
 cases hu with
 | fr h=>cases h
 | @hs _ _ _ _ _ cap A hb hc hm h0 h=>
 obtain ⟨f,rfl,hat,hhd⟩:=hB.cells hlv λx hx=>(h x hx).1;obtain ⟨_,_,h3,h4⟩:=h _ hhd;have hA:=h3 (by omega);simp only [Nat.zero_mul,OM,Pd] at hA h4;refine ⟨cs,f,cap,hB,by rw [hA],hc,hm,h4,λj hj=>?_,hr.live_lt hlv⟩;have hj:j<l.length:=by simpa using hj
 have hj2:(c.φ 0).2+j<cs.size:=by omega
 obtain ⟨u,g1,g2,g3⟩:=hB.rel j (cI l[j]) 0 (I l[j]) (by simp [hj]) rfl;refine ⟨?_,?_⟩
 ·simp only [World.cell?,hat];have := dE g3;simp only [Pd,OM] at g1;rw [g1];obtain ⟨rfl,_⟩:=this;simp [hj]
 have := hB.fre f rfl _ hj2;obtain ⟨lo,hi'⟩:=f;simp only [World.frozen?,hat,Py,decide_eq_false_iff_not];simp only at this;omega
open Go.Shelf Go.RowKit Go.Lib Go.Sort
def Hy:Go.Shelf.Ren:=⟨λ| 5=>226 | 8=>137 | 7=>229 | 19=>168 | 20=>169 | 10=>232 | 11=>233 | 12=>234 | 13=>235 | 14=>236 | 15=>237 | 16=>238 | 17=>239 | 18=>240 | 30=>242 | 31=>187 | 32=>188 | 33=>243 | 34=>244 | 35=>170 | 40=>246 | n=>n,λ| 23=>41 | 25=>3 | 3=>3 | 32=>155 | 22=>41 | 0=>0 | 44=>192 | 46=>194 | 4=>4 | 36=>186 | 35=>185 | 41=>55 | 5=>5 | 9=>9 | 53=>212 | 57=>216 | 63=>218 | 64=>219 | n=>n,λ| n=>n⟩
theorem EC:Go.Proofs.SlLaysM.n5 Tryz.prog Hy where
 mixed:=by kernel_rfl
 f5 := ⟨"slices.Sort[[]int,int]",by decide,Tryz.func226.trans (congrArg some (by kernel_rfl))⟩
 f7 := ⟨"slices.pdqsortOrdered[int]",by decide,Tryz.func229.trans (congrArg some (by kernel_rfl))⟩
 f8:=Tryz.func137.trans<|congrArg some (by kernel_rfl)
 f10 := ⟨"slices.insertionSortOrdered[int]",by decide,Tryz.func232.trans (congrArg some (by kernel_rfl))⟩
 f11 := ⟨"slices.heapSortOrdered[int]",by decide,Tryz.func233.trans (congrArg some (by kernel_rfl))⟩
 f12 := ⟨"slices.breakPatternsOrdered[int]",by decide,Tryz.func234.trans (congrArg some (by kernel_rfl))⟩
 f13 := ⟨"slices.choosePivotOrdered[int]",by decide,Tryz.func235.trans (congrArg some (by kernel_rfl))⟩
 f14 := ⟨"slices.reverseRangeOrdered[int]",by decide,Tryz.func236.trans (congrArg some (by kernel_rfl))⟩
 f15 := ⟨"slices.partialInsertionSortOrdered[int]",by decide,Tryz.func237.trans (congrArg some (by kernel_rfl))⟩
 f16 := ⟨"cmp.Less[int]",by decide,Tryz.func238.trans (congrArg some (by kernel_rfl))⟩
 f17 := ⟨"slices.partitionEqualOrdered[int]",by decide,Tryz.func239.trans (congrArg some (by kernel_rfl))⟩
 f18 := ⟨"slices.partitionOrdered[int]",by decide,Tryz.func240.trans (congrArg some (by kernel_rfl))⟩
 f19:=Tryz.func168.trans<|congrArg some (by kernel_rfl)
 f20:=Tryz.func169.trans<|congrArg some (by kernel_rfl)
 f30 := ⟨"slices.siftDownOrdered[int]",by decide,Tryz.func242.trans (congrArg some (by kernel_rfl))⟩
 f31:=Tryz.func187.trans<|congrArg some (by kernel_rfl)
 f32:=Tryz.func188.trans<|congrArg some (by kernel_rfl)
 f33 := ⟨"slices.medianAdjacentOrdered[int]",by decide,Tryz.func243.trans (congrArg some (by kernel_rfl))⟩
 f34 := ⟨"slices.medianOrdered[int]",by decide,Tryz.func244.trans (congrArg some (by kernel_rfl))⟩
 f35 := ⟨"cmp.isNaN[int]",by decide,Tryz.func170.trans (congrArg some (by kernel_rfl))⟩
 f40 := ⟨"slices.order2Ordered[int]",by decide,Tryz.func246.trans (congrArg some (by kernel_rfl))⟩
 t0:=Tryz.underlying0
 a0:=Tryz.isAgg0
 z0:=Tryz.sizeOf0
 v0:=Tryz.zeroValue0
 t3:=Tryz.underlying3
 a3:=Tryz.isAgg3
 z3:=Tryz.sizeOf3
 v3:=Tryz.zeroValue3
 t4:=Tryz.underlying4
 a4:=Tryz.isAgg4
 z4:=Tryz.sizeOf4
 v4:=Tryz.zeroValue4
 t5:=Tryz.underlying5
 a5:=Tryz.isAgg5
 z5:=Tryz.sizeOf5
 v5:=Tryz.zeroValue5
 t9:=Tryz.underlying9
 a9:=Tryz.isAgg9
 z9:=Tryz.sizeOf9
 v9:=Tryz.zeroValue9
 t22:=Tryz.underlying41
 a22:=Tryz.isAgg41
 z22:=Tryz.sizeOf41
 v22:=Tryz.zeroValue41
 t23:=Tryz.underlying41
 a23:=Tryz.isAgg41
 z23:=Tryz.sizeOf41
 v23:=Tryz.zeroValue41
 t25:=Tryz.underlying3
 a25:=Tryz.isAgg3
 z25:=Tryz.sizeOf3
 v25:=Tryz.zeroValue3
 t32:=Tryz.underlying155
 a32:=Tryz.isAgg155
 z32:=Tryz.sizeOf155
 v32:=Tryz.zeroValue155
 t35:=Tryz.underlying185
 a35:=Tryz.isAgg185
 z35:=Tryz.sizeOf185
 v35:=Tryz.zeroValue185
 t36:=Tryz.underlying186
 a36:=Tryz.isAgg186
 z36:=Tryz.sizeOf186
 v36:=Tryz.zeroValue186
 t41:=Tryz.underlying55
 a41:=Tryz.isAgg55
 z41:=Tryz.sizeOf55
 v41:=Tryz.zeroValue55
 t44:=Tryz.underlying192
 a44:=Tryz.isAgg192
 z44:=Tryz.sizeOf192
 v44:=Tryz.zeroValue192
 t46:=Tryz.underlying194
 a46:=Tryz.isAgg194
 z46:=Tryz.sizeOf194
 v46:=Tryz.zeroValue194
 t53:=Tryz.underlying212
 a53:=Tryz.isAgg212
 z53:=Tryz.sizeOf212
 v53:=Tryz.zeroValue212
 t57:=Tryz.underlying216
 a57:=Tryz.isAgg216
 z57:=Tryz.sizeOf216
 v57:=Tryz.zeroValue216
 t63:=Tryz.underlying218
 a63:=Tryz.isAgg218
 z63:=Tryz.sizeOf218
 v63:=Tryz.zeroValue218
 t64:=Tryz.underlying219
 a64:=Tryz.isAgg219
 z64:=Tryz.sizeOf219
 v64:=Tryz.zeroValue219
open Go.ChangeShapes Go.WideShapes Go.ChangeAt Go.RowKit Go.Shelf Go.Sort
theorem tj (l:LI) (g:Bool) (ver:Nat) (hg:g=true->l=[]) {q} (h:jr l=some q) :
  fg Tryz.prog 226 [hS g 0 ver 1 l.length] [bE g ver 1 3 (l.map cI)] (.tup []) [bE g ver 1 3 (q.map cI)]:=by
 obtain ⟨hl,h⟩:=gdD h;obtain rfl:=osl h;refine ⟨by kernel_rfl,λc vs hH hr hall=>?_⟩;obtain ⟨hsz,hrel⟩:=hall;obtain ⟨u,rfl⟩:∃ u,vs = #[u]:=by
  match vs,hsz with
  | ⟨[u]⟩,_=>exact ⟨u,rfl⟩
 have hu:=hrel 0 _ u rfl rfl
 by_cases hn:0<l.length
 ·obtain rfl:g=false:=by
   cases g with
   | false=>rfl
   | true=>
    rw [hg rfl] at hn;exact absurd hn (by simp)
  have hH:c.H=[some ⟨ver,1,3,l.map cI⟩]:=hH;obtain ⟨cs,fr0,cap,hB,rfl,hc,hm,hcs,hHo,hblk⟩:=D9 hr hH hu hn;have hcon:=AnyM.slices_Sort_int EC (c.φ 0).1 (c.φ 0).2 cap l c.w hHo hblk hl;refine (show Calls Tryz.prog 226 _ _ _ from hcon).mono ?_;rintro e w' ⟨rfl,m,os,rfl⟩;have hll:(Gb l).length=l.length:=(kQ l).length_eq;obtain ⟨c',w1,w2,w3,w4,w5,w6⟩:=D8 hr hH hB (q:=Gb l) (qq:=ver) (d':=(Gb l).toArray) (by simpa using hll) (by simp) (λk hk=>by
   rw [getElem!_pos _ k (by simpa using hk)];simp) (m:=m) (os:=os) (.inl ⟨rfl,hll⟩)
  exact ⟨_,c',Z,w1,w2,w3,w4,.tup Z λi x y hx=>by simp at hx⟩
 obtain rfl:l=[]:=Pj (by omega);obtain ⟨A,cap,rfl⟩:∃ A cap,u = .slice A 0 cap:=by
  cases g with
  | true=>
   cases hu with
   | fr h=>cases h;exact ⟨_,_,rfl⟩
  | false=>
   obtain ⟨A,cap,h6,_⟩:=ig hu;exact ⟨A,cap,h6⟩
 refine (show Calls Tryz.prog 226 _ _ _ from AnyM.slices_Sort_int_none EC A cap c.w).mono ?_;rintro e w' ⟨rfl,rfl⟩;refine ⟨_,c,Z,Z,?_,hr,Ext.refl c,.tup Z λi x y hx=>by simp at hx⟩;rw [hH,(kQ []).eq_nil]
def Hz:Go.Shelf.Ren:=⟨λ| 6=>122 | 15=>137 | 14=>136 | 28=>168 | 29=>169 | 20=>160 | 21=>161 | 22=>162 | 23=>163 | 24=>164 | 25=>165 | 26=>166 | 27=>167 | 46=>186 | 47=>187 | 48=>188 | 49=>189 | 50=>190 | 57=>191 | n=>n,λ| 22=>34 | 24=>41 | 25=>138 | 3=>3 | 39=>155 | 0=>0 | 53=>192 | 55=>194 | 4=>4 | 46=>186 | 45=>185 | 50=>55 | 5=>5 | 9=>9 | 66=>212 | 70=>216 | 76=>218 | 77=>219 | n=>n,λ| n=>n⟩
theorem ED:Go.Proofs.SlLaysF.n6 Tryz.prog Hz where
 mixed:=by kernel_rfl
 f6 := ⟨"slices.SortFunc[[][]int,[]int]",by decide,Tryz.func122.trans (congrArg some (by kernel_rfl))⟩
 f14 := ⟨"slices.pdqsortCmpFunc[[]int]",by decide,Tryz.func136.trans (congrArg some (by kernel_rfl))⟩
 f15:=Tryz.func137.trans<|congrArg some (by kernel_rfl)
 f20 := ⟨"slices.insertionSortCmpFunc[[]int]",by decide,Tryz.func160.trans (congrArg some (by kernel_rfl))⟩
 f21 := ⟨"slices.heapSortCmpFunc[[]int]",by decide,Tryz.func161.trans (congrArg some (by kernel_rfl))⟩
 f22 := ⟨"slices.breakPatternsCmpFunc[[]int]",by decide,Tryz.func162.trans (congrArg some (by kernel_rfl))⟩
 f23 := ⟨"slices.choosePivotCmpFunc[[]int]",by decide,Tryz.func163.trans (congrArg some (by kernel_rfl))⟩
 f24 := ⟨"slices.reverseRangeCmpFunc[[]int]",by decide,Tryz.func164.trans (congrArg some (by kernel_rfl))⟩
 f25 := ⟨"slices.partialInsertionSortCmpFunc[[]int]",by decide,Tryz.func165.trans (congrArg some (by kernel_rfl))⟩
 f26 := ⟨"slices.partitionEqualCmpFunc[[]int]",by decide,Tryz.func166.trans (congrArg some (by kernel_rfl))⟩
 f27 := ⟨"slices.partitionCmpFunc[[]int]",by decide,Tryz.func167.trans (congrArg some (by kernel_rfl))⟩
 f28:=Tryz.func168.trans<|congrArg some (by kernel_rfl)
 f29:=Tryz.func169.trans<|congrArg some (by kernel_rfl)
 f46 := ⟨"slices.siftDownCmpFunc[[]int]",by decide,Tryz.func186.trans (congrArg some (by kernel_rfl))⟩
 f47:=Tryz.func187.trans<|congrArg some (by kernel_rfl)
 f48:=Tryz.func188.trans<|congrArg some (by kernel_rfl)
 f49 := ⟨"slices.medianAdjacentCmpFunc[[]int]",by decide,Tryz.func189.trans (congrArg some (by kernel_rfl))⟩
 f50 := ⟨"slices.medianCmpFunc[[]int]",by decide,Tryz.func190.trans (congrArg some (by kernel_rfl))⟩
 f57 := ⟨"slices.order2CmpFunc[[]int]",by decide,Tryz.func191.trans (congrArg some (by kernel_rfl))⟩
 t0:=Tryz.underlying0
 a0:=Tryz.isAgg0
 z0:=Tryz.sizeOf0
 v0:=Tryz.zeroValue0
 t3:=Tryz.underlying3
 a3:=Tryz.isAgg3
 z3:=Tryz.sizeOf3
 v3:=Tryz.zeroValue3
 t4:=Tryz.underlying4
 a4:=Tryz.isAgg4
 z4:=Tryz.sizeOf4
 v4:=Tryz.zeroValue4
 t5:=Tryz.underlying5
 a5:=Tryz.isAgg5
 z5:=Tryz.sizeOf5
 v5:=Tryz.zeroValue5
 t9:=Tryz.underlying9
 a9:=Tryz.isAgg9
 z9:=Tryz.sizeOf9
 v9:=Tryz.zeroValue9
 t22:=Tryz.underlying34
 a22:=Tryz.isAgg34
 z22:=Tryz.sizeOf34
 v22:=Tryz.zeroValue34
 a24:=Tryz.isAgg41
 z24:=Tryz.sizeOf41
 t25:=Tryz.underlying138
 a25:=Tryz.isAgg138
 z25:=Tryz.sizeOf138
 v25:=Tryz.zeroValue138
 t39:=Tryz.underlying155
 a39:=Tryz.isAgg155
 z39:=Tryz.sizeOf155
 v39:=Tryz.zeroValue155
 t45:=Tryz.underlying185
 a45:=Tryz.isAgg185
 z45:=Tryz.sizeOf185
 v45:=Tryz.zeroValue185
 t46:=Tryz.underlying186
 a46:=Tryz.isAgg186
 z46:=Tryz.sizeOf186
 v46:=Tryz.zeroValue186
 t50:=Tryz.underlying55
 a50:=Tryz.isAgg55
 z50:=Tryz.sizeOf55
 v50:=Tryz.zeroValue55
 t53:=Tryz.underlying192
 a53:=Tryz.isAgg192
 z53:=Tryz.sizeOf192
 v53:=Tryz.zeroValue192
 t55:=Tryz.underlying194
 a55:=Tryz.isAgg194
 z55:=Tryz.sizeOf194
 v55:=Tryz.zeroValue194
 t66:=Tryz.underlying212
 a66:=Tryz.isAgg212
 z66:=Tryz.sizeOf212
 v66:=Tryz.zeroValue212
 t70:=Tryz.underlying216
 a70:=Tryz.isAgg216
 z70:=Tryz.sizeOf216
 v70:=Tryz.zeroValue216
 t76:=Tryz.underlying218
 a76:=Tryz.isAgg218
 z76:=Tryz.sizeOf218
 v76:=Tryz.zeroValue218
 t77:=Tryz.underlying219
 a77:=Tryz.isAgg219
 z77:=Tryz.sizeOf219
 v77:=Tryz.zeroValue219
theorem Ea {α:Type} (f:α->LI):SWO (ltOf λx y=>cmpL (f x)<|f y) where
 irrefl x:=by simp [ltOf,kR]
 trans x y z h1 h2:=by
  simp only [ltOf,dte] at *;exact mV h1 h2
 ntrans x y z h1 h2:=by
  simp only [ltOf,decide_eq_false_iff_not] at *;intro h;rcases mW (f x) (f y) with g | g | g
  ·exact h1 g
  ·rw [g] at h;exact h2 h
  exact h2<|mV g h
theorem tX (x y:Int) (w:World) :
  Calls Tryz.prog 138 #[.int .i64 x,.int .i64 y] w λe w'=>e = .returned (.int .i64<|if x<y then -1 else if y<x then 1 else 0)/\w'=w:=by
 go_enter Tryz.func138,Tryz.ntmps138
 by_cases h1:x<y
 ·rw [if_pos h1]
  go_wp2
  go_ret
  exact ⟨rfl,rfl⟩
 rw [if_neg h1]
 by_cases h2:y<x
 ·rw [if_pos h2]
  go_wp2
  go_ret
  exact ⟨rfl,rfl⟩
 rw [if_neg h2]
 go_wp2
 go_ret
 exact ⟨rfl,rfl⟩
theorem yf {lo hi lo' hi':Nat} {u v:Value} {xs ys:LI} {w:World} (hu:Sl Gw 1 w lo hi u xs) (hv:Sl Gw 1 w lo' hi' v ys) :
  Calls Tryz.prog 123 #[u,v] w λe w'=>e = .returned (.int .i64<|cmpL xs ys)/\w'=w:=by
 obtain ⟨A,ca,rfl,hca,hma,hA⟩:=hu.ints;obtain ⟨B,cb,rfl,hcb,hmb,hB⟩:=hv.ints;have HAA:=Lib.hid hA;clear hA;have HBB:=Lib.hid hB;clear hB
 go_enter Tryz.func123,Tryz.ntmps123
 go_wp2_with fail
 go_loopw [11] (λi wr=>∃ k:Nat,k<=xs.length/\k<=ys.length/\i = .int .i64 k/\wr=w/\cmpL xs ys=cmpL (xs.drop k) (ys.drop k)) (λi _=>xs.length-(intOf i).toNat)
 case atStart=>exact ⟨0,OE _,OE _,rfl,rfl,rfl⟩
 case round=>
  obtain ⟨k,hk,hk2,rfl,rfl,he⟩:=hrel;have HE:=Lib.hid he;clear he
  by_cases hlt:k<xs.length
  ·obtain ⟨ba,oa,rfl,_,_,hba,hA⟩:=HAA.out (by omega);have ca1:=hA k hlt;clear hA;have i1:(0:Int)<=(k:Int):=by omega
   have i2:(k:Int)<(xs.length:Int):=by omega
   have HX:=Lib.hid<|Po hlt
   by_cases hlt2:k<ys.length
   ·obtain ⟨bb,ob,rfl,_,_,hbb,hB⟩:=HBB.out (by omega);have cb1:=hB k hlt2;clear hB;have i3:(k:Int)<(ys.length:Int):=by omega
    have HY:=Lib.hid<|Po hlt2;generalize xs[k]=x at *;generalize ys[k]=y at *;have hc:=tX x y wr
    by_cases h1:x<y
    ·rw [if_pos h1] at hc;have HR:=Lib.hid (show cmpL xs ys = -1 by rw [HE.out,HX.out,HY.out,cmpL,if_pos h1])
     go_wp2_with (go_at_call 138;refine hc.mono ?_;rintro e w' ⟨rfl,rfl⟩)
     go_ret
     exact ⟨by rw [HR.out];rfl,rfl⟩
    rw [if_neg h1] at hc
    by_cases h2:y<x
    ·rw [if_pos h2] at hc;have HR:=Lib.hid (show cmpL xs ys=1 by rw [HE.out,HX.out,HY.out,cmpL,if_neg h1,if_pos h2])
     go_wp2_with (go_at_call 138;refine hc.mono ?_;rintro e w' ⟨rfl,rfl⟩)
     go_ret
     exact ⟨by rw [HR.out];rfl,rfl⟩
    rw [if_neg h2] at hc;have HR:=Lib.hid (show cmpL xs ys=cmpL (xs.drop<|k+1) (ys.drop<|k+1) by rw [HE.out,HX.out,HY.out,cmpL,if_neg h1,if_neg h2])
    go_wp2_with (go_at_call 138;refine hc.mono ?_;rintro e w' ⟨rfl,rfl⟩)
    go_roundw
    case rel=>exact ⟨k+1,by omega,by omega,by go_num,by first | rfl | trivial,HR.out⟩
    case measure=>simp [intOf];omega
   have hky:k=ys.length:=by omega
   have i3:((ys.length:Int)<=(k:Int)):=by omega
   have HR:=Lib.hid (show cmpL xs ys=1 by rw [HE.out,HX.out,Pz (show ys.length<=k by omega)];rfl);clear hky
   go_wp2_with fail
   go_ret
   exact ⟨by rw [HR.out];rfl,rfl⟩
  have hkx:k=xs.length:=by omega
  have HF:=Lib.hid (show cmpL xs ys=cmpL [] (ys.drop xs.length) by rw [HE.out,hkx,List.drop_length]);clear HE;subst hkx
  by_cases hl:xs.length<ys.length
  ·have i3:((xs.length:Int)<(ys.length:Int)):=by omega
   go_wp2_with fail
   go_ret
   exact ⟨by rw [HF.out,Po hl];rfl,rfl⟩
  have i3 : ¬ ((xs.length:Int)<(ys.length:Int)):=by omega
  go_wp2_with fail
  go_ret
  exact ⟨by rw [HF.out,Pz (by omega)];rfl,rfl⟩
theorem pg {w:World} {fz:Nat->Prop} {v:Value} {l:LI} (h:FRel w fz (eL cI l) v):Sl Gw 1 w 0 w.heap.size v l:=by
 have := uI (f:=Gw) (s:=1) (c:=cI) (e:=id) (λ_=>rfl) (λ_=>rfl) h
 rwa [Ph] at this
def Rd1 (w:World) (fz:Nat->Prop):Type:={ p:Value×LI // p.1.oneCell'=true/\FRel w fz (eL cI p.2) p.1 }
theorem CB (w:World) (fz:Nat->Prop):FRel w fz (eL cI ([]:LI)) (.slice none 0 0):=
 .sl (s:=1) (g:=0) (o:=0) (λ_ _ => .bool false) (Oy _) (by decide) (λh=>absurd h<|by simp) (λi h=>absurd h<|by simp) (λi j a h=>absurd h<|by simp) (λi j a h=>absurd h<|by simp) λi j a h=>absurd h (by simp)
instance {w:World} {fz:Nat->Prop}:Inhabited (Rd1 w fz):=⟨⟨(.slice none 0 0,[]),rfl,CB w fz⟩⟩
def vM {w:World} {fz:Nat->Prop} (x:Rd1 w fz):Value:=x.1.1
def CC {w:World} {fz:Nat->Prop} (x:Rd1 w fz):LI:=x.1.2
theorem nI {α:Type} [Inhabited α] {enc:α->Value} {w:World} {blk off g:Nat} {d:Array α} (h:g≠blk):(putRow enc w blk off d).heap[g]? = w.heap[g]? := by
 show (w.heap.modify blk _)[g]? = _;rw [OJ,if_neg (Ne.symm h)]
theorem tY {α:Type} [Inhabited α] {enc:α->Value} {w:World} {blk off:Nat} {d:Array α} {cs:Array Value} {t:TypeId} {fr:Nat×Nat} (h:w.heap[blk]? = some (.cells cs t fr)):(putRow enc w blk off d).heap[blk]? = some (.cells (putCells enc off d cs) t fr):=by
 show (w.heap.modify blk _)[blk]? = _;rw [OJ,if_pos rfl,h]
 rfl
theorem nJ {α:Type} [Inhabited α] {enc:α->Value} {w:World} {blk off m g:Nat} {d:Array α} {os:Array Obj} (hg:g<w.heap.size):(sortWorld enc w blk off m d os).heap[g]? = (putRow enc w blk off d).heap[g]? := by
 show ((putRow enc (Sort.ahead w m) blk off d).heap++os)[g]? = _;have hs:(putRow enc (Sort.ahead w m) blk off d).heap.size=w.heap.size:=by rw [size_putRow];rfl
 rw [OZ (by rw [hs];exact hg)]
 rfl
theorem lL {α:Type} [Inhabited α] {enc:α->Value} {off:Nat} {d:Array α} {cs:Array Value}:(putCells enc off d cs).size=cs.size:=by simp [putCells]
theorem wT {α:Type} [Inhabited α] {enc:α->Value} {off:Nat} {d:Array α} {cs:Array Value} {k:Nat} (h:off+d.size<=cs.size) (hk:k<d.size):(putCells enc off d cs)[off+k]? = some (enc d[k]!):=by
 unfold putCells;rw [Pw,Px (by omega)];simp only [Pe];rw [if_pos (by omega),show off+k-off=k by omega]
theorem F3 {c:Cx} {blk off size:Nat} (hnf : ¬ c.fz blk) (hlt:∀ g,c.fz g->g<c.w.heap.size):CmpLays1 Tryz.prog 123 #[] (vM (w:=c.w) (fz:=c.fz)) (λx y=>cmpL (CC x)<|CC y) blk off size c.w:=by
 intro m os dk hs x y;have hW:∀ g,c.fz g->g<c.w.heap.size->(sortWorld vM c.w blk off m dk os).heap[g]? = c.w.heap[g]? /\ c.fz g:=λg hg hl=>by
  rw [nJ hl,nI (by rintro rfl;exact hnf hg)];exact ⟨rfl,hg⟩
 have hsz:c.w.heap.size<=(sortWorld vM c.w blk off m dk os).heap.size:=by
  show _<=((putRow vM (Sort.ahead c.w m) blk off dk).heap++os).size;rw [OI,size_putRow];show c.w.heap.size<=c.w.heap.size+os.size;omega
 have hx:=pg<|x.2.2.mono hsz hW;have hy:=pg<|y.2.2.mono hsz hW;refine (yf hx hy).mono λe w' ⟨he,hw⟩=>⟨he,0,#[],?_⟩;rw [hw,grow_empty]
 rfl
theorem Eb {c:Cx} (hr:HRel c) {l:LL} {ver:Nat} (hH:c.H=[some ⟨ver,1,41,l.map<|cL cI⟩]) {u:Value} (hu:c.rel (.hs 0 ver 1 0 l.length) u) (hl:l.length<4611686018427387904) (hn:0<l.length) :
  Calls Tryz.prog 122 #[u,.func (.func 123) #[] #[]] c.w λe w'=>∃ c',e = .returned (.tuple #[])/\c'.w=w'/\c'.H=[some ⟨ver,1,41,(wD l).map<|cL cI⟩]/\HRel c'/\Ext c c':=by
 have hlv:c.live 0 ⟨ver,1,41,l.map<|cL cI⟩:=by
  unfold Cx.live;rw [hH]
  rfl
 obtain ⟨cs,fr0,hB⟩:=hr.blk 0 _ hlv
 cases hu with
 | fr h=>cases h
 | @hs _ _ _ _ _ cap A hb hc hm h0 h=>
 obtain ⟨f,rfl,hat,hhd⟩:=hB.cells hlv λx hx=>(h x hx).1;obtain ⟨_,_,h3,_⟩:=h _ hhd;have hA:=h3 (by omega);have hfit:(c.φ 0).2+l.length<=cs.size:=by
  have := hB.fits;simpa using this
 have hrow:∀ i (hi:i<l.length),∃ p:Rd1 c.w c.fz,cs[(c.φ 0).2+i]? = some (vM p)/\CC p=l[i]:=λi hi=>by
  obtain ⟨u,g1,g2,g3⟩:=hB.rel i (cL cI l[i]) 0 (eL cI l[i]) (by simp [hi]) rfl;refine ⟨⟨(u,l[i]),g2,nK 1 _ _ rfl g3⟩,?_,rfl⟩;show _=some u;simpa using g1
 obtain ⟨d,hds,hd1,hd2⟩:∃ d:Array (Rd1 c.w c.fz),d.size=l.length/\(∀ i,i<l.length->cs[(c.φ 0).2+i]? = some (vM d[i]!))/\d.toList.map CC=l:=by
  refine ⟨Array.ofFn (λi:_root_.Fin l.length=>(hrow i.1 i.2).choose),by simp,λi hi=>?_,?_⟩
  ·rw [getElem!_pos _ i (by simpa using hi),PD];exact (hrow i hi).choose_spec.1
  apply List.ext_getElem
  ·simp
  intro i h1 h2;simp only [OL,Array.getElem_toList,PD];exact (hrow i h2).choose_spec.2
 have hblk:(c.φ 0).1<c.w.heap.size:=hr.live_lt hlv;have hH2:Holds (vM (w:=c.w) (fz:=c.fz)) c.w (c.φ 0).1 (c.φ 0).2 d:=λj hj=>by
  have hj2:(c.φ 0).2+j<cs.size:=by omega
  refine ⟨?_,?_⟩
  ·simp only [World.cell?,hat];exact hd1 j (by omega)
  have := hB.fre f rfl _ hj2;obtain ⟨lo,hi'⟩:=f;simp only [World.frozen?,hat,Py,decide_eq_false_iff_not];simp only at this;omega
 have eg:∀ args w,(callFunc 123 args).run Tryz.prog w = .ok (.enter 123 args) w:=enters_of Tryz.func123 (by kernel_rfl) rfl;have hcon:=Any.slices_SortFunc ED (vM (w:=c.w) (fz:=c.fz)) (λx=>x.2.1) (λx y=>cmpL (CC x)<|CC y) (Ea CC) 123 #[] (c.φ 0).1 (c.φ 0).2 cap d c.w eg (F3 (hr.not_fz hlv) hr.lt) hH2 hblk (by omega);rw [hA,show (c.φ 0).2+0*1=(c.φ 0).2 by omega,<- hds];refine (show Calls Tryz.prog 122 _ _ _ from hcon).mono ?_;rintro e w' ⟨rfl,d',m,os,hp,hs,rfl⟩;have hds':d'.size=l.length:=hp.1.trans hds;have hpl:d'.toList.Perm d.toList:=by
  have := hp.2.2
  rwa [PE (by omega),PE (by omega)] at this
 have hsl:d'.toList.map CC=wD l:=by
  refine nN ((hpl.map CC).trans<|hd2 ▸ (jZ l).symm) ?_<|sF l;rw [List.pairwise_map,List.pairwise_iff_getElem];intro i j h1 h2 hij;have := hs i j (OE _) hij (by rw [hds,<- hds'];simpa using h2);rw [getElem!_pos d' j (by simpa using h2),getElem!_pos d' i (by simpa using h1)] at this;unfold ltOf at this;unfold leL;rw [dte];simpa using this
 have hat':∀ i (hi:i<(wD l).length),CC d'[i]! = (wD l)[i]:=λi hi=>by
  have hi2:i<d'.size:=by
   rw [(jZ l).length_eq] at hi;omega
  rw [getElem!_pos d' i hi2];have : (d'.toList.map CC)[i]? = (wD l)[i]? := by rw [hsl]
  rw [geq (by simpa using hi2),geq hi] at this;simpa using this
 have hll:(wD l).length=l.length:=(jZ l).length_eq;have he1:Ext c (c.upd 0 ⟨ver,1,41,(wD l).map (cL cI)⟩ ((c.φ 0).1,(c.φ 0).2) (putCells vM (c.φ 0).2 d' cs)):=Cx.upd_ext hr hlv hB lL (.inl ⟨rfl,rfl,by simp [hll],rfl⟩);have hr1:=Cx.upd_rel hr hlv hB (k:=⟨ver,1,41,(wD l).map (cL cI)⟩) (o:=(c.φ 0).2) (cs:=putCells vM (c.φ 0).2 d' cs) lL rfl he1 Nat.one_pos (by rw [lL];simpa [hll] using hfit) (λi row h=>by
  obtain ⟨x,_,rfl⟩:=by simpa [OA,OW] using h
  rfl) (λi row j a h1 h2=>by
  have hi:i<(wD l).length:=by simpa using (ges h1).1
  have hrw:row=cL cI (wD l)[i]:=by
   have := (ges h1).2;rw [<- this];simp
  subst hrw
  match j,h2 with
  | 0,h2=>
   obtain rfl:=osl h2;refine ⟨vM d'[i]!,?_,d'[i]!.2.1,?_⟩
   ·have := wT (enc:=vM) (off:=(c.φ 0).2) (d:=d') (cs:=cs) (k:=i) (by omega) (by omega);simpa using this
   rw [<- hat' i hi];exact .fr d'[i]!.2.2
  | j+1,h2=>simp [cL] at h2)
 have hbl:Below (c.upd 0 ⟨ver,1,41,(wD l).map<|cL cI⟩ ((c.φ 0).1,(c.φ 0).2)<|putCells vM (c.φ 0).2 d' cs).w.heap.size (c.upd 0 ⟨ver,1,41,(wD l).map<|cL cI⟩ ((c.φ 0).1,(c.φ 0).2)<|putCells vM (c.φ 0).2 d' cs).w (sortWorld vM c.w (c.φ 0).1 (c.φ 0).2 m d' os):=by
  have hz:(c.upd 0 ⟨ver,1,41,(wD l).map<|cL cI⟩ ((c.φ 0).1,(c.φ 0).2)<|putCells vM (c.φ 0).2 d' cs).w.heap.size=c.w.heap.size:=by simp [Cx.upd]
  refine ⟨rfl,rfl,rfl,?_,λg hg=>?_⟩
  ·rw [hz];show _<=((putRow vM (Sort.ahead c.w m) (c.φ 0).1 (c.φ 0).2 d').heap++os).size;rw [OI,size_putRow];show c.w.heap.size<=c.w.heap.size+os.size;omega
  rw [hz] at hg;rw [nJ hg];show _=(c.w.setRow (c.φ 0).1<|putCells vM (c.φ 0).2 d' cs).heap[g]?
  by_cases e:g=(c.φ 0).1
  ·subst e;rw [tY hat,setRow_heap _ _ _ _ _ _ hat]
  rw [nI e,setRow_other _ _ _ _ e]
 obtain ⟨g1,g2⟩:=rV hr1 hbl (fz':=λ_=>False) (λ_ h=>h.elim) (λ_ h=>h.elim) λ_ _ _ h=>h;refine ⟨_,rfl,rfl,?_,g1,he1.trans g2⟩;show c.H.set 0 _=_;rw [hH]
 rfl
theorem nT (l:LL) (g:Bool) (ver:Nat) (hg:g=true->l=[]) {q} (h:dY l=some q) :
  fg Tryz.prog 122 [hS g 0 ver 1 l.length,.fn (.func 123) []] [bE g ver 1 41 (l.map<|cL cI)] (.tup []) [bE g ver 1 41 (q.map<|cL cI)]:=by
 obtain ⟨hl,h⟩:=gdD h;obtain rfl:=osl h;refine ⟨by kernel_rfl,λc vs hH hr hall=>?_⟩;obtain ⟨hsz,hrel⟩:=hall;obtain ⟨u,f,rfl⟩:∃ u f,vs = #[u,f]:=by
  match vs,hsz with
  | ⟨[u,f]⟩,_=>exact ⟨u,f,rfl⟩
 have hu:=hrel 0 _ u rfl rfl;obtain ⟨vs2,rfl,h5,_⟩:=qy<|hrel 1 _ f rfl rfl;obtain rfl:vs2 = #[]:=Array.eq_empty_of_size_eq_zero h5
 by_cases hn:0<l.length
 ·obtain rfl:g=false:=by
   cases g with
   | false=>rfl
   | true=>
    rw [hg rfl] at hn;exact absurd hn (by simp)
  refine (Eb hr hH hu hl hn).mono ?_;rintro e w' ⟨c',rfl,hw,hH',h1,h2⟩;exact ⟨_,c',Z,hw,hH',h1,h2,.tup Z λi x y hx=>by simp at hx⟩
 obtain rfl:l=[]:=Pj (by omega);obtain ⟨A,cap,rfl⟩:∃ A cap,u = .slice A 0 cap:=by
  cases g with
  | true=>
   cases hu with
   | fr h=>cases h;exact ⟨_,_,rfl⟩
  | false=>
   obtain ⟨A,cap,h6,_⟩:=ig hu;exact ⟨A,cap,h6⟩
 refine (show Calls Tryz.prog 122 _ _ _ from AnyF.slices_SortFunc_none { ED with } A cap _ c.w).mono ?_;rintro e w' ⟨rfl,rfl⟩;refine ⟨_,c,Z,Z,?_,hr,Ext.refl c,.tup Z λi x y hx=>by simp at hx⟩;rw [hH,(jZ []).eq_nil]
end
end Go.Proofs.YtjcmfddobaplbaaGreat
