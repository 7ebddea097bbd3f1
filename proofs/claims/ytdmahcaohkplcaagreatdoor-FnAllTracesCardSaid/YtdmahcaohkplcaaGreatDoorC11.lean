/- Texts joined. No conditions. -/
import Derived.ChangeSame
import Derived.ChangeSlices
import Derived.WideKeyArgs
import Derived.Carry
import Derived.Deep.Slices
import Derived.Deep.Fields
import Derived.ProofKit
import Derived.OpenShut
import Derived.BigRegion
import Derived.Sort.Row
import Derived.Sort.Grow
import Derived.Test.YtdmahcaohkplcaaGreatDoorProg
import Derived.Shelf.Slices.Delete
import Derived.Shelf.SlSortCmp.NoneTotal
import Derived.Laws.IdiomStrings
import Derived.Test.YtdmahcaohkplcaaGreatDoorC10
namespace Go.Proofs.YtdmahcaohkplcaaGreatDoor
noncomputable section
open _root_.Inhabited renaming default -> Uo
open _root_.Bool renaming true -> Uq
open _root_.Bool renaming false -> Ur
open _root_.Option renaming some -> Us
open _root_.Option renaming none -> Ut
open _root_.Decidable renaming decide -> Uu
open _root_.Go.Proofs.Tryz
open _root_.Go.Proofs.Tryz renaming prog -> Uv
open _root_.List renaming replicate -> ZY, getElem?_cons_succ -> Z3, getElem_map -> Z4, ext_getElem? -> Z5, range -> Z6, append_assoc -> Z7, getElem?_map -> Z8, length_range -> Z9, mem_append_right -> aac, mem_append_left -> aad, all_eq_true -> aae, drop_eq_getElem_cons -> aah, replicate_succ' -> aal, drop_eq_nil_of_le -> aar
open _root_.Nat renaming beq -> ZZ, zero_le -> Z0, blt -> Z1, eq_of_beq_eq_true -> Z2, le_refl -> aaa, add_lt_add_iff_right -> aaj, ble_eq_true_of_le -> aak
open _root_.Array renaming getElem?_modify -> aab, size_append -> aag, getElem?_eq_some_iff -> aai, getElem?_mapIdx -> aam, getElem?_eq_getElem -> aan, getElem?_append_left -> aap, getElem_ofFn -> aas, extract_eq_self_of_le -> aat
open _root_.Option renaming getD_some -> aaf, map_eq_some_iff -> aao
open _root_.Bool renaming and_eq_false_iff -> aaq
set_option maxHeartbeats 4000000
open Go.RowKit
def vS (ops:Array Oper) (e:Env) (o:Oper) (w:Bool):Prop:=match o.guard with
 | none=>w=Uq
 | some (j,b)=>(∃ q,fw ops.toList e j = .v (.bool q)/\w=(q==b))\/(fw ops.toList e j = .tup []/\w=Ur)
theorem vS.wants {ops:Array Oper} {e:Env} {o:Oper} {w:Bool} (h:vS ops e o w):Bv ops e o w:=by
 unfold vS at h
 cases hg:o.guard with
 | none=>
  rw [hg] at h;subst h;exact .free hg
 | some x=>
  obtain ⟨j,b⟩:=x;rw [hg] at h;rcases h with ⟨q,h1,h2⟩ | ⟨h1,h2⟩
  ·subst h2
   by_cases e1:q=b
   ·subst e1;rw [beq_self_eq_true];exact .yes hg h1 rfl
   have e2:(q==b)=Ur:=by simpa using e1
   rw [e2];exact .no hg h1 (by cases q <;> cases b <;> simp_all)
  subst h2;exact .un hg h1
theorem vS.congr {ops:Array Oper} {e e':Env} {o:Oper} {w:Bool} (h:vS ops e o w) (he:∀ t∈o.looksAt ops,e t=e' t):vS ops e' o w:=by
 unfold vS at h ⊢
 cases hg:o.guard with
 | none=>rw [hg] at h;exact h
 | some x=>
  obtain ⟨j,b⟩:=x;rw [hg] at h;have hy:fw ops.toList e' j=fw ops.toList e j:=by
   unfold fw
   cases hd:(ops.toList[j]?).bind (·.dst) with
   | none=>rfl
   | some d=>
    refine (he d ?_).symm;unfold Oper.looksAt;rw [hg];refine aac _ ?_;have : (ops[j]?).bind (·.dst)=Us d:=by simpa using hd
    show d∈((ops[j]?).bind (·.dst)).toList;rw [this];simp
  simp only [hy];exact h
theorem Nt {ops:Array Oper} {e e':Env} {o:Oper} (he:∀ t∈o.looksAt ops,e t=e' t):∀ x∈o.op.operands,rho e x=rho e' x:=by
 intro x hx
 cases x with
 | tmp t=>exact he t (aad _<|List.mem_filterMap.2 ⟨.tmp t,by simpa using hx,rfl⟩)
 | _=>rfl
theorem Ia {ops:Array Oper} {e:Env} {oi oj:Oper} {r:AV} (h:∀ d,oi.dst=Us d->d∉oj.looksAt ops):∀ t∈oj.looksAt ops,rN e oi.dst r t=e t:=by
 intro t ht
 cases hd:oi.dst with
 | none=>rfl
 | some d=>
  rw [Ab];show (if t=d then r else e t)=e t;have hne:t≠d:=by
   rintro rfl;exact h t hd ht
  rw [if_neg hne]
def R5 (P:Program) (ops:Array Oper) (o:Oper) (e:Env) (H:AH) (r:AV) (H':AH):Prop:=(vS ops e o Uq/\TP P o (rho e) H r H')\/(vS ops e o Ur/\r = .tup []/\H'=H)
theorem R5.congr {P:Program} {ops:Array Oper} {o:Oper} {e e':Env} {H H':AH} {r:AV} (h:R5 P ops o e H r H') (he:∀ t∈o.looksAt ops,e t=e' t):R5 P ops o e' H r H':=by
 rcases h with ⟨h1,h2⟩ | ⟨h1,h2⟩
 ·exact .inl ⟨h1.congr he,h2.congr<|Nt he⟩
 exact .inr ⟨h1.congr he,h2⟩
def xy (P:Program) (ops:Array Oper) (o:Oper) (e:Env) (H:AH) (r:AV) (H':AH) (F:List Nat):Prop:=
 H'.length=H.length/\(∀ b,b∉F->H'[b]? = H[b]?)/\∀ G,agree F G H->∃ G',G'.length=G.length/\(∀ b∈F,G'[b]? = H'[b]?)/\(∀ b,b∉F->G'[b]? = G[b]?)/\R5 P ops o e G r G'
section
variable {P:Program} {ops:Array Oper} {o:Oper} {e:Env} {H H':AH} {r:AV} {F:List Nat}
theorem xy.op (h:xy P ops o e H r H' F):R5 P ops o e H r H':=by
 obtain ⟨h1,h2,h3⟩:=h;obtain ⟨G',g1,g2,g3,g4⟩:=h3 H ⟨rfl,λ_ _=>rfl⟩;have : G'=H':=by
  apply Z5;intro b
  by_cases hb:b∈F
  ·exact g2 b hb
  rw [g3 b hb,h2 b hb]
 exact this ▸ g4
theorem xy.congr {e':Env} (h:xy P ops o e H r H' F) (he:∀ t∈o.looksAt ops,e t=e' t):xy P ops o e' H r H' F:=by
 obtain ⟨h1,h2,h3⟩:=h;refine ⟨h1,h2,λG hG=>?_⟩;obtain ⟨G',g1,g2,g3,g4⟩:=h3 G hG;exact ⟨G',g1,g2,g3,g4.congr he⟩
theorem xy.at_ {G:AH} (h:xy P ops o e H r H' F) (hG:agree F G H):∃ G',G'.length=G.length/\(∀ b∈F,G'[b]? = H'[b]?)/\(∀ b,b∉F->G'[b]? = G[b]?)/\xy P ops o e G r G' F:=by
 obtain ⟨h1,h2,h3⟩:=h;obtain ⟨G',g1,g2,g3,g4⟩:=h3 G hG;refine ⟨G',g1,g2,g3,g1,g3,λK hK=>?_⟩;obtain ⟨K',k1,k2,k3,k4⟩:=h3 K ⟨hK.1.trans hG.1,λb hb=>(hK.2 b hb).trans<|hG.2 b hb⟩;exact ⟨K',k1,λb hb=>(k2 b hb).trans (g2 b hb).symm,k3,k4⟩
theorem xy.ofF (hw:vS ops e o Uq) (h:uf P o (rho e) H r H' F):xy P ops o e H r H' F:=by
 obtain ⟨h1,h2,h3⟩:=h;refine ⟨h1,h2,λG hG=>?_⟩;obtain ⟨G',g1,g2,g3,g4⟩:=h3 G hG;exact ⟨G',g1,g2,g3,.inl ⟨hw,g4⟩⟩
theorem xy.skip (hw:vS ops e o Ur) (F:List Nat):xy P ops o e H (.tup []) H F:=⟨rfl,λ_ _=>rfl,λG hG=>⟨G,rfl,hG.2,λ_ _=>rfl,.inr ⟨hw,rfl,rfl⟩⟩⟩
def Q7 (P:Program) (ops:Array Oper) (fp:Nat->Fp) (Q:Env->AH->Prop):Nat->Array Bool->Env->AH->Prop
 | 0,listed,e,H=>Region.ready .any ops listed=[]/\Q e H
 | fuel+1,listed,e,H=>(Region.ready .any ops listed=[]->Q e H) /\
  ∀ i∈Region.ready .any ops listed,∃ o r H',ops[i]? = Us o/\xy P ops o e H r H' (fp i).1/\((fp i).2=Ur->H'=H)/\Q7 P ops fp Q fuel (listed.setIfInBounds i Uq) (rN e o.dst r) H'
theorem K3 {ops:Array Oper} {fp:Nat->Fp} {Q:Env->AH->Prop} {i:Nat} {oi:Oper} {r:AV} (hi:ops[i]? = Us oi) :
  ∀ (fuel:Nat) (listed:Array Bool) (e:Env) (H Hi:AH),
   (∀ (j:Nat) (oj:Oper),ops[j]? = Us oj->j≠i->listed.getD j Uq=Ur->(∀ ed∈oj.after,Region.binds .any ed=Uq->ed.on≠i)->oi.apart ops oj=Uq/\qQ (fp i) (fp j)=Uq) ->
   i∈Region.ready .any ops listed->xy P ops oi e H r Hi (fp i).1->((fp i).2=Ur->Hi=H)->Q7 P ops fp Q fuel (listed.setIfInBounds i Uq) (rN e oi.dst r) Hi->Q7 P ops fp Q (fuel+1) listed e H:=by
 intro fuel
 induction fuel with
 | zero=>
  intro listed e H Hi _ hr hy hro hA;refine ⟨λh=>(by rw [h] at hr;cases hr),λj hj=>?_⟩
  by_cases hji:j=i
  ·subst hji;exact ⟨oi,r,Hi,hi,hy,hro,hA⟩
  have := ready_mono hj hji;rw [hA.1] at this
  cases this
 | succ fuel ih=>
  intro listed e H Hi hfree hr hy hro hA;refine ⟨λh=>(by rw [h] at hr;cases hr),λj hj=>?_⟩
  by_cases hji:j=i
  ·subst hji;exact ⟨oi,r,Hi,hi,hy,hro,hA⟩
  obtain ⟨oj,q,Hj,hoj,hsj,hroj,hAj⟩:=hA.2 j<|ready_mono hj hji;obtain ⟨hjun,oj',CK,hall⟩:=mem_ready.1 hj;rw [hoj] at CK;injection CK with CK;subst CK;have hnot:∀ ed∈oj.after,Region.binds .any ed=Uq->ed.on≠i:=λed he hb heq=>by
   have h1:=hall ed he hb;have h0:=(mem_ready.1 hr).1;rw [heq] at h1;rcases Nat.lt_or_ge i listed.size with h' | h'
   ·simp [h'] at h0 h1;rw [h0] at h1;cases h1
   simp [Array.getElem?_eq_none h'] at h1
  obtain ⟨hap,hcm⟩:=hfree j oj hoj hji hjun hnot;obtain ⟨h1,h2,h3⟩:=Oper.apart_spec hap;have ej:=Ia (e:=e) (r:=r) h1;have ei:=Ia (e:=e) (oi:=oj) (r:=q) h3;have hsj':=hsj.congr ej;have hfree':∀ (k:Nat) (ok:Oper),ops[k]? = Us ok->k≠i->(listed.setIfInBounds j Uq).getD k Uq=Ur->(∀ ed∈ok.after,Region.binds .any ed=Uq->ed.on≠i)->oi.apart ops ok=Uq/\qQ (fp i) (fp k)=Uq:=λk ok hk hki hun hno=>by
   refine hfree k ok hk hki ?_ hno
   by_cases hjk:j=k
   ·subst hjk;exact hjun
   rw [getD_set_ne Uq hjk] at hun;exact hun
  have fin:∀ Hj',xy P ops oj e H q Hj' (fp j).1->((fp j).2=Ur->Hj'=H)->xy P ops oi e Hj' r Hj (fp i).1->((fp i).2=Ur->Hj=Hj')->∃ o r' H',ops[j]? = Us o/\xy P ops o e H r' H' (fp j).1/\((fp j).2=Ur->H'=H)/\Q7 P ops fp Q (fuel+1) (listed.setIfInBounds j Uq) (rN e o.dst r') H':=λHj' s1 s1' s2 s2'=>by
   refine ⟨oj,q,Hj',hoj,s1,s1',ih (listed.setIfInBounds j Uq) (rN e oj.dst q) Hj' Hj hfree' (ready_mono hr<|Ne.symm hji) (s2.congr λx hx=>(ei x hx).symm) s2' ?_⟩;rw [Array.setIfInBounds_comm _ _ hji,Ap (λd hd=>λhd'=>h2 d (by simpa using hd')<|by simpa using hd)];exact hAj
  simp only [qQ,Bool.or_eq_true,bae,Bool.not_eq_true',aae,List.contains_eq_mem,decide_eq_false_iff_not] at hcm;rcases hcm with hdis | ⟨w1,w2⟩
  ·have hag:agree (fp j).1 H Hi:=⟨hy.1.symm,λb hb=>(hy.2.1 b λhbi=>hdis b hbi hb).symm⟩;obtain ⟨Hj',a1,a2,a3,a4⟩:=hsj'.at_ hag;have hag2:agree (fp i).1 Hj' H:=⟨a1,λb hb=>a3 b<|hdis b hb⟩;obtain ⟨K,b1,b2,b3,b4⟩:=hy.at_ hag2;have hKH:K=Hj:=by
    apply Z5;intro b
    by_cases hbi:b∈(fp i).1
    ·rw [b2 b hbi,hsj'.2.1 b (hdis b hbi)]
    rw [b3 b hbi]
    by_cases hbj:b∈(fp j).1
    ·exact a2 b hbj
    rw [a3 b hbj,hsj'.2.1 b hbj,hy.2.1 b hbi]
   subst hKH;refine fin Hj' a4 (λhw=>?_) b4 λhw=>?_
   ·apply Z5;intro b
    by_cases hbj:b∈(fp j).1
    ·rw [a2 b hbj,hroj hw,hy.2.1 b (λhbi=>hdis b hbi hbj)]
    exact a3 b hbj
   apply Z5;intro b
   by_cases hbi:b∈(fp i).1
   ·rw [b2 b hbi,hro hw,a3 b (hdis b hbi)]
   exact b3 b hbi
  obtain rfl:=hro w1;obtain rfl:=hroj w2;exact fin _ hsj' (λ_=>rfl) hy λ_=>rfl
def Sr (ops:Array Oper) (fp:Nat->Fp):Bool:=
 Region.lexB .any ops &&
 (Z6 ops.size).all λi=>(Z6 ops.size).all λj=>Uu (j<=i)||qQ (fp i) (fp j)||match ops[j]? with
  | some oj=>oj.after.any λed=>Region.binds .any ed&&ed.on==i
  | none=>Uq
def TG (P:Program) (ops:Array Oper) (fp:Nat->Fp):Nat->List Oper->(Env->AH->Prop)->Env->AH->Prop
 | _,[],K,e,H=>K e H
 | k,o::rest,K,e,H=>∃ r H',xy P ops o e H r H' (fp k).1/\((fp k).2=Ur->H'=H)/\TG P ops fp (k+1) rest K (rN e o.dst r) H'
theorem Nu {ops:Array Oper} {fp:Nat->Fp} {Q:Env->AH->Prop} (hc:Sr ops fp=Uq):∀ (l:List Oper) (k:Nat) (listed:Array Bool) (e:Env) (H:AH),(∀ j,l[j]? = ops[k+j]?)->listed.size=ops.size->(∀ j,j<k->listed.getD j Uq=Uq) ->
  Region.lexFrom .any ops l.length k listed=Uq->TG P ops fp k l Q e H->Q7 P ops fp Q l.length listed e H
 | [],k,listed,e,H,_,_,_,hB,h=>⟨by simpa [Region.lexFrom] using hB,h⟩
 | o::l,k,listed,e,H,hl,hsz,hbef,hB,h=>by
  have h0:ops[k]? = Us o:=by simpa using (hl 0).symm
  have hk:k<ops.size:=(aai.1 h0).1;simp only [llc,Region.lexFrom,bae] at hB;obtain ⟨⟨hr,hf⟩,hB'⟩:=hB;obtain ⟨r,H',hs,hro,hK⟩:=h;refine K3 h0 l.length listed e H H' (λj oj hj hne hun hno=>⟨Region.free_spec h0 hf j oj hj hne hun hno,?_⟩) (by simpa using hr) hs hro
   (Nu hc l (k+1) _ _ _ (λj=>by have := hl<|j+1;simpa [Nat.add_assoc,Nat.add_comm 1 j] using this) (by simpa using hsz) (λj hj=>?_) hB' hK)
  ·have hjs:j<ops.size:=(aai.1 hj).1;have hkj : ¬ j<=k:=λhle=>by
    have := hbef j (by omega);rw [this] at hun
    cases hun
   simp only [Sr,bae,aae,List.mem_range] at hc;have := hc.2 k hk j hjs;simp only [hj,Bool.or_eq_true,dte,hkj,false_or] at this;rcases this with h1 | h1
   ·exact h1
   rw [Array.any_eq_true'] at h1;obtain ⟨ed,h2,h3⟩:=h1;simp only [bae,beq_iff_eq] at h3;exact absurd h3.2<|hno ed h2 h3.1
  by_cases e:j=k
  ·subst e;simp [hsz,hk]
  rw [getD_set_ne Uq (Ne.symm e)];exact hbef j (by omega)
theorem BX {nt:Nat} {ops:Array Oper} {fp:Nat->Fp} {Q:Exit->Env->AH->Prop} (hd:Ks nt ops.toList=Uq):∀ (fuel:Nat) (listed:Array Bool) (e:Env) (H:AH),Q7 P ops fp (Q .normal) fuel listed e H ->
  ∀ (c c0:Cx) (a:Act),c.H=H->Ext c0 c->SRel c nt e a->wpAny P .any ops (Ri nt c0 Q) fuel listed a c.w
 | 0,listed,e,H,h,c,c0,a,hH,hx,hs=>⟨h.1,trivial,c,e,rfl,hx,hs,hH ▸ h.2⟩
 | fuel+1,listed,e,H,h,c,c0,a,hH,hx,hs=>by
  refine ⟨λhr=>⟨trivial,c,e,rfl,hx,hs,hH ▸ h.1 hr⟩,λi hi=>?_⟩;obtain ⟨o,r,H',ho,hst,_,hA⟩:=h.2 i hi;have hm:o∈ops.toList:=by rw [Array.mem_toList_iff];exact Array.mem_of_getElem? ho
  unfold wpOp;simp only [ho];rcases hst.op with ⟨hw,hop⟩ | ⟨hw,rfl,rfl⟩
  ·rw [if_pos (hw.wants nt c a hs)];refine .inl<|hop c a _ _ hH hs.heap (λx _=>hs.rho x) λv c' hH' hr' hx' hv=>?_;exact BX hd fuel _ _ H' hA c' c0 _ hH' (hx.trans hx')<|hs.put o.dst (qq hd hm) hx' hr' hv
  rw [hw.wants nt c a hs];exact BX hd fuel _ _ _ hA c c0 _ hH hx<|hs.put o.dst (qq hd hm) (Ext.refl c) hs.heap<|.tup (vs:=#[]) rfl (λi q u hq=>by simp at hq)
end
section
variable {P:Program} {nt b0:Nat} {Q:Exit->Env->AH->Prop} {e:Env} {H H':AH} {r:AV}
theorem T.drawG {i:Nat} {ops:Array Oper} (fp:Nat->Fp) (hm:P.follows .mixedOrders=Uq) (hc:Sr ops fp=Uq) (h:TG P ops fp 0 ops.toList (Q .normal) e H):T P nt b0 (.region i ops Uq) Q e H:=by
 intro hok c c0 a hH hb hx hs;simp only [codeOk] at hok;have hc':=hc;simp only [Sr,bae,Region.lexB] at hc';refine wp_region_any hm ?_;have hlex:=Nu hc ops.toList 0 (Array.replicate ops.size Ur) e H (λj=>by simp) (by simp) (λj hj=>absurd hj<|by omega) (by simpa using hc'.1.2) h;have := BX hok ops.toList.length _ e H hlex c.drew c0 a hH (hx.trans c.drew_ext) ⟨hs.size,hs.defers,λt=>(hs.rel t).ext hs.heap c.drew_ext,Cx.drew_rel hs.heap⟩;rw [Array.length_toList] at this;exact this
variable {ops:Array Oper} {d:Tmp} {op:Op} {ty:TypeId} {pos:String} {af:Array Edge} {en:List (Nat×AV)} {fp:Nat->Fp} {i:Nat} {K:Env->AH->Prop} {l:List Oper}
theorem TG.nil {k:Nat} (h:K e H):TG P ops fp k [] K e H:=h
theorem vS.y {o:Oper} {j:Nat} {b q:Bool} (hg:o.guard=Us (j,b)) (hy:fw ops.toList e j = .v (.bool q)) (hq:q=b):vS ops e o Uq:=by
 unfold vS;rw [hg];exact .inl ⟨q,hy,by rw [hq];simp⟩
theorem vS.n {o:Oper} {j:Nat} {b q:Bool} (hg:o.guard=Us (j,b)) (hy:fw ops.toList e j = .v (.bool q)) (hq:q = !b):vS ops e o Ur:=by
 unfold vS;rw [hg];exact .inl ⟨q,hy,by rw [hq];cases b <;> rfl⟩
theorem vS.u {o:Oper} {j:Nat} {b:Bool} (hg:o.guard=Us (j,b)) (hy:fw ops.toList e j = .tup []):vS ops e o Ur:=by
 unfold vS;rw [hg];exact .inr ⟨hy,rfl⟩
theorem tN (hc:fp i=([],Ur)) (hv:TS P (rho<|ak en) op r) (h:TG P ops fp (i+1) l K (ak ((d,r)::en)) H):TG P ops fp i (⟨Us d,op,ty,pos,af,Ut⟩::l) K (ak en) H:=
 ⟨r,H,by rw [hc];exact .ofF rfl<|II hv,λ_=>rfl,h⟩
theorem tR (F:List Nat) (hc:fp i=(F,Ur)) (hv:∀ G,agree F G H->EvA P (rho<|ak en) op G r G) (h:TG P ops fp (i+1) l K (ak ((d,r)::en)) H):TG P ops fp i (⟨Us d,op,ty,pos,af,Ut⟩::l) K (ak en) H:=
 ⟨r,H,by rw [hc];exact .ofF rfl<|IJ hv,λ_=>rfl,h⟩
theorem tgN {j:Nat} {b q:Bool} (hy:fw ops.toList (ak en) j = .v (.bool q)) (hq:q=b) (hc:fp i=([],Ur)) (hv:TS P (rho<|ak en) op r) (h:TG P ops fp (i+1) l K (ak ((d,r)::en)) H):TG P ops fp i (⟨Us d,op,ty,pos,af,Us (j,b)⟩::l) K (ak en) H:=
 ⟨r,H,by rw [hc];exact .ofF (.y rfl hy hq)<|II hv,λ_=>rfl,h⟩
theorem tgR {j:Nat} {b q:Bool} (hy:fw ops.toList (ak en) j = .v (.bool q)) (hq:q=b) (F:List Nat) (hc:fp i=(F,Ur)) (hv:∀ G,agree F G H->EvA P (rho<|ak en) op G r G) (h:TG P ops fp (i+1) l K (ak ((d,r)::en)) H):TG P ops fp i (⟨Us d,op,ty,pos,af,Us (j,b)⟩::l) K (ak en) H:=
 ⟨r,H,by rw [hc];exact .ofF (.y rfl hy hq)<|IJ hv,λ_=>rfl,h⟩
theorem tgS {j:Nat} {b q:Bool} (hy:fw ops.toList (ak en) j = .v (.bool q)) (hq:q = !b) (h:TG P ops fp (i+1) l K (ak ((d,.tup [])::en)) H):TG P ops fp i (⟨Us d,op,ty,pos,af,Us (j,b)⟩::l) K (ak en) H:=
 ⟨.tup [],H,.skip (.n rfl hy hq) _,λ_=>rfl,h⟩
theorem tgU {j:Nat} {b:Bool} (hy:fw ops.toList (ak en) j = .tup []) (h:TG P ops fp (i+1) l K (ak ((d,.tup [])::en)) H):TG P ops fp i (⟨Us d,op,ty,pos,af,Us (j,b)⟩::l) K (ak en) H:=
 ⟨.tup [],H,.skip (.u rfl hy) _,λ_=>rfl,h⟩
end
set_option maxRecDepth 100000
theorem Ke {p:List (List TW)} (h:KT p=Uq):p.length<=1048576/\∀ i,(p.getD i []).length<=1048576:=by
 simp only [KT,bae,dte,aae] at h;refine ⟨h.1,λi=>?_⟩
 by_cases hi:i<p.length
 ·simpa [hi] using h.2 _ (List.getElem_mem hi)
 simp [hi]
theorem FU {n m:Nat} (hn:n<=2097152) (hm:Nat.ble m 1000=Uq):bw n m=Uq:=by
 have h1:=nlb hm;have h2:n*m<=2097152*1000:=Nat.mul_le_mul hn h1;exact decide_eq_true ⟨by omega,by omega⟩
theorem Nv (p:List<|List TW) {i:Nat} (h:i<p.length):p.take (i+1)=p.take i++[p.getD i []]:=by
 have e:p.getD i []=p[i]:=by rw [gdq,geq h];rfl
 rw [e];exact (List.take_append_getElem h).symm
theorem Nw (p:List<|List TW) (hp:KT p=Uq):bH Uv 31 [eL (cL TW.c) p] [] (IK 4 65 62 TW.c (λx=>x) p 0 []):=by
 obtain ⟨hp1,hp2⟩:=Ke hp;refine bH.mkON func31 rfl (by kernel_rfl) rfl (by kernel_rfl) (e0:=ak [(0,eL (cL TW.c) p)]) (TR rfl TQ) nI TW.isF ?_;refine T.seq ?_;refine T.region ?_;refine oN (TS.asg (.nil) rfl) ?_;refine TO.nil ?_;refine T.seq ?_;refine T.region ?_;refine oA (EvA.mkR ([]:List<|List AV) CI rfl rfl rfl rfl) ?_;refine oN (TS.asg (hS Ur 0 0 1 0) rfl) ?_;refine TO.nil ?_;refine T.seq ?_;refine T.seq ?_;refine T.region ?_;refine oN (TS.asg (I 0) rfl) ?_;refine TO.nil ?_;refine T.block ?_;refine T.loop (S:=Nat) (G:=NG×AH×Nat) (E:=Nat) (x:=p.length) (λi=>if i<p.length then Us (.inl<|i+1) else Us (.inr i)) (λi g=>i<=p.length/\NK 1 (Us ⟨g.2.2,1,62,df g.1 4<|p.take i⟩::g.2.1) g.1 4 65 TW.c (p.take i))
  (λi g=>[(4,I i),(3,hS Ur 0 g.2.2 1 (p.take i).length),(0,eL (cL TW.c) p)]) (λi g=>Us ⟨g.2.2,1,62,df g.1 4<|p.take i⟩::g.2.1) (s0:=0) (λ_=>(Ur,0,0),[],0)
  (DZ (λi=>i) p.length (λi hi=>by simp [hi])<|by simp) ⟨Z0 _,by exact NK.nil⟩ (BB rfl<|TR rfl<|TR rfl<|TR rfl TQ) (λi g z hz hinv=>?_)
 obtain ⟨gh,K,ver⟩:=g;obtain ⟨hle,hN⟩:=hinv;simp only at hN;generalize hl:p.take i=l at hN ⊢;refine T.seq ?_;refine T.seq ?_;refine T.region ?_;refine oN (TS.mv (I i) rfl) ?_;refine oN (TS.mv (eL (cL TW.c) p) rfl) ?_;refine oN (TS.lenL CI rfl) ?_;refine oN (TS.ilt rfl rfl) ?_;refine TO.nil ?_;have hll:l.length=i:=by rw [<- hl,List.length_take];omega
 refine T.cond rfl (λq=>?_) λq=>?_
 ·have hi:i<p.length:=by have := of_decide_eq_true q;omega
  rw [if_pos hi] at hz;obtain rfl:=osl hz;have hrow:=hp2 i;have htk:=Nv p hi;rw [hl] at htk;generalize hr:p.getD i []=row at hrow htk;refine T.skip ?_;refine T.seq ?_;refine T.block ?_;refine T.region ?_;refine oN (TS.mv (hS Ur 0 ver 1 l.length) rfl) ?_;refine oA (EvA.mkO (c:=TW.c) (b:=K.length+1) ([]:List TW) [] Gy rfl rfl rfl (λ_=>rfl) rfl rfl) ?_;refine oN (TS.mv (eL (cL TW.c) p) rfl) ?_;refine oN (TS.mv (I i) rfl) ?_;refine oN (TS.ixL CI rfl rfl ⟨by omega,by omega⟩ λ_=>rfl) ?_;refine oN (TS.loadfp (eL TW.c row) NQ rfl<|by subst hr;rfl) ?_;refine oA (EvA.appF (l:=([]:List TW)) row Gy (by kernel_rfl) rfl rfl (F9 (H:=_::K)) (cu.fz (l:=row) rfl λ_=>rfl)<|FU (by simp;omega) rfl) ?_;refine TO.clean (H0:=some ⟨ver,1,62,df gh 4 l⟩::(K++[bE Ur 1 4 65 (row.map TW.c)])) (e0:=ak [(18,hS Ur (K.length+1) 1 4 row.length),(12,hS Ur 0 ver 1 l.length),(4,I i),(0,eL (cL TW.c) p)]) (N9 (H:=_::K)).symm (TR rfl<|TR rfl<|TR rfl<|TR rfl TQ) ?_;refine oA (EvA.mkR (b:=(K++[bE Ur 1 4 65 (row.map TW.c)]).length+1) [[hS Ur (K.length+1) 1 4 row.length]] CI rfl rfl rfl rfl) ?_;refine oA (EvA.appR (g:=false) (rows:=df gh 4 l) (rows':=df gh 4 l++[[hS Ur (K.length+1) 1 4 row.length]]) (n':=l.length+1) CI (by kernel_rfl) rfl rfl (dP gh 4 l).symm nofun (cu.raw (rows:=[[hS Ur (K.length+1) 1 4 row.length]]) rfl (F9 (H:=_::(K++[_]))) rfl) (FU (by simp;omega) rfl) rfl rfl) ?_;refine oN (TS.asg (hS Ur 0 (ver+1) 1<|l.length+1) rfl) ?_;refine TO.nil ?_;refine T.region ?_;refine oN (TS.mv (I i) rfl) ?_;refine oN (TS.add rfl rfl<|IntWalk.i64_in _ ⟨by omega,by omega⟩) ?_;refine oN (TS.asg (I (i+1:Nat)) rfl) ?_;refine TO.nil ?_;refine ⟨i+1,(gh.put l.length (Ur,K.length+1,1),K++[bE Ur 1 4 65 (row.map TW.c)]++[Us ⟨0,1,62,[[hS Ur (K.length+1) 1 4 row.length]]⟩],ver+1),rfl,⟨hi,?_⟩,BB ?_<|TR rfl<|TR ?_<|TR rfl TQ⟩
  ·rw [htk];refine hN.snoc (id:=K.length+1) (by simp) (by omega) (λb h1 h2=>?_) ?_ nofun
   ·match b,h1 with
    | b+1,_=>
     simp only [llc,aaj] at h2;simp only [Z3,Z7];exact gal h2
   simp only [Z3];exact Ha
  ·show Us (ABlk.mk _ _ _<|df _ 4<|p.take<|i+1)::_=_;rw [htk,<- Ft]
   rfl
  show hS Ur 0 (ver+1) 1 (l.length+1)=hS Ur 0 (ver+1) 1 (p.take<|i+1).length;rw [htk,lla]
  rfl
 have hi : ¬ i<p.length:=by have := of_decide_eq_false q;omega
 rw [if_neg hi] at hz;obtain rfl:=osl hz;refine T.exit ?_;refine ⟨_,rfl,λhe=>?_⟩;subst he;rw [List.take_length] at hl;subst hl;refine T.seq ?_;refine T.region ?_;refine oN (TS.mv (hS Ur 0 ver 1 p.length) rfl) ?_;refine oN (TS.asg (hS Ur 0 ver 1 p.length) rfl) ?_;refine TO.nil ?_;refine T.ret ?_
 repeat first | refine kC ?_ | refine kD ?_
 exact Fin.ret (vs:=[hS Ur 0 ver 1 p.length]) (.cons (.tmp rfl) .nil) ⟨0,ver,gh,rfl,rfl,⟨λi hi=>⟨Z0 _,(hN.at_ i hi).2⟩,hN.nil_,hN.sep⟩,λi hi h0=>absurd (hN.at_ i hi).1<|by omega⟩
theorem NK.row {r o:Option ABlk} {K:AH} {gh:NG} {w:Nat} {ty:TypeId} {f:TW->List AV} {l:List (List TW)} (h:NK 2 (r::o::K) gh w ty f l) {i:Nat} (hi:i<l.length):∃ g k v,gh i=(g,k+2,v)/\k<K.length/\K[k]? = Us (bE g v w ty<|(l.getD i []).map f)/\(g=Uq->l.getD i []=[]):=by
 obtain ⟨h1,h2⟩:=h.at_ i hi;have h3:=h.nil_ i hi;generalize he:gh i=x at h1 h2 h3;obtain ⟨g,id,v⟩:=x;simp only at h1 h2 h3;obtain ⟨k,rfl⟩:∃ k,id=k+2:=⟨id-2,by omega⟩;simp only [Z3] at h2;exact ⟨g,k,v,rfl,(ges h2).1,h2,h3⟩
theorem NK.turn {r o r' o':Option ABlk} {K:AH} {gh:NG} {w:Nat} {ty:TypeId} {f:TW->List AV} {l:List (List TW)} (h:NK 2 (r::o::K) gh w ty f l) {i:Nat} (hi:i<l.length) {g:Bool} {k v:Nat} (he:gh i=(g,k+2,v)) {g':Bool} {v':Nat} {x:List TW} (hg:g'=Uq->x=[]) :
  NK 2 (r'::o'::K.set k (bE g' v' w ty<|x.map f)) (gh.put i (g',k+2,v')) w ty f (l.set i x):=by
 have h1:=h.set hi (g:=g') (ver:=v') (r:=x) hg;rw [he] at h1;refine h1.low λb hb _=>?_
 match b,hb with
 | b+2,_=>simp [Z3]
abbrev jA:=@TO.nil
abbrev jC:=@T.region
abbrev jE:=@T.block
abbrev jG:=@T.skip
abbrev jH:=@T.seq
abbrev jI:=@T.sr
abbrev jK:=@T.ret
abbrev jM:=@T.exit
abbrev jN:=@T.ifH
abbrev jO:=@T.loop
abbrev jP:=@T.drawF
abbrev jQ:=@Fin.ret
abbrev jR:=@TF.nil
theorem qC {m:Nat} {H:AH} {a:AV} (h:isF 9 a=Uq):Fz m H a a:=.of_isF 9 _ h
theorem qD {α:Sort _} {β:α->Sort _} {f:(x:α)->β x}:∀ x,f x=f x:=λ_=>rfl
theorem CU (code:LI) {q} (h:lZ code=Us q):fu Uv 13 [eL cY code] [] (.hp 0 0 2 0 0) [Us ⟨0,2,59,[(ah.c q)]⟩]:=by
 refine aM func13 Z (by kernel_rfl) Z<|jI<|oN as'<|jA ?_;refine T.jU h (λs1=>[(0,eL cY s1)]) (λs1=>[]) (λs1 h=>?_) λs1 h=>?_
 ·refine jI<|oN mv<|oN (TS.build [eL cY s1,I U] Tryz.underlying59 TC K8 Z Z)<|oA (EvA.bx (cs:=[eL cY s1,I U]) Z Z Z)<|oN as'<|jA<|jK ?_;obtain rfl:=TV h
  repeat (first|refine kC ?_|refine kD ?_)
  exact ⟨ak [(2,.hp 0 0 2 0 0)],[Us ⟨0,2,59,[(ah.c (⟨s1,U⟩:ah))]⟩],kw Z Z,jQ (vs:=[.hp 0 0 2 0 0]) (.cons (.tmp Z) .nil) ⟨Z,Z⟩⟩
 refine jI<|oN mv<|oN (TS.lenL KZ Z)<|oN (TS.igt Z Z)<|jA ?_;refine jN Z h (λq2 h=>?_) λq2 h=>?_
 ·refine jC<|oN mv<|jD h λg3 h=>oN (TS.slL KZ Z .no (.yes Z) g3 qD)<|oN as'<|jA ?_
  cases h
  exact ⟨(),trivial,kw Z Z⟩
 refine jG ?_
 cases h
 exact ⟨(),trivial,kw Z Z⟩
theorem aW (r_:ah) (n:Int) (aB:Nat) {q} (h:aI r_ n=Us q):fu Uv 32 [.hp 0 aB 2 0 0,I n] [Us ⟨aB,2,59,[(ah.c r_)]⟩] (I q.2) [Us ⟨aB,2,59,[(ah.c q.1)]⟩]:=by
 let d0:=((r_.p+V)-V);refine aM func32 Z (by kernel_rfl) Z<|jI<|oN as'<|jA<|jI<|oN mv<|oN mv<|oN (nl Z)<|oN (fa K8 Z)<|oA (lh (I r_.p) Uk Z Z Z)<|jW h λg1 h=>oN (TS.add Z Z g1)<|oN (nl Z)<|oN (fa K8 Z)<|oV (sr [eL cY r_.b,I (r_.p+V)] Uk Z Z Z Z)<|jA ?_;refine jH<|jI<|oN mv<|oN (TS.ilt Z Z)<|oN mv ?_;refine TO.jB h 7 (λs2=>[(24,Bo s2),(0,.hp 0 aB 2 0 0),(1,I n)]) (λs2=>[Us ⟨aB,2,59,[[eL cY r_.b,I (r_.p+V)]]⟩]) (λs2 q3 h js2=>?_) (λs2 q3 h js2=>?_) λs2 h=>?_
 ·refine gS Z q3<|gS Z q3<|gS Z q3<|gS Z q3<|gS Z q3<|gS Z q3<|oN (TS.pickT Z q3 (Bo Uq) Z) ?_
  cases h
  exact js2 _ _<|kw Z Z
 ·refine gN Z q3 mv<|gN Z q3 (nl Z)<|gN Z q3 (fa K8 Z)<|gA Z q3 (lh (eL cY r_.b) PE Z Z Z)<|gN Z q3 (TS.lenL KZ Z)<|gN Z q3 (TS.ieq Z Z)<|oN (TS.pickF Z q3 (Bo<|(r_.b.length:Int)==U) Z) ?_
  cases h
  exact js2 _ _<|kw Z Z
 refine jA ?_;refine jN Z h (λq4 h=>?_) λq4 h=>?_
 ·refine jI<|oN as'<|jA<|jK ?_;obtain rfl:=TV h
  repeat (first|refine kC ?_|refine kD ?_)
  exact ⟨ak [(4,I U)],[Us ⟨aB,2,59,[(ah.c (⟨r_.b,(r_.p+V)⟩:ah))]⟩],kw Z Z,jQ (vs:=[I U]) (.cons (.tmp Z) .nil) ⟨Z,Z⟩⟩
 refine jG<|jI<|oN mv<|oN (nl Z)<|oN (fa K8 Z)<|oA (lh (I<|r_.p+V) Uk Z Z Z)<|jW h λg5 h=>oN (TS.sub Z Z g5)<|oN as'<|jA<|jH<|jI<|oN mv<|oN mv<|oN (nl Z)<|oN (fa K8 Z) ?_;refine oA (lh (eL cY r_.b) PE Z Z Z)<|oN (TS.lenL KZ Z)<|oN (TS.ilt Z Z)<|jA ?_;refine jN Z h (λq6 h=>?_) λq6 h=>?_
 ·refine jI<|oN mv<|oN (nl Z)<|oN (fa K8 Z)<|oA (lh (eL cY r_.b) PE Z Z Z)<|oN mv<|jD h λg7 h=>oN (TS.ixL KZ Z Z g7 qD)<|oN (lf (Y<|J r_.b d0) ty5 Z)<|jW h λg8 h=>oN (TS.iconv ty5.und Tryz.underlying3 Z g8)<|oN mv<|jD h λg9 h=>oN (TS.rem Z Z g9)<|oN as'<|jA ?_;refine jK ?_;obtain rfl:=TV h
  repeat (first|refine kC ?_|refine kD ?_)
  exact ⟨ak [(4,I<|(J r_.b d0).tmod n)],[Us ⟨aB,2,59,[(ah.c (⟨r_.b,(r_.p+V)⟩:ah))]⟩],kw Z Z,jQ (vs:=[I ((J r_.b d0).tmod n)]) (.cons (.tmp Z) .nil) ⟨Z,Z⟩⟩
 refine jG<|jH<|jP (dG [dF,dF,dF,([0],Ur),dF,dF,dF,dF,([0],Ur),dF,dF,dF,dF,dF,dF,dF,dF,dF,([0],Ur),dF,dF,dF,dF,dF,dF,([0],Ur),dF,dF,dF,dF,dF,dF,dF,dF,dF,dF,dF,dF,dF,dF,([0],Ur),dF,dF,dF,dF,dF]) (by kernel_rfl) (by kernel_rfl)<|fN Z mv<|fN Z (nl Z)<|fN Z (fa K8 Z)<|fR [0] Z (λG hG=>EvA.loadhp (eL cY r_.b) PE Z (hG.a0 Z) Z Z Z Z)<|fN Z mv<|fN Z mv<|fN Z (nl Z)<|fN Z (fa K8 Z)<|fR [0] Z (λG hG=>EvA.loadhp (eL cY r_.b) PE Z (hG.a0 Z) Z Z Z Z)<|fN Z (TS.lenL KZ Z)<|jD h λg10 h=>fN Z (TS.rem Z Z g10)<|jD h λg11 h=>?_;refine fN Z (TS.ixL KZ Z Z g11 qD)<|fN Z (lf (Y<|J r_.b<|d0.tmod (r_.b.length:Int)) ty5 Z)<|jW h λg12 h=>fN Z (TS.iconv ty5.und Tryz.underlying3 Z g12)<|jW h λg13 h=>fN Z (TS.mul Z Z g13)<|fN Z mv<|fN Z (nl Z)<|fN Z (fa K8 Z)<|fR [0] Z (λG hG=>EvA.loadhp (eL cY r_.b) PE Z (hG.a0 Z) Z Z Z Z)<|fN Z mv<|jW h λg14 h=>fN Z (TS.mul Z Z g14)<|jW h λg15 h=>fN Z (TS.add Z Z g15)<|fN Z mv ?_;refine fN Z (nl Z)<|fN Z (fa K8 Z)<|fR [0] Z (λG hG=>EvA.loadhp (eL cY r_.b) PE Z (hG.a0 Z) Z Z Z Z)<|fN Z (TS.lenL KZ Z)<|fN Z (TS.rem Z Z g10)<|jD h λg16 h=>fN Z (TS.ixL KZ Z Z g16 qD)<|fN Z (lf (Y<|J r_.b<|((d0*(7:Int))+(3:Int)).tmod (r_.b.length:Int)) ty5 Z)<|jW h λg17 h=>fN Z (TS.iconv ty5.und Tryz.underlying3 Z g17)<|jW h λg18 h=>fN Z (TS.mul Z Z g18)<|jW h λg19 h=>fN Z (TS.add Z Z g19)<|fN Z mv<|jW h λg20 h=>?_;refine fN Z (TS.mul Z Z g20)<|jW h λg21 h=>fN Z (TS.add Z Z g21)<|fN Z mv<|fN Z mv<|fN Z (nl Z)<|fN Z (fa K8 Z)<|fR [0] Z (λG hG=>EvA.loadhp (eL cY r_.b) PE Z (hG.a0 Z) Z Z Z Z)<|fN Z (TS.lenL KZ Z)<|jW h λg22 h=>fN Z (TS.quo Z Z g10 g22)<|jW h λg23 h=>fN Z (TS.mul Z Z g23)<|jW h λg24 h=>fN Z (TS.add Z Z g24)<|fN Z as' ?_;refine jR<|jH<|T.clean (H0:=[Us ⟨aB,2,59,[[eL cY r_.b,I (r_.p+V)]]⟩]) (e0:=ak [(6,I<|((((J r_.b<|d0.tmod (r_.b.length:Int))*(131:Int))+((J r_.b<|((d0*(7:Int))+(3:Int)).tmod (r_.b.length:Int))*(1117:Int)))+(d0*(29:Int)))+((d0.tdiv (r_.b.length:Int))*(53:Int))),(1,I n)]) Z (TR Z<|TR Z TQ)<|jC<|oN mv<|oN mv<|jD h λg25 h=>jW h λg26 h=>oN (TS.quo Z Z g25 g26)<|jB h λw27 ew27 h=>?_;replace ew27:=osi ew27;refine oN (TS.res (TS.bxor Z Z) (r':=I w27) λ_ _ hr=>by rw [<- ew27];exact hr)<|oN as'<|jA<|jI<|oN mv<|oN mv<|jD h λg28 h=>oN (TS.rem Z Z g28)<|oN as'<|jA<|jK ?_;obtain rfl:=TV h
 repeat (first|refine kC ?_|refine kD ?_)
 exact ⟨ak [(4,I<|w27.tmod n)],[Us ⟨aB,2,59,[(ah.c (⟨r_.b,(r_.p+V)⟩:ah))]⟩],kw Z Z,jQ (vs:=[I (w27.tmod n)]) (.cons (.tmp Z) .nil) ⟨Z,Z⟩⟩
theorem gJ (r_:ah) (list:LI) (aB:Nat) {q} (h:cz r_ list=Us q):fu Uv 33 [.hp 0 aB 2 0 0,eL cI list] [Us ⟨aB,2,59,[(ah.c r_)]⟩] (I q.2) [Us ⟨aB,2,59,[(ah.c q.1)]⟩]:=by
 refine aM func33 Z (by kernel_rfl) Z<|jI<|oN as'<|jA<|jI<|oN mv<|oN mv<|oN mv<|oN (TS.lenL lK Z)<|jB h λv1 cv1 h=>oA (EvA.call Z Z Z<|(aW (⟨r_.b,r_.p⟩:ah) (list.length:Int) aB cv1).one 0 Z (.cons (.hp Z)<|.cons (.pF Z) .nil) (au Z) (au Z) Z)<|jD h λg2 h=>oN (TS.ixL lK Z Z g2 qD)<|oN (lf (I<|J list v1.2) Uk Z)<|oN as'<|jA ?_;refine jK ?_;obtain rfl:=TV h
 repeat (first|refine kC ?_|refine kD ?_)
 exact ⟨ak [(4,I<|J list v1.2)],[Us ⟨aB,2,59,[(ah.c (⟨v1.1.b,v1.1.p⟩:ah))]⟩],kw Z Z,jQ (vs:=[I (J list v1.2)]) (.cons (.tmp Z) .nil) ⟨Z,Z⟩⟩
theorem BZ (r_:ah) (p:List<|List TW) (aB:Nat) {q} (h:kX r_ p=Us q):fu Uv 14 [.hp 0 aB 2 0 0,eL (cL TW.c) p] [Us ⟨aB,2,59,[[eL cY r_.b,I r_.p]]⟩] (eL (cL TW.c) q.2) [Us ⟨aB,2,59,[[eL cY q.1.b,I q.1.p]]⟩]:=by
 refine fu.mkT func14 Z (by kernel_rfl) Z (by kernel_rfl) (e0:=ak [(0,.hp 0 aB 2 0 0),(1,eL (cL TW.c) p)]) (TR Z<|TR Z TQ) ?_;unfold kX at h;obtain ⟨hp,h⟩:=gdL h;obtain ⟨hp1,hp2⟩:=Ke hp;refine jH ?_;refine jC ?_;refine oN (TS.asg (.nil) Z) ?_;refine jA ?_;refine jH ?_;refine jC ?_;refine oN (TS.mv (eL (cL TW.c) p) Z) ?_;refine oGN (m:=1) Z Z Z Z TW.isF ((Nw p hp).ownN Z TW.isF nI 1 Z) λver gh K hN hK=>?_;clear hK;replace hN:NK 2 (Us ⟨aB,2,59,[[eL cY r_.b,I r_.p]]⟩::Us ⟨ver,1,62,df gh 4 p⟩::K) gh 4 65 TW.c p:=hN;refine TO.clean (H0:=some ⟨aB,2,59,[[eL cY r_.b,I r_.p]]⟩::Us ⟨ver,1,62,df gh 4 p⟩::K) (e0:=ak [(8,hS Ur 1 ver 1 p.length),(0,.hp 0 aB 2 0 0)]) Z (TR Z<|TR Z TQ) ?_;refine oN (TS.asg (hS Ur 1 ver 1 p.length) Z) ?_;refine jA ?_;refine jH ?_;refine jH ?_;refine jC ?_;refine oN (TS.mv (hS Ur 1 ver 1 p.length) Z) ?_;refine oN (TS.lenO (g:=false) CI Z nofun) ?_;refine oN (TS.ieq Z Z) ?_;refine jA ?_;refine T.cond Z (λqz=>?_) λqz=>?_
 ·have h0:p.length=0:=by have := eq_of_beq qz;omega
  replace h:=IC (show ZZ p.length 0=Uq by rw [h0];rfl) h;refine jH ?_;refine jC ?_;refine oN (TS.mv (hS Ur 1 ver 1 p.length) Z) ?_;refine oN (TS.asg (hS Ur 1 ver 1 p.length) Z) ?_;refine jA ?_;refine jK ?_;obtain rfl:=osl h
  repeat first | refine kC ?_ | refine kD ?_
  exact ⟨ak [(4,eL (cL TW.c) p)],[Us ⟨aB,2,59,[[eL cY r_.b,I r_.p]]⟩],rI Z (.cons (.row<|.cons (.fz<|qC Z)<|.cons (.fz<|qC Z) .nil) .nil)<|ai (.fz<|hN.fzm Z Z Z Z TW.isF) aY,jQ (vs:=[eL (cL TW.c) p]) (.cons (.tmp Z) .nil) ⟨Z,Z⟩⟩
 have h0:p.length≠0:=λh0=>by rw [h0] at qz;exact absurd qz (by decide)
 replace h:=ID (show ZZ p.length 0=Ur by cases hc:p.length with | zero=>exact absurd hc h0 | succ n=>rfl) h;refine jG ?_;refine jH ?_;refine jC ?_;refine oN (TS.mv (.hp 0 aB 2 0 0) Z) ?_;refine oN (TS.mv (hS Ur 1 ver 1 p.length) Z) ?_;refine oN (TS.lenO (g:=false) CI Z nofun) ?_;obtain ⟨v1,cv1,h⟩:=G5 h;refine oA (EvA.call Z Z Z<|(aW r_ (p.length:Int) aB cv1).one 0 Z (.cons (.hp Z)<|.cons (.pF Z) .nil) (au Z) (au Z) Z) ?_;refine oN (TS.asg (I v1.2) Z) ?_;refine jA ?_;refine T.joinF (G:=Unit) (λ_=>True) (λ_=>[(5,eL (cL TW.c) q.2)]) (λ_=>[Us ⟨aB,2,59,[[eL cY q.1.b,I q.1.p]]⟩]) (λ_ _=>?_) ?_
 ·clear h;refine jH ?_;refine jC ?_;refine oN (TS.mv (eL (cL TW.c) q.2) Z) ?_;refine oN (TS.asg (eL (cL TW.c) q.2) Z) ?_;refine jA ?_;refine jK ?_
  repeat first | refine kC ?_ | refine kD ?_
  exact ⟨ak [(4,eL (cL TW.c) q.2)],[Us ⟨aB,2,59,[[eL cY q.1.b,I q.1.p]]⟩],BB Z<|TR Z TQ,jQ (vs:=[eL (cL TW.c) q.2]) (.cons (.tmp Z) .nil) ⟨Z,Z⟩⟩
 refine jH ?_;refine jC ?_;refine oN (TS.mv (.hp 0 aB 2 0 0) Z) ?_;obtain ⟨v2,cv2,h⟩:=G5 h;refine oA (EvA.call Z Z Z<|(aW v1.1 (40:Int) aB cv2).one 0 Z (.cons (.hp Z)<|.cons (.pF Z) .nil) (au Z) (au Z) Z) ?_;refine jA ?_;obtain ⟨hi,h⟩:=gdD h;refine T.clean (H0:=some ⟨aB,2,59,[[eL cY v2.1.b,I v2.1.p]]⟩::Us ⟨ver,1,62,df gh 4 p⟩::K) (e0:=ak [(18,I v2.2),(6,I v1.2),(5,hS Ur 1 ver 1 p.length),(0,.hp 0 aB 2 0 0)]) Z (TR Z<|TR Z<|TR Z<|TR Z TQ) ?_
 replace hN:NK 2 (Us ⟨aB,2,59,[[eL cY v2.1.b,I v2.1.p]]⟩::Us ⟨ver,1,62,df gh 4 p⟩::K) gh 4 65 TW.c p:=hN.low λb hb _=>by match b,hb with | b+2,_=>rfl
 have hin:v1.2.toNat<p.length:=by omega
 clear cv1 cv2 hp;refine jE ?_;refine jH ?_;refine jC ?_;refine oN (TS.ieq Z Z) ?_;refine oN (TS.asg (Bo<|v2.2==U) Z) ?_;refine jA ?_;refine T.cond Z (λq0=>?_) λq0=>?_
 ·replace h:=IC q0 h;obtain ⟨g,k,v,hg,hk,hK,hnil⟩:=hN.row (i:=v1.2.toNat) hin;have hlen:=hp2 v1.2.toNat;unfold NM at h;generalize hrw:p.getD v1.2.toNat []=row at hK hnil h hlen;refine jP (λi=>[([],Ur),([],Ur),([],Ur),([],Ur),([],Ur),([1],Ur),([],Ur),([],Ur),([0],Uq),([],Ur),([],Ur),([0],Uq),([],Ur),([],Ur),([k+2],Uq),([],Ur),([1],Uq)].getD i ([],Ur)) (by kernel_rfl) (by kernel_rfl) ?_;refine fN Z (TS.mv (hS Ur 1 ver 1 p.length) Z) ?_;refine fN Z (TS.mv (I v1.2) Z) ?_;refine fN Z (TS.mv (hS Ur 1 ver 1 p.length) Z) ?_;refine fN Z (TS.mv (I v1.2) Z) ?_;refine fN Z (TS.ixO (g:=false) CI Z Z nofun hi) ?_;refine fR [1] Z (λG hG=>EvA.loadhp (hS g (k+2) v 4 row.length) NQ Z (hG.a0 Z) Z Z (show (df gh 4 p)[v1.2.toNat]? = Us [hS g (k+2) v 4 row.length] by rw [cO hin,GG,hg,hrw]) Z) ?_;refine fN Z (TS.mv (.hp 0 aB 2 0 0) Z) ?_;refine fN Z (TS.mkF (c:=cI) ([(0:Int),(6:Int),V,(4:Int)]:LI) [[I U],[I (6:Int)],[I V],[I (4:Int)]] lK Z Z Z qD qD Z) ?_;obtain ⟨a,ca,h⟩:=G5 h;refine fW 0 [] Z Z (λG hG=>EvA.call Z Z Z<|(gJ v2.1 ([(0:Int),(6:Int),V,(4:Int)]:LI) aB ca).one 0 (hG.a0 Z) (.cons (.hp Z)<|.cons (.pF Z) .nil) (au Z) (au Z) Z) ?_;refine fN Z (TS.mv (.hp 0 aB 2 0 0) Z) ?_;refine fN Z (TS.mkF (c:=cI) ([(0:Int),(3:Int),(-1:Int)]:LI) [[I U],[I (3:Int)],[I (-1:Int)]] lK Z Z Z qD qD Z) ?_;obtain ⟨b,cb,h⟩:=G5 h;refine fW 0 [] Z Z (λG hG=>EvA.call Z Z Z<|(gJ a.1 ([(0:Int),(3:Int),(-1:Int)]:LI) aB cb).one 0 (hG.a0 Z) (.cons (.hp Z)<|.cons (.pF Z) .nil) (au Z) (au Z) Z) ?_;refine fN Z (TS.build [I a.2,I b.2,I U,I U] Tryz.underlying65 PG QS Z Z) ?_;refine fN Z (TS.mkF (c:=TW.c) ([(⟨a.2,b.2,U,U⟩:TW)]:List TW) [[I a.2,I b.2,I U,I U]] Gy Z Z Z qD TW.isF Z) ?_;refine fW (k+2) [] Z (aak<|by simp;omega) (λG hG=>EvA.app1 (g:=g) (l:=row) (⟨a.2,b.2,(0:Int),(0:Int)⟩:TW) Gy (by kernel_rfl) Z Z (hG.a0 hK) hnil (cu.fz (l:=[(⟨a.2,b.2,(0:Int),(0:Int)⟩:TW)]) Z qD)<|FU (by omega) Z) ?_;refine fN Z (TS.ixO (g:=false) CI Z Z nofun hi) ?_;refine fV 1 [] Z Z (λG hG=>EvA.st ⟨ver,1,62,(df gh 4 p).set v1.2.toNat [hS Ur (k+2) (v+1) 4 (row++[(⟨a.2,b.2,U,U⟩:TW)]).length]⟩ NQ Z Z (hG.a0 Z) Z Z (show (df gh 4 p)[v1.2.toNat]? = Us [hS g (k+2) v 4 row.length] by rw [cO hin,GG,hg,hrw]) Z Z Z) ?_;refine jR ?_;obtain rfl:=osl h;have hN2:=hN.turn (r':=Us ⟨aB,2,59,[[eL cY b.1.b,I b.1.p]]⟩) (o':=Us ⟨ver,1,62,df (gh.put v1.2.toNat (Ur,k+2,v+1)) 4<|p.set v1.2.toNat<|row++[(⟨a.2,b.2,U,U⟩:TW)]⟩) hin hg (g':=Ur) (v':=v+1) (x:=row++[(⟨a.2,b.2,U,U⟩:TW)]) nofun;rw [<- vz hin] at hN2;refine ⟨(),trivial,rI Z (.cons (.row<|.cons (.fz<|qC Z)<|.cons (.fz<|qC Z) .nil) .nil)<|ai (.fz<|hN2.fzm (to:=62) Z Z ?_ (by simp) TW.isF) aY⟩;rw [<- vz hin]
  rfl
 replace h:=ID q0 h;refine jH ?_;refine jC ?_;refine oN (TS.ieq Z Z) ?_;refine oN (TS.asg (Bo<|v2.2==V) Z) ?_;refine jA ?_;refine T.cond Z (λq1=>?_) λq1=>?_
 ·replace h:=IC q1 h;obtain ⟨g,k,v,hg,hk,hK,hnil⟩:=hN.row (i:=v1.2.toNat) hin;have hlen:=hp2 v1.2.toNat;unfold NM at h;generalize hrw:p.getD v1.2.toNat []=row at hK hnil h hlen;refine jP (λi=>[([],Ur),([],Ur),([],Ur),([],Ur),([],Ur),([1],Ur),([],Ur),([],Ur),([0],Uq),([],Ur),([],Ur),([k+2],Uq),([],Ur),([1],Uq)].getD i ([],Ur)) (by kernel_rfl) (by kernel_rfl) ?_;refine fN Z (TS.mv (hS Ur 1 ver 1 p.length) Z) ?_;refine fN Z (TS.mv (I v1.2) Z) ?_;refine fN Z (TS.mv (hS Ur 1 ver 1 p.length) Z) ?_;refine fN Z (TS.mv (I v1.2) Z) ?_;refine fN Z (TS.ixO (g:=false) CI Z Z nofun hi) ?_;refine fR [1] Z (λG hG=>EvA.loadhp (hS g (k+2) v 4 row.length) NQ Z (hG.a0 Z) Z Z (show (df gh 4 p)[v1.2.toNat]? = Us [hS g (k+2) v 4 row.length] by rw [cO hin,GG,hg,hrw]) Z) ?_;refine fN Z (TS.mv (.hp 0 aB 2 0 0) Z) ?_;refine fN Z (TS.mkF (c:=cI) ([(4:Int),(-1:Int),(3:Int)]:LI) [[I (4:Int)],[I (-1:Int)],[I (3:Int)]] lK Z Z Z qD qD Z) ?_;obtain ⟨a,ca,h⟩:=G5 h;refine fW 0 [] Z Z (λG hG=>EvA.call Z Z Z<|(gJ v2.1 ([(4:Int),(-1:Int),(3:Int)]:LI) aB ca).one 0 (hG.a0 Z) (.cons (.hp Z)<|.cons (.pF Z) .nil) (au Z) (au Z) Z) ?_;refine fN Z (TS.build [I (2:Int),I U,I U,I a.2] Tryz.underlying65 PG QS Z Z) ?_;refine fN Z (TS.mkF (c:=TW.c) ([(⟨(2:Int),U,U,a.2⟩:TW)]:List TW) [[I (2:Int),I U,I U,I a.2]] Gy Z Z Z qD TW.isF Z) ?_;refine fW (k+2) [] Z (aak<|by simp;omega) (λG hG=>EvA.app1 (g:=g) (l:=row) (⟨(2:Int),(0:Int),(0:Int),a.2⟩:TW) Gy (by kernel_rfl) Z Z (hG.a0 hK) hnil (cu.fz (l:=[(⟨(2:Int),(0:Int),(0:Int),a.2⟩:TW)]) Z qD)<|FU (by omega) Z) ?_;refine fN Z (TS.ixO (g:=false) CI Z Z nofun hi) ?_;refine fV 1 [] Z Z (λG hG=>EvA.st ⟨ver,1,62,(df gh 4 p).set v1.2.toNat [hS Ur (k+2) (v+1) 4 (row++[(⟨(2:Int),U,U,a.2⟩:TW)]).length]⟩ NQ Z Z (hG.a0 Z) Z Z (show (df gh 4 p)[v1.2.toNat]? = Us [hS g (k+2) v 4 row.length] by rw [cO hin,GG,hg,hrw]) Z Z Z) ?_;refine jR ?_;obtain rfl:=osl h;have hN2:=hN.turn (r':=Us ⟨aB,2,59,[[eL cY a.1.b,I a.1.p]]⟩) (o':=Us ⟨ver,1,62,df (gh.put v1.2.toNat (Ur,k+2,v+1)) 4<|p.set v1.2.toNat<|row++[(⟨(2:Int),U,U,a.2⟩:TW)]⟩) hin hg (g':=Ur) (v':=v+1) (x:=row++[(⟨(2:Int),U,U,a.2⟩:TW)]) nofun;rw [<- vz hin] at hN2;refine ⟨(),trivial,rI Z (.cons (.row<|.cons (.fz<|qC Z)<|.cons (.fz<|qC Z) .nil) .nil)<|ai (.fz<|hN2.fzm (to:=62) Z Z ?_ (by simp) TW.isF) aY⟩;rw [<- vz hin]
  rfl
 replace h:=ID q1 h;refine jH ?_;refine jC ?_;refine oN (TS.ieq Z Z) ?_;refine oN (TS.asg (Bo<|v2.2==(2:Int)) Z) ?_;refine jA ?_;refine T.cond Z (λq2=>?_) λq2=>?_
 ·replace h:=IC q2 h;refine jE ?_;refine jO (S:=Nat) (G:=NG×AH×Nat) (E:=Nat) (x:=4-p.length) (λj=>if p.length+j<=3 then Us (.inl<|j+1) else Us (.inr j)) (λj g=>j<=4-p.length/\NK 2 (Us ⟨aB,2,59,[[eL cY v2.1.b,I v2.1.p]]⟩::Us ⟨g.2.2,1,62,df g.1 4<|p++ZY j []⟩::g.2.1) g.1 4 65 TW.c (p++ZY j [])) (λj g=>[(5,hS Ur 1 g.2.2 1 (p++ZY j []).length)]) (λj g=>Us ⟨aB,2,59,[[eL cY v2.1.b,I v2.1.p]]⟩::Us ⟨g.2.2,1,62,df g.1 4<|p++ZY j []⟩::g.2.1) (s0:=0) (gh,K,ver) (DZ (λi=>i) (4-p.length) (λi hi=>by rw [if_pos (by omega)])<|by rw [if_neg (by omega)]) ⟨Z0 _,by simpa using hN⟩ (BB (by simp)<|TR (by simp;rfl) TQ) (λj g z hz hinv=>?_);obtain ⟨gh,K,ver⟩:=g;obtain ⟨hle,hN⟩:=hinv;simp only at hN;have hll:(p++ZY j []).length=p.length+j:=by simp
  have htk:p++ZY (j+1) []=(p++ZY j [])++[([]:List TW)]:=by rw [aal,Z7]
  generalize hl:(p++ZY j [])=l at hN hll htk ⊢;refine jH ?_;refine jH ?_;refine jC ?_;refine oN (TS.mv (hS Ur 1 ver 1 l.length) Z) ?_;refine oN (TS.lenO (g:=false) CI Z nofun) ?_;refine oN (TS.ile Z Z) ?_;refine jA ?_;refine T.cond Z (λqa=>?_) λqa=>?_
  ·have hj:p.length+j<=3:=by have := of_decide_eq_true qa;omega
   rw [if_pos hj] at hz;obtain rfl:=osl hz;refine jG ?_;refine jE ?_;refine jC ?_;refine oN (TS.mv (hS Ur 1 ver 1 l.length) Z) ?_;refine oA (EvA.mkO (c:=TW.c) (b:=K.length+2) ([]:List TW) [] Gy Z Z Z qD Z Z) ?_;refine TO.clean (H0:=some ⟨aB,2,59,[[eL cY v2.1.b,I v2.1.p]]⟩::Us ⟨ver,1,62,df gh 4 l⟩::(K++[bE Ur 0 4 65 (([]:List TW).map TW.c)])) (e0:=ak [(58,hS Ur (K.length+2) 0 4 0),(57,hS Ur 1 ver 1 l.length)]) Z (TR Z<|TR Z TQ) ?_;refine oA (EvA.mkR (b:=(K++[bE Ur 0 4 65 (([]:List TW).map TW.c)]).length+2) [[hS Ur (K.length+2) 0 4 0]] CI Z Z Z Z) ?_;refine oA (EvA.appR (g:=false) (rows:=df gh 4 l) (rows':=df gh 4 l++[[hS Ur (K.length+2) 0 4 0]]) (n':=l.length+1) CI (by kernel_rfl) Z Z (dP gh 4 l).symm nofun (cu.raw (rows:=[[hS Ur (K.length+2) 0 4 0]]) Z (F9 (H:=_::_::(K++[_]))) Z) (FU (by simp;omega) Z) Z Z) ?_;refine oN (TS.asg (hS Ur 1 (ver+1) 1<|l.length+1) Z) ?_;refine jA ?_;refine ⟨j+1,(gh.put l.length (Ur,K.length+2,0),K++[bE Ur 0 4 65 (([]:List TW).map TW.c)]++[Us ⟨0,1,62,[[hS Ur (K.length+2) 0 4 0]]⟩],ver+1),Z,⟨by omega,?_⟩,BB ?_<|TR ?_ TQ⟩
   ·rw [htk];refine hN.snoc (id:=K.length+2) (by simp) (by omega) (λb h1 h2=>?_) ?_ qD
    ·match b,h1 with
     | b+2,_=>
      simp only [llc,aaj] at h2;simp only [Z3,Z7];exact gal h2
    simp only [Z3];exact Ha
   ·show _::Us (ABlk.mk _ _ _<|df _ 4<|p++ZY (j+1) [])::_=_;rw [htk,<- Ft]
    rfl
   show hS Ur 1 (ver+1) 1 (l.length+1)=hS Ur 1 (ver+1) 1 (p++ZY (j+1) []).length;rw [htk,lla]
   rfl
  have hj : ¬ p.length+j<=3:=by have := of_decide_eq_false qa;omega
  rw [if_neg hj] at hz;obtain rfl:=osl hz;refine jM ?_;refine ⟨_,Z,λhe=>?_⟩;subst he;obtain rfl:=osl h;subst hl;exact ⟨(),trivial,rI Z (.cons (.row<|.cons (.fz<|qC Z)<|.cons (.fz<|qC Z) .nil) .nil)<|ai (.fz<|hN.fzm Z Z Z Z TW.isF) aY⟩
 replace h:=ID q2 h;refine jH ?_;refine jC ?_;refine oN (TS.ieq Z Z) ?_;refine oN (TS.asg (Bo<|v2.2==(3:Int)) Z) ?_;refine jA ?_;refine T.cond Z (λq3=>?_) λq3=>?_
 ·replace h:=IC q3 h;have hlen:=hp2 v1.2.toNat;unfold NM at h;have hset:p.set v1.2.toNat (p.getD v1.2.toNat [])=p:=by simp [hin]
  generalize hrw0:p.getD v1.2.toNat []=row0 at h hlen hset;refine jE ?_;refine jO (S:=Nat) (G:=NG×AH) (E:=Nat) (x:=8-row0.length) (λj=>if row0.length+j<=7 then Us (.inl<|j+1) else Us (.inr j)) (λj g=>j<=8-row0.length/\NK 2 (Us ⟨aB,2,59,[[eL cY v2.1.b,I v2.1.p]]⟩::Us ⟨ver,1,62,df g.1 4<|p.set v1.2.toNat<|row0++ZY j (⟨1,0,0,0⟩:TW)⟩::g.2) g.1 4 65 TW.c (p.set v1.2.toNat<|row0++ZY j (⟨1,0,0,0⟩:TW))) (λj g=>[(6,I v1.2),(5,hS Ur 1 ver 1 p.length)]) (λj g=>Us ⟨aB,2,59,[[eL cY v2.1.b,I v2.1.p]]⟩::Us ⟨ver,1,62,df g.1 4<|p.set v1.2.toNat<|row0++ZY j (⟨1,0,0,0⟩:TW)⟩::g.2) (s0:=0) (gh,K) (DZ (λi=>i) (8-row0.length) (λi hi=>by rw [if_pos (by omega)])<|by rw [if_neg (by omega)]) ⟨Z0 _,by simpa [hset] using hN⟩ (BB (by simp [hset])<|TR Z<|TR Z TQ) λj g z hz hinv=>?_;obtain ⟨gh,K⟩:=g;obtain ⟨hle,hN⟩:=hinv;simp only at hN;have hin2:v1.2.toNat<(p.set v1.2.toNat<|row0++ZY j (⟨1,0,0,0⟩:TW)).length:=by simp [hin]
  have hgt:(p.set v1.2.toNat<|row0++ZY j (⟨1,0,0,0⟩:TW)).getD v1.2.toNat []=(row0++ZY j (⟨1,0,0,0⟩:TW)):=by simp [hin]
  have hrl:(row0++ZY j (⟨1,0,0,0⟩:TW)).length=row0.length+j:=by simp
  have hnx:∀ x,((p.set v1.2.toNat<|row0++ZY j (⟨1,0,0,0⟩:TW))).set v1.2.toNat x=p.set v1.2.toNat x:=λx=>by simp
  have htk:row0++ZY (j+1) (⟨1,0,0,0⟩:TW)=(row0++ZY j (⟨1,0,0,0⟩:TW))++[(⟨1,0,0,0⟩:TW)]:=by rw [aal,Z7]
  obtain ⟨g,k,v,hg,hk,hK,hnil⟩:=hN.row (i:=v1.2.toNat) hin2;rw [hgt] at hK hnil;have hpl:(p.set v1.2.toNat<|row0++ZY j (⟨1,0,0,0⟩:TW)).length=p.length:=by simp
  generalize hrw:(row0++ZY j (⟨1,0,0,0⟩:TW))=row at hN hin2 hgt hrl hnx htk hK hnil hpl ⊢;generalize hl:p.set v1.2.toNat row=l at hN hin2 hgt hnx hpl ⊢;refine jH ?_;refine jH ?_;refine jC ?_;refine oN (TS.mv (hS Ur 1 ver 1 p.length) Z) ?_;refine oN (TS.mv (I v1.2) Z) ?_;refine oN (TS.ixO (g:=false) CI Z Z nofun hi) ?_;refine oA (EvA.loadhp (hS g (k+2) v 4 row.length) NQ Z Z Z Z (show (df gh 4 l)[v1.2.toNat]? = Us [hS g (k+2) v 4 row.length] by rw [cO hin2,GG,hg,hgt]) Z) ?_;refine oN (TS.lenO (g:=g) Gy Z λx=>by rw [hnil x];rfl) ?_;refine oN (TS.ile Z Z) ?_;refine jA ?_;refine T.cond Z (λqa=>?_) λqa=>?_
  ·have hj:row0.length+j<=7:=by have := of_decide_eq_true qa;omega
   rw [if_pos hj] at hz;obtain rfl:=osl hz;refine jG ?_;refine jE ?_;refine jC ?_;refine oN (TS.mv (hS Ur 1 ver 1 p.length) Z) ?_;refine oN (TS.mv (I v1.2) Z) ?_;refine oN (TS.mv (hS Ur 1 ver 1 p.length) Z) ?_;refine oN (TS.mv (I v1.2) Z) ?_;refine oN (TS.ixO (g:=false) CI Z Z nofun hi) ?_;refine oA (EvA.loadhp (hS g (k+2) v 4 row.length) NQ Z Z Z Z (show (df gh 4 l)[v1.2.toNat]? = Us [hS g (k+2) v 4 row.length] by rw [cO hin2,GG,hg,hgt]) Z) ?_;refine oN (TS.build [I V,I U,I U,I U] Tryz.underlying65 PG QS Z Z) ?_;refine oN (TS.mkF (c:=TW.c) ([(⟨1,0,0,0⟩:TW)]:List TW) [[I V,I U,I U,I U]] Gy Z Z Z qD TW.isF Z) ?_;refine oA (EvA.app1 (g:=g) (l:=row) (⟨1,0,0,0⟩:TW) Gy (by kernel_rfl) Z Z hK hnil (cu.fz (l:=[(⟨1,0,0,0⟩:TW)]) Z qD)<|FU (by omega) Z) ?_;refine oN (TS.ixO (g:=false) CI Z Z nofun hi) ?_;refine oV (EvA.st ⟨ver,1,62,(df gh 4 l).set v1.2.toNat [hS Ur (k+2) (v+1) 4 (row++[(⟨1,0,0,0⟩:TW)]).length]⟩ NQ Z Z Z Z Z (show (df gh 4 l)[v1.2.toNat]? = Us [hS g (k+2) v 4 row.length] by rw [cO hin2,GG,hg,hgt]) Z Z Z) ?_;refine jA ?_;have hN2:=hN.turn (r':=Us ⟨aB,2,59,[[eL cY v2.1.b,I v2.1.p]]⟩) (o':=Us ⟨ver,1,62,df (gh.put v1.2.toNat (Ur,k+2,v+1)) 4<|l.set v1.2.toNat<|row++[(⟨1,0,0,0⟩:TW)]⟩) hin2 hg (g':=Ur) (v':=v+1) (x:=row++[(⟨1,0,0,0⟩:TW)]) nofun;refine ⟨j+1,(gh.put v1.2.toNat (Ur,k+2,v+1),K.set k<|bE Ur (v+1) 4 65<|(row++[(⟨1,0,0,0⟩:TW)]).map TW.c),Z,⟨by omega,?_⟩,BB ?_<|TR Z<|TR Z TQ⟩
   ·rw [hnx] at hN2;rw [htk];exact hN2
   show _::Us (ABlk.mk _ _ _<|df _ 4<|p.set v1.2.toNat<|row0++ZY (j+1) (⟨1,0,0,0⟩:TW))::_=_;rw [htk,<- hnx,<- vz hin2]
   rfl
  have hj : ¬ row0.length+j<=7:=by have := of_decide_eq_false qa;omega
  rw [if_neg hj] at hz;obtain rfl:=osl hz;refine jM ?_;refine ⟨_,Z,λhe=>?_⟩;subst he;obtain rfl:=osl h;subst hrw;subst hl;exact ⟨(),trivial,rI Z (.cons (.row<|.cons (.fz<|qC Z)<|.cons (.fz<|qC Z) .nil) .nil)<|ai (.fz<|hN.fzm Z Z Z (by simp) TW.isF) aY⟩
 replace h:=ID q3 h;refine jH ?_;refine jC ?_;refine oN (TS.ieq Z Z) ?_;refine oN (TS.asg (Bo<|v2.2==(4:Int)) Z) ?_;refine jA ?_;refine T.cond Z (λq4=>?_) λq4=>?_
 ·replace h:=IC q4 h;refine T.cut (e0:=ak [(5,eL (cL TW.c) p)]) (H0:=[Us ⟨aB,2,59,[[eL cY v2.1.b,I v2.1.p]]⟩]) (rI Z (.cons (.row<|.cons (.fz<|qC Z)<|.cons (.fz<|qC Z) .nil) .nil)<|ai (.fz<|hN.fzm Z Z Z Z TW.isF) aY) ?_;refine jC ?_;refine oN (TS.mv (eL (cL TW.c) p) Z) ?_;refine oN (TS.slL CI Z (.yes Z) .no ⟨by omega,by omega,by omega⟩ qD) ?_;refine oN (TS.asg (eL (cL TW.c)<|(p.drop 1).take<|p.length-1) Z) ?_;refine jA ?_;obtain rfl:=osl h;exact ⟨(),trivial,BB Z<|TR Z TQ⟩
 replace h:=ID q4 h;refine jG ?_;obtain rfl:=osl h;exact ⟨(),trivial,rI Z (.cons (.row<|.cons (.fz<|qC Z)<|.cons (.fz<|qC Z) .nil) .nil)<|ai (.fz<|hN.fzm Z Z Z Z TW.isF) aY⟩
section
variable {α β:Type} [Inhabited β] {f:α->List Value} {s:Nat} {c:β->List AV} {w:World} {fz:Nat->Prop} {v:Value}
theorem PI {u x:Value} (h:FRel w fz (.v u) x):x=u:=by
 cases h with
 | v _=>rfl
theorem FV {e:β->α} (hf:∀ x,c x=(f<|e x).map AV.v) (hs:∀ x,(f<|e x).length=s) {l:List β} (h:FRel w fz (eL c l) v):Sl f s w 0 w.heap.size v (l.map e):=by
 unfold eL at h
 cases h with
 | sl us hc hm ha hr hu h1 h=>
  refine ⟨_,_,by rw [llm],by simpa using hc,hm,λhn=>?_⟩;rw [llm] at hn;obtain ⟨rfl,hg,hlt⟩:=ha hn;refine ⟨_,_,rfl,Z0 _,hlt,hlt,λk hk j u hu' => ?_⟩;rw [llm] at hk;rw [Z4] at hu';have hk0:l.getD k Uo=l[k]:=by simp [List.getD,hk]
  have hrow:(c<|l.getD k Uo)[j]? = Us (.v u):=by rw [hk0,hf,Z8,hu'];rfl
  have hs':=hr k hk
  dsimp only at hs'
  rw [hf,llm,hs] at hs';subst hs';have h2:=hu k j _ hk hrow;rw [PI (h k j _ hk hrow)] at h2;exact h2
theorem CJ {e:β->α} (hf:∀ x,c x=(f<|e x).map AV.v) (hs:∀ x,(f<|e x).length=s) {l:List (List β)} (h:FRel w fz (eL (cL c) l) v):GI f s w 0 w.heap.size v (l.map λr=>r.map e):=by
 unfold eL at h
 cases h with
 | sl us hc hm ha hr hu h1 h=>
  refine ⟨(Z6 l.length).map λi=>us i 0,?_,by simp,λk hk hk' => ?_⟩
  ·refine ⟨_,_,by rw [llm,Z9],by simpa using hc,hm,λhn=>?_⟩;rw [llm,Z9] at hn;obtain ⟨rfl,hg,hlt⟩:=ha hn;refine ⟨_,_,rfl,Z0 _,hlt,hlt,λk hk j u hu' => ?_⟩;rw [llm,Z9] at hk;rw [Z4,List.getElem_range] at hu';have hs':=hr k hk;change 1=_ at hs';subst hs'
   match j with
   | 0=>
    have h2:=hu k 0 _ hk rfl;rw [h2];simpa [Sj] using hu'
   | j+1=>simp [Sj] at hu'
  rw [llm,Z9] at hk;rw [Z4,Z4,List.getElem_range];have h2:=h k 0 _ hk rfl;have hk0:l.getD k Uo=l[k]:=by simp [List.getD,hk]
  rw [hk0] at h2;exact FV hf hs h2
theorem K4 {e:α->β} (hf:∀ x,c (e x)=(f x).map AV.v) (hs:∀ x,(f x).length=s) (hp:∀ x,∀ u∈f x,plain u=Uq) {l:List α} {hi:Nat} (h:Sl f s w 0 hi v l):FRel w (λg=>g<w.heap.size) (eL c<|l.map e) v:=by
 obtain ⟨A,cap,rfl,hc,hm,h⟩:=h;have key:∀ (g o:Nat),(0<l.length->A=Us ⟨g,o,Ut⟩/\g<w.heap.size/\∀ (k:Nat) (h:k<l.length) (j:Nat) (u:Value),(f l[k])[j]? = Us u->w.cell? ⟨g,o+k*s+j,Ut⟩=Us u)->FRel w (λg=>g<w.heap.size) (eL c<|l.map e) (.slice A l.length cap):=by
  intro g o hh;have hrow:∀ (i j:Nat) (a:AV),i<l.length->(c<|(l.map e).getD i Uo)[j]? = Us a->∃ u,l[i]?.bind (λx=>(f x)[j]?)=Us u/\a = .v u/\plain u=Uq/\w.cell? ⟨g,o+i*s+j,Ut⟩=Us u:=by
   intro i j a hi ha;have h0:(l.map e).getD i Uo=e l[i]:=by simp [List.getD,hi]
   rw [h0,hf,Z8] at ha
   cases hq:(f l[i])[j]? with
   | none=>rw [hq] at ha;cases ha
   | some u=>
    rw [hq] at ha;refine ⟨u,by rw [geq hi];exact hq,(osl ha).symm,hp _ u<|List.mem_of_getElem? hq,(hh<|by omega).2.2 i hi j u hq⟩
  have e0:(l.map e).length=l.length:=by simp
  unfold eL;rw [e0];refine FRel.sl (s:=s) (g:=g) (o:=o) (λi j=>(l[i]?.bind λx=>(f x)[j]?).getD<|.bool Ur) hc hm (λhn=>⟨(hh hn).1,(hh hn).2.1,(hh hn).2.1⟩) (λi hi=>?_) (λi j a hi ha=>?_) (λi j a hi ha=>?_) λi j a hi ha=>?_
  ·have h0:(l.map e).getD i Uo=e l[i]:=by simp [List.getD,hi]
   rw [h0,hf,llm,hs]
  ·obtain ⟨u,h1,h2,h3,h4⟩:=hrow i j a hi ha;simp only [h1,aaf];exact h4
  ·obtain ⟨u,h1,h2,h3,h4⟩:=hrow i j a hi ha;simp only [h1,aaf];exact Dy h3
  obtain ⟨u,h1,h2,h3,h4⟩:=hrow i j a hi ha;subst h2;simp only [h1,aaf];exact .v h3
 by_cases h0:0<l.length
 ·obtain ⟨b,o,hA,_,_,hlt,hcell⟩:=h h0;exact key b o λ_=>⟨hA,hlt,hcell⟩
 exact key 0 0 λh1=>absurd h1 h0
theorem Gz {P:Program} {g:FuncId} {ars:List AV} {r:AV} (h:ax P g ars r) (vs:Array Value) (hl:vs.size=ars.length) (hr:∀ (i:Nat) (a:AV) (v:Value),ars[i]? = Us a->vs[i]? = Us v->FRel w (λg=>g<w.heap.size) a v) (hgl:Gl w (λg=>g<w.heap.size):=by exact gl_none) :
  Calls P g vs w λe w'=>∃ v fz',e = .returned v/\Below w.heap.size w w'/\FRel w' fz' r v:=
 (h.2 w _ vs (λg hg=>hg) hgl hl hr).mono λe w' ⟨v,fz',h1,h2,h3,_⟩=>⟨v,fz',h1,h2,h3⟩
theorem S5 {a:AV} {u:Value} (h:FRel w fz a u):∀ (i:Nat) (a':AV) (v:Value),[a][i]? = Us a' -> #[u][i]? = Us v->FRel w fz a' v:=by
 intro i a' v h1 h2
 match i with
 | 0=>
  obtain rfl:=osl h1;obtain rfl:u=v:=by simpa using h2
  exact h
 | i+1=>simp at h1
end
theorem K5 {w:World} {v:Value} {hi:Nat} {l:LI} (h:Sl KE 1 w 0 hi v l):FRel w (λg=>g<w.heap.size) (eL cY l) v:=by
 have := K4 (f:=KE) (s:=1) (c:=cY) (e:=id) (λ_=>rfl) (λ_=>rfl) (λx u hu=>by simp [KE] at hu;subst hu;rfl) h
 rwa [List.map_id] at this
theorem Jo {P:Program} {g:FuncId} {ars:List AV} {w:World} {vs:Array Value} (h:ax P g ars<|Bo Uq) (hl:vs.size=ars.length) (hr:∀ (i:Nat) (a:AV) (v:Value),ars[i]? = Us a->vs[i]? = Us v->FRel w (λg=>g<w.heap.size) a v) (hgl:Gl w (λg=>g<w.heap.size):=by exact gl_none) :
  Calls P g vs w λe w'=>e = .returned (.bool Uq)/\Below w.heap.size w w':=
 (Gz h vs hl hr hgl).mono λe w' ⟨v,fz',h1,h2,h3⟩=>⟨by rw [h1,PI h3],h2⟩
theorem PK {vs:Array Value} {a:AV} (hl:vs.size=[a].length):∃ u,vs = #[u]:=by
 obtain ⟨l⟩:=vs
 match l,hl with
 | [u],_=>exact ⟨u,rfl⟩
theorem kY (p:List<|List TW) {q} (h:aU p=Us q):ax Uv 16 [eL (cL TW.c) p] (Bo q):=by
 unfold aU at h;obtain ⟨⟨h1,h2⟩,h⟩:=gdD h;obtain rfl:=osl h;refine ⟨by kernel_rfl,λw fz vs hlt _ hl hrel=>?_⟩;obtain ⟨u,rfl⟩:=PK hl;have hs:=CJ (f:=Ins.cells) (s:=4) (e:=qw) (λ_=>rfl) (λ_=>rfl)<|hrel 0 _ u rfl rfl;refine (xQ hs (aaa _)<|by rw [Hf];exact h2).mono λe w' ⟨he,hb⟩ => ?_;exact ⟨_,fz,he,hb,.v Z,λg hg=>hg,λg hg => .inl hg,λg hg=>Nat.lt_of_lt_of_le (hlt g hg) hb.size⟩
theorem kZ (p:List<|List TW) {q} (h:bT p=Us q):ax Uv 60 [eL (cL TW.c) p] (Bo q):=by
 unfold bT at h;obtain ⟨⟨h1,h2⟩,h⟩:=gdD h;obtain rfl:=osl h;refine ⟨by kernel_rfl,λw fz vs hlt _ hl hrel=>?_⟩;obtain ⟨u,rfl⟩:=PK hl;have hs:=CJ (f:=Ins.cells) (s:=4) (e:=qw) (λ_=>rfl) (λ_=>rfl)<|hrel 0 _ u rfl rfl;refine (xP hs (aaa _)<|by rw [Hf];exact h2).mono λe w' ⟨he,hb⟩ => ?_;exact ⟨_,fz,he,hb,.v Z,λg hg=>hg,λg hg => .inl hg,λg hg=>Nat.lt_of_lt_of_le (hlt g hg) hb.size⟩
open Go.RowKit Go.WideShapes Go.ChangeShapes Go.Deep
section
variable {H:Type} {enc:TypeId×Value->H} {P:Program}
theorem GA {f:Func} {s:ChangeSpec} {apart fresh handsOn again:Bool} {W W':World} {args:Array Value} {v:Value} {ds gs:List (DataW H)} {before pa pv:List MemPlace}
  (hW:DataW.Whole enc P f.params.toList s.vars apart W args.toList ds gs before)
  (hres:∀ (b:Nat) (sp:Nat->Bool) (hd:Bool),DataW.TrodAll enc P W' b sp hd f.resultTypes.toList (v.resultList f.resultTypes.size) (s.fn H<|ds++gs).results [])
  (hargs:∀ sp:Nat->Bool,(∀ p∈before,sp p.block=Uq)->DataW.TrodAll enc P W' 0 sp Uq f.params.toList args.toList (s.fn H<|ds++gs).args pa)
  (hvars:∀ sp:Nat->Bool,(∀ p∈before,sp p.block=Uq)->DataW.TrodVars enc P W' sp s.vars (s.fn H<|ds++gs).vars pv)
  (hps:before=pa++pv) (hb:Below W.heap.size W W')
  (hok:∀ (j:Nat) (t:TypeId) (r:Value),f.resultTypes[j]? = Us t->(v.resultList f.resultTypes.size)[j]? = Us r->Value.okWide P W' .any 0 t r) :
  s.post enc P f apart fresh handsOn again W args v W':=by
 have hlt:∀ p∈before,p.block<W.heap.size:=λp hp=>hW.lt p hp;have hold:∀ p∈before,(λb=>Uu<|b<W.heap.size) p.block=Uq:=λp hp=>by simpa using hlt p hp
 refine ⟨ds,gs,before,[],pa,pv,hW,hres _ _ _,hargs _ hold,hvars _ hold,World.keptBut_mono (λp hp=>⟨hp,?_⟩) (hb.frame (· ∈ before)),λ_=>?_⟩
 ·rw [hps,List.mem_append] at hp;exact Or.inr hp
 obtain ⟨_,_,_,_,_,hz,hn⟩:=hW;refine ⟨hok,_,_,([]++pa)++pv,⟨[]++pa,pv,trodAll_append (hargs _ λ_ _=>rfl)<|hres _ _ _,hvars _ λ_ _=>rfl,rfl,?_,?_⟩,?_⟩
 ·intro b off hp;have hin:MemPlace.cell b off∈before:=by rw [hps];simpa using hp
  rw [hb.frozen (hlt _ hin)];exact hz b off hin
 ·intro ha;have := hn ha;rw [hps] at this;simpa using this
 intro p hp _;rw [hps];simpa using hp
theorem A7 (hl:laidOutB P=Uq) {W W':World} (hb:Below W.heap.size W W') {sp:Nat->Bool}:∀ (ts:List TypeId) (vs:List Value) (ds:List<|DataW H) (ps:List MemPlace),
  (∀ t∈ts,P.readableRec t=Uq/\t<P.types.size)->DataW.TrodAll enc P W 0 (λ_=>Uq) Uq ts vs ds ps->(∀ x∈ps,x.block<W.heap.size)->(∀ x∈ps,sp x.block=Uq) ->
  DataW.TrodAll enc P W' 0 sp Uq ts vs ds ps
 | [],[],[],_,_,h,_,_=>h
 | t::ts,v::vs,d::ds,ps,hr,⟨p,q,h1,h2,hpq⟩,hlt,hs=>by
  subst hpq;have hp:∀ x∈p,x.block<W.heap.size:=λx hx=>hlt x (aad _ hx);exact ⟨p,q,WideElems.Trod_stays hl (hr t (by simp)).1 (hr t (by simp)).2 h1 (λx hx=>hb.same (hp x hx)) (λx hx=>hs x (aad _ hx)),
   A7 hl hb ts vs ds q (λt ht=>hr t (List.mem_cons_of_mem _ ht)) h2 (λx hx=>hlt x (aac _ hx)) (λx hx=>hs x (aac _ hx)),rfl⟩
 | [],_::_,_,_,_,h,_,_=>(by cases h)
 | [],[],_::_,_,_,h,_,_=>(by cases h)
 | _::_,[],_,_,_,h,_,_=>(by cases h)
 | _::_,_::_,[],_,_,h,_,_=>(by cases h)
variable {w:World} {spare:Nat->Bool} {held:Bool}
theorem O4 {α:Type} {f:α->List Value} {s:Nat} {t e:TypeId} (hs:P.cellsOf e=s) (hs0:0<s) (ht:P.underlying t=Us (.slice e)) {Good:α->Prop}
  (hel:∀ (fuel:Nat) (cs:List Value) (x:DataW H×List MemPlace),DataW.trod enc P w 0 spare held fuel e cs=Us x->∃ a,cs=f a/\Good a) {fuel:Nat} {cs:List Value} {x:DataW H×List MemPlace}
  (h:DataW.trod enc P w 0 spare held fuel t cs=Us x):∃ v,cs=[v]/\∃ xs:List α,Sl f s w 0 w.heap.size v xs/\∀ y∈xs,Good y:=by
 rcases open_slice ht h with ⟨rfl,_⟩ | ⟨a,len,cap,m,n,D,Pl,rfl,_,hl,hm,hmm,_,hi⟩
 ·exact ⟨_,rfl,[],Sl.nil_ _ _ (by omega),λy hy=>absurd hy<|by simp⟩
 refine ⟨_,rfl,?_⟩;have hlm:len<=m:=by rw [hmm];split <;> omega
 have key:∀ i,i<len->∃ y:α,Good y/\∀ (j:Nat) (u:Value),(f y)[j]? = Us u->w.cell? ((a.add<|i*s).add j)=Us u:=by
  intro i hil;obtain ⟨cs',hc,ht'⟩:=hi i (by omega);obtain ⟨y,rfl,hg⟩:=hel _ _ _ ht';obtain ⟨_,hcl,hat⟩:=World.cells?_some hc;rw [hs] at hat hcl;exact ⟨y,hg,λj u hu=>by
   have hj:j<s:=by
    have := (ges hu).1;omega
   rw [hat j hj];exact hu⟩
 have key2:∀ i,i<len->∃ cs',w.cells? 0 (a.add<|i*s) s=Us cs':=by
  intro i hil;obtain ⟨cs',hc,_⟩:=hi i (by omega);rw [hs] at hc;exact ⟨cs',hc⟩
 clear hi;simp only [maxLen] at hm
 by_cases hn:0<len
 ·obtain ⟨cs0,hc0⟩:=key2 0 hn;obtain ⟨_,hcl,hat⟩:=World.cells?_some hc0;have h00:=hat 0 hs0;rw [geq (by omega)] at h00;have hspot:=World.cell?_spot h00;obtain ⟨b,o,sp⟩:=a;have hsp:sp=Ut:=by simpa [Addr.add] using hspot
  subst hsp;have hb:b<w.heap.size:=by
   have := World.block_lt_of_cell? w _ h00;simpa [BG] using this
  have hch:∃ F:Nat->α,∀ i,i<len->Good (F i)/\∀ (j:Nat) (u:Value),(f<|F i)[j]? = Us u->w.cell? (((⟨b,o,Ut⟩:Addr).add<|i*s).add j)=Us u:=by
   obtain ⟨y0,_⟩:=key 0 hn;refine ⟨λi=>if h:i<len then (key i h).choose else y0,λi hil=>?_⟩;simp only [dif_pos hil];exact (key i hil).choose_spec
  obtain ⟨F,hF⟩:=hch;refine ⟨(Z6 len).map F,⟨_,cap,by simp,by simpa using hl,by omega,λ_=>⟨b,o,rfl,Z0 _,hb,hb,λk hk j u hu=>?_⟩⟩,λy hy=>?_⟩
  ·have hk':k<len:=by simpa using hk
   have := (hF k hk').2 j u (by simpa using hu)
   rwa [BG,BG] at this
  rw [List.mem_map] at hy;obtain ⟨i,hi,rfl⟩:=hy;exact (hF i<|by simpa using hi).1
 have h0:len=0:=by omega
 subst h0;exact ⟨[],Sl.nil_ _ _ (by omega),λy hy=>absurd hy<|by simp⟩
theorem R6 {t:TypeId} {k:IntKind} (ht:P.underlying t=Us (.int k)) (fuel:Nat) (cs:List Value) (x:DataW H×List MemPlace) (h:DataW.trod enc P w 0 spare held fuel t cs=Us x) :
  ∃ a:Int,cs=[.int k a]/\(Lit.int k a).wf=Uq:=by
 obtain ⟨n,h1,_,h3⟩:=DataW.trod_int ht h;exact ⟨n,h1,h3⟩
end
theorem one_cell {v u:Value} (h:v.cells.toList=[u]) (hv:∃ a len cap,v = .slice a len cap):v=u:=by
 obtain ⟨a,len,cap,rfl⟩:=hv;simpa [Value.cells] using h
open Go.ChangeShapes Go.WideShapes Go.ChangeAt Go.RowKit Go.Sort
theorem Ew {w:World} {blk off g:Nat} {d:Array Int} (h:g≠blk):(putRow (Value.int .i64) w blk off d).heap[g]? = w.heap[g]? := by
 show (w.heap.modify blk _)[g]? = _;rw [aab,if_neg (Ne.symm h)]
theorem Ex {w:World} {blk off:Nat} {d:Array Int} {cs:Array Value} {t:TypeId} {fr:Nat×Nat} (h:w.heap[blk]? = Us (.cells cs t fr)):(putRow (Value.int .i64) w blk off d).heap[blk]? = Us (.cells (putCells (Value.int .i64) off d cs) t fr):=by
 show (w.heap.modify blk _)[blk]? = _;rw [aab,if_pos rfl,h]
 rfl
theorem qo {off:Nat} {d:Array Int} {cs:Array Value}:(putCells (Value.int .i64) off d cs).size=cs.size:=by simp [putCells]
theorem GD {off:Nat} {d:Array Int} {cs:Array Value} {k:Nat} (h:off+d.size<=cs.size) (hk:k<d.size):(putCells (Value.int .i64) off d cs)[off+k]? = Us (.int .i64 d[k]!):=by
 unfold putCells;rw [aam,aan (by omega)];simp only [Option.map_some];rw [if_pos (by omega),show off+k-off=k by omega]
theorem O5 {c:Cx} (hr:HRel c) {l q:LI} {ver sF:Nat} (hH:c.H=[Us ⟨ver,1,3,l.map cI⟩]) {cs:Array Value} {fr0:Nat×Nat} (hB:BRel c 0 ⟨ver,1,3,l.map cI⟩ cs<|Us fr0) {d':Array Int} (hd:d'.size=l.length) (hq:q.length<=d'.size)
  (hqe:∀ i (h:i<q.length),d'[i]! = q[i]) {m:Nat} {os:Array Obj} (hv:(sF=ver/\q.length=l.length)\/ver<sF) :
  ∃ c',c'.w=grow (putRow (Value.int .i64) (Sort.ahead c.w m) (c.φ 0).1 (c.φ 0).2 d') os/\c'.H=[Us ⟨sF,1,3,q.map cI⟩]/\HRel c'/\Ext c c'/\c'.φ 0=c.φ 0/\c'.w.heap[(c.φ 0).1]? = Us (.cells (putCells (Value.int .i64) (c.φ 0).2 d' cs) 3 fr0):=by
 have hlv:c.live 0 ⟨ver,1,3,l.map cI⟩:=by
  unfold Cx.live;rw [hH]
  rfl
 have hat:c.w.heap[(c.φ 0).1]? = Us (.cells cs 3 fr0):=hB.at_;have hblk:(c.φ 0).1<c.w.heap.size:=hr.live_lt hlv;have hfit:(c.φ 0).2+l.length<=cs.size:=by
  have := hB.fits;simpa using this
 have he1:Ext c (c.upd 0 ⟨sF,1,3,q.map cI⟩ ((c.φ 0).1,(c.φ 0).2) (putCells (Value.int .i64) (c.φ 0).2 d' cs)):=Cx.upd_ext hr hlv hB qo (by
  rcases hv with ⟨h1,h2⟩ | h
  ·exact .inl ⟨h1,rfl,by simp [h2],rfl⟩
  exact .inr h)
 have hr1:=Cx.upd_rel hr hlv hB (k:=⟨sF,1,3,q.map cI⟩) (o:=(c.φ 0).2) (cs:=putCells (Value.int .i64) (c.φ 0).2 d' cs) qo rfl he1 Nat.one_pos (by rw [qo];simp;omega) (λi row h=>by
  obtain ⟨x,_,rfl⟩:=by simpa [Z8,aao] using h
  rfl) (λi row j a h1 h2=>by
  have hi:i<q.length:=by simpa using (ges h1).1
  have hrw:row=cI q[i]:=by
   have := (ges h1).2;rw [<- this];simp
  subst hrw
  match j,h2 with
  | 0,h2=>
   obtain rfl:=osl h2;refine ⟨.int .i64 d'[i]!,?_,rfl,?_⟩
   ·have := GD (off:=(c.φ 0).2) (d:=d') (cs:=cs) (k:=i) (by omega) (by omega);simpa using this
   rw [hqe i hi];exact .fr<|.v rfl
  | j+1,h2=>simp [cI] at h2)
 have hbl:Below (c.upd 0 ⟨sF,1,3,q.map cI⟩ ((c.φ 0).1,(c.φ 0).2)<|putCells (Value.int .i64) (c.φ 0).2 d' cs).w.heap.size (c.upd 0 ⟨sF,1,3,q.map cI⟩ ((c.φ 0).1,(c.φ 0).2)<|putCells (Value.int .i64) (c.φ 0).2 d' cs).w (grow (putRow (Value.int .i64) (Sort.ahead c.w m) (c.φ 0).1 (c.φ 0).2 d') os):=by
  have hz:(c.upd 0 ⟨sF,1,3,q.map cI⟩ ((c.φ 0).1,(c.φ 0).2)<|putCells (Value.int .i64) (c.φ 0).2 d' cs).w.heap.size=c.w.heap.size:=by simp [Cx.upd]
  have hs:(putRow (Value.int .i64) (Sort.ahead c.w m) (c.φ 0).1 (c.φ 0).2 d').heap.size=c.w.heap.size:=by rw [size_putRow];rfl
  refine ⟨rfl,rfl,rfl,?_,λg hg=>?_⟩
  ·rw [hz];show _<=((putRow (Value.int .i64) (Sort.ahead c.w m) (c.φ 0).1 (c.φ 0).2 d').heap++os).size;rw [aag,hs];omega
  rw [hz] at hg;show ((putRow (Value.int .i64) (Sort.ahead c.w m) (c.φ 0).1 (c.φ 0).2 d').heap++os)[g]? = (c.w.setRow (c.φ 0).1<|putCells (Value.int .i64) (c.φ 0).2 d' cs).heap[g]?;rw [aap (by rw [hs];exact hg)]
  by_cases e:g=(c.φ 0).1
  ·subst e;rw [Ex (w:=Sort.ahead c.w m) hat,setRow_heap _ _ _ _ _ _ hat]
  rw [Ew e,setRow_other _ _ _ _ e]
  rfl
 obtain ⟨g1,g2⟩:=xJ hr1 hbl (fz':=λ_=>False) (λ_ h=>h.elim) (λ_ h=>h.elim) λ_ _ _ h=>h;refine ⟨_,rfl,?_,g1,he1.trans g2,?_,?_⟩
 ·show c.H.set 0 _=_;rw [hH]
  rfl
 ·rfl
 have hz:(c.upd 0 ⟨sF,1,3,q.map cI⟩ ((c.φ 0).1,(c.φ 0).2)<|putCells (Value.int .i64) (c.φ 0).2 d' cs).w.heap.size=c.w.heap.size:=by simp [Cx.upd]
 have := hbl.block (c.φ 0).1 (by rw [hz];exact hblk);refine this.trans ?_;show (c.w.setRow (c.φ 0).1<|putCells (Value.int .i64) (c.φ 0).2 d' cs).heap[_]? = _;exact setRow_heap _ _ _ _ _ _ hat
theorem O6 {c:Cx} (hr:HRel c) {l:LI} {ver:Nat} (hH:c.H=[Us ⟨ver,1,3,l.map cI⟩]) {u:Value} (hu:c.rel (.hs 0 ver 1 0 l.length) u) (hn:0<l.length) :
  ∃ cs fr0 cap,BRel c 0 ⟨ver,1,3,l.map cI⟩ cs (Us fr0)/\u = .slice (Us ⟨(c.φ 0).1,(c.φ 0).2,Ut⟩) l.length cap/\l.length<=cap/\cap<=9223372036854775807/\(c.φ 0).2+cap<=cs.size/\Holds (Value.int .i64) c.w (c.φ 0).1 (c.φ 0).2 l.toArray/\(c.φ 0).1<c.w.heap.size:=by
 have hlv:c.live 0 ⟨ver,1,3,l.map cI⟩:=by
  unfold Cx.live;rw [hH]
  rfl
 obtain ⟨cs,fr0,hB⟩:=hr.blk 0 _ hlv
 cases hu with
 | fr h=>cases h
 | @hs _ _ _ _ _ cap A hb hc hm h0 h=>
 obtain ⟨f,rfl,hat,hhd⟩:=hB.cells hlv λx hx=>(h x hx).1;obtain ⟨_,_,h3,h4⟩:=h _ hhd;have hA:=h3 (by omega);simp only [Nat.zero_mul,Nat.add_zero,Nat.mul_one] at hA h4;refine ⟨cs,f,cap,hB,by rw [hA],hc,hm,h4,λj hj=>?_,hr.live_lt hlv⟩;have hj:j<l.length:=by simpa using hj
 have hj2:(c.φ 0).2+j<cs.size:=by omega
 obtain ⟨u,g1,g2,g3⟩:=hB.rel j (cI l[j]) 0 (I l[j]) (by simp [hj]) rfl;refine ⟨?_,?_⟩
 ·simp only [World.cell?,hat];have := gL g3;simp only [Nat.mul_one,Nat.add_zero] at g1;rw [g1];obtain ⟨rfl,_⟩:=this;simp [hj]
 have := hB.fre f rfl _ hj2;obtain ⟨lo,hi'⟩:=f;simp only [World.frozen?,hat,aaq,decide_eq_false_iff_not];simp only at this;omega
open Go.Shelf Go.RowKit Go.Lib Go.Sort
def R7:Go.Shelf.Ren:=⟨λ| 23=>87 | n=>n,λ| 22=>31 | 3=>3 | 4=>4 | 0=>0 | n=>n,λ| n=>n⟩
theorem R8:Go.Proofs.Lays2.n23 Uv R7 where
 mixed:=by kernel_rfl
 f23:=func87.trans<|congrArg Us (by kernel_rfl)
 t0:=Tryz.underlying0
 a0:=Tryz.isAgg0
 z0:=Tryz.sizeOf0
 v0:=Tryz.zeroValue0
 t3:=Tryz.underlying3
 a3:=Tryz.isAgg3
 z3:=Tryz.sizeOf3
 v3:=Tryz.zeroValue3
 t4:=Tryz.underlying4
 a4:=Tryz.isAgg4
 z4:=Tryz.sizeOf4
 v4:=Tryz.zeroValue4
 t22:=Tryz.underlying31
 a22:=Tryz.isAgg31
 z22:=Tryz.sizeOf31
 v22:=Tryz.zeroValue31
 i3:=by kernel_rfl
open Go.ChangeShapes Go.WideShapes Go.ChangeAt Go.RowKit Go.Shelf Go.Sort
theorem B0 (l:LI) (i j:Int) (g:Bool) (ver:Nat) (hg:g=Uq->l=[]) {q} (h:sK l i j=Us q) :
  bH Uv 87 [hS g 0 ver 1 l.length,I i,I j] [bE g ver 1 3 (l.map cI)] (G9 1 3 (λx=>x) q.length (q.map cI) 0 []):=by
 obtain ⟨⟨h0,h1,h2,hn⟩,h⟩:=gdD h;obtain rfl:=osl h;obtain rfl:g=Ur:=by
  cases g with
  | false=>rfl
  | true=>
   rw [hg rfl] at hn;exact absurd hn (by simp)
 refine ⟨by kernel_rfl,λc vs hH hr hall=>?_⟩;obtain ⟨hsz,hrel⟩:=hall;obtain ⟨u,a,b,rfl⟩:∃ u a b,vs = #[u,a,b]:=by
  match vs,hsz with
  | ⟨[u,a,b]⟩,_=>exact ⟨u,a,b,rfl⟩
 obtain ⟨rfl,_⟩:=gL<|hrel 1 _ a rfl rfl;obtain ⟨rfl,_⟩:=gL<|hrel 2 _ b rfl rfl;have hH:c.H=[Us ⟨ver,1,3,l.map cI⟩]:=hH;obtain ⟨cs,fr0,cap,hB,rfl,hc,hm,hcs,hHo,hblk⟩:=O6 hr hH (hrel 0 _ u rfl rfl) hn;have hcon:=Any.slices_Delete_int R8 (c.φ 0).1 (c.φ 0).2 cap i.toNat j.toNat l c.w hHo hc hm (by omega) (by omega);rw [show (i.toNat:Int)=i by omega,show (j.toNat:Int)=j by omega] at hcon;refine (show Calls Uv 87 _ _ _ from hcon).mono ?_;rintro e w' ⟨rfl,m,rfl⟩;have hql:(l.take i.toNat++l.drop j.toNat).length=l.length-(j.toNat-i.toNat):=by simp;omega
 have hdl:(l.take i.toNat++l.drop j.toNat++ZY (j.toNat-i.toNat) (0:Int)).toArray.size=l.length:=by simp;omega
 obtain ⟨c',w1,w2,w3,w4,w5,w6⟩:=O5 hr hH hB (q:=l.take i.toNat++l.drop j.toNat) (sF:=ver+1) (d':=(l.take i.toNat++l.drop j.toNat++ZY (j.toNat-i.toNat) (0:Int)).toArray) hdl (by rw [hdl,hql];omega) (λk hk=>by
  rw [getElem!_pos _ k (by rw [hdl];omega)];simp only [List.getElem_toArray];rw [List.getElem_append_left hk]) (m:=m) (os:=#[]) (.inr (Nat.lt_succ_self _))
 rw [grow_empty] at w1;have hlv:c'.live 0 ⟨ver+1,1,3,(l.take i.toNat++l.drop j.toNat).map cI⟩:=by
  unfold Cx.live;rw [w2]
  rfl
 refine ⟨_,c',hS Ur 0 (ver+1) 1 (l.take i.toNat++l.drop j.toNat).length,Z,w1,⟨Ur,ver+1,λe=>(by cases e),Z,w2⟩,w3,w4,?_⟩;rw [<- hql];refine .hs ?_ (by omega) hm (λ_=>⟨_,Z⟩) λx hx=>?_
 ·unfold Cx.born;rw [show c'.H[0]? = Us (Us _) from hlv];exact aaa _
 have := Cx.hd_of hlv (by rw [w5];exact w6);rw [show (⟨ver+1,1,3,(l.take i.toNat++l.drop j.toNat).map cI⟩:ABlk).ver=ver+1 from rfl] at this;rw [this] at hx;obtain rfl:=osl hx;rw [w5];refine ⟨Z,by simp,λ_=>by simp,?_⟩;show (c.φ 0).2+0*1+cap*1<=(putCells (Value.int .i64) (c.φ 0).2 _ cs).size;rw [qo];omega
def R9:Go.Shelf.Ren:=⟨λ| 6=>50 | 15=>92 | 14=>91 | 28=>127 | 29=>128 | 20=>119 | 21=>120 | 22=>121 | 23=>122 | 24=>123 | 25=>124 | 26=>125 | 27=>126 | 46=>162 | 47=>163 | 48=>164 | 49=>165 | 50=>166 | 57=>195 | n=>n,λ| 22=>25 | 24=>31 | 25=>90 | 3=>3 | 39=>131 | 0=>0 | 53=>169 | 55=>171 | 4=>4 | 46=>163 | 45=>162 | 50=>154 | 5=>5 | 9=>9 | 66=>206 | 70=>210 | 76=>229 | 77=>230 | n=>n,λ| n=>n⟩
theorem PL:Go.Proofs.SlLaysF.n6 Uv R9 where
 mixed:=by kernel_rfl
 f6 := ⟨"slices.SortFunc[[][]int,[]int]",by decide,Tryz.func50.trans (congrArg some (by kernel_rfl))⟩
 f14 := ⟨"slices.pdqsortCmpFunc[[]int]",by decide,Tryz.func91.trans (congrArg some (by kernel_rfl))⟩
 f15:=func92.trans<|congrArg Us (by kernel_rfl)
 f20 := ⟨"slices.insertionSortCmpFunc[[]int]",by decide,Tryz.func119.trans (congrArg some (by kernel_rfl))⟩
 f21 := ⟨"slices.heapSortCmpFunc[[]int]",by decide,Tryz.func120.trans (congrArg some (by kernel_rfl))⟩
 f22 := ⟨"slices.breakPatternsCmpFunc[[]int]",by decide,Tryz.func121.trans (congrArg some (by kernel_rfl))⟩
 f23 := ⟨"slices.choosePivotCmpFunc[[]int]",by decide,Tryz.func122.trans (congrArg some (by kernel_rfl))⟩
 f24 := ⟨"slices.reverseRangeCmpFunc[[]int]",by decide,Tryz.func123.trans (congrArg some (by kernel_rfl))⟩
 f25 := ⟨"slices.partialInsertionSortCmpFunc[[]int]",by decide,Tryz.func124.trans (congrArg some (by kernel_rfl))⟩
 f26 := ⟨"slices.partitionEqualCmpFunc[[]int]",by decide,Tryz.func125.trans (congrArg some (by kernel_rfl))⟩
 f27 := ⟨"slices.partitionCmpFunc[[]int]",by decide,Tryz.func126.trans (congrArg some (by kernel_rfl))⟩
 f28:=func127.trans<|congrArg Us (by kernel_rfl)
 f29:=func128.trans<|congrArg Us (by kernel_rfl)
 f46 := ⟨"slices.siftDownCmpFunc[[]int]",by decide,Tryz.func162.trans (congrArg some (by kernel_rfl))⟩
 f47:=func163.trans<|congrArg Us (by kernel_rfl)
 f48:=func164.trans<|congrArg Us (by kernel_rfl)
 f49 := ⟨"slices.medianAdjacentCmpFunc[[]int]",by decide,Tryz.func165.trans (congrArg some (by kernel_rfl))⟩
 f50 := ⟨"slices.medianCmpFunc[[]int]",by decide,Tryz.func166.trans (congrArg some (by kernel_rfl))⟩
 f57 := ⟨"slices.order2CmpFunc[[]int]",by decide,Tryz.func195.trans (congrArg some (by kernel_rfl))⟩
 t0:=Tryz.underlying0
 a0:=Tryz.isAgg0
 z0:=Tryz.sizeOf0
 v0:=Tryz.zeroValue0
 t3:=Tryz.underlying3
 a3:=Tryz.isAgg3
 z3:=Tryz.sizeOf3
 v3:=Tryz.zeroValue3
 t4:=Tryz.underlying4
 a4:=Tryz.isAgg4
 z4:=Tryz.sizeOf4
 v4:=Tryz.zeroValue4
 t5:=Tryz.underlying5
 a5:=Tryz.isAgg5
 z5:=Tryz.sizeOf5
 v5:=Tryz.zeroValue5
 t9:=Tryz.underlying9
 a9:=Tryz.isAgg9
 z9:=Tryz.sizeOf9
 v9:=Tryz.zeroValue9
 t22:=Tryz.underlying25
 a22:=Tryz.isAgg25
 z22:=Tryz.sizeOf25
 v22:=Tryz.zeroValue25
 a24:=Tryz.isAgg31
 z24:=Tryz.sizeOf31
 t25:=Tryz.underlying90
 a25:=Tryz.isAgg90
 z25:=Tryz.sizeOf90
 v25:=Tryz.zeroValue90
 t39:=Tryz.underlying131
 a39:=Tryz.isAgg131
 z39:=Tryz.sizeOf131
 v39:=Tryz.zeroValue131
 t45:=Tryz.underlying162
 a45:=Tryz.isAgg162
 z45:=Tryz.sizeOf162
 v45:=Tryz.zeroValue162
 t46:=Tryz.underlying163
 a46:=Tryz.isAgg163
 z46:=Tryz.sizeOf163
 v46:=Tryz.zeroValue163
 t50:=Tryz.underlying154
 a50:=Tryz.isAgg154
 z50:=Tryz.sizeOf154
 v50:=Tryz.zeroValue154
 t53:=Tryz.underlying169
 a53:=Tryz.isAgg169
 z53:=Tryz.sizeOf169
 v53:=Tryz.zeroValue169
 t55:=Tryz.underlying171
 a55:=Tryz.isAgg171
 z55:=Tryz.sizeOf171
 v55:=Tryz.zeroValue171
 t66:=Tryz.underlying206
 a66:=Tryz.isAgg206
 z66:=Tryz.sizeOf206
 v66:=Tryz.zeroValue206
 t70:=Tryz.underlying210
 a70:=Tryz.isAgg210
 z70:=Tryz.sizeOf210
 v70:=Tryz.zeroValue210
 t76:=Tryz.underlying229
 a76:=Tryz.isAgg229
 z76:=Tryz.sizeOf229
 v76:=Tryz.zeroValue229
 t77:=Tryz.underlying230
 a77:=Tryz.isAgg230
 z77:=Tryz.sizeOf230
 v77:=Tryz.zeroValue230
theorem O7 {α:Type} (f:α->LI):SWO (ltOf λx y=>cmpL (f x)<|f y) where
 irrefl x:=by simp [ltOf,sM]
 trans x y z h1 h2:=by
  simp only [ltOf,dte] at *;exact sG h1 h2
 ntrans x y z h1 h2:=by
  simp only [ltOf,decide_eq_false_iff_not] at *;intro h;rcases wC (f x) (f y) with g | g | g
  ·exact h1 g
  ·rw [g] at h;exact h2 h
  exact h2<|sG g h
theorem EY (x y:Int) (w:World) :
  Calls Uv 93 #[.int .i64 x,.int .i64 y] w λe w'=>e = .returned (.int .i64<|if x<y then -1 else if y<x then 1 else 0)/\w'=w:=by
 go_enter func93,Tryz.ntmps93
 by_cases h1:x<y
 ·rw [if_pos h1]
  go_wp2
  go_ret
  exact ⟨rfl,rfl⟩
 rw [if_neg h1]
 by_cases h2:y<x
 ·rw [if_pos h2]
  go_wp2
  go_ret
  exact ⟨rfl,rfl⟩
 rw [if_neg h2]
 go_wp2
 go_ret
 exact ⟨rfl,rfl⟩
theorem Jp {lo hi lo' hi':Nat} {u v:Value} {xs ys:LI} {w:World} (hu:Sl Ru 1 w lo hi u xs) (hv:Sl Ru 1 w lo' hi' v ys) :
  Calls Uv 51 #[u,v] w λe w'=>e = .returned (.int .i64<|cmpL xs ys)/\w'=w:=by
 obtain ⟨A,ca,rfl,hca,hma,hA⟩:=hu.ints;obtain ⟨B,cb,rfl,hcb,hmb,hB⟩:=hv.ints;have HAA:=Lib.hid hA;clear hA;have HBB:=Lib.hid hB;clear hB
 go_enter func51,Tryz.ntmps51
 go_wp2_with fail
 go_loopw [11] (λi wr=>∃ k:Nat,k<=xs.length/\k<=ys.length/\i = .int .i64 k/\wr=w/\cmpL xs ys=cmpL (xs.drop k) (ys.drop k)) (λi _=>xs.length-(intOf i).toNat)
 case atStart=>exact ⟨0,Z0 _,Z0 _,rfl,rfl,rfl⟩
 case round=>
  obtain ⟨k,hk,hk2,rfl,rfl,he⟩:=hrel;have HE:=Lib.hid he;clear he
  by_cases hlt:k<xs.length
  ·obtain ⟨ba,oa,rfl,_,_,hba,hA⟩:=HAA.out (by omega);have ca1:=hA k hlt;clear hA;have i1:(0:Int)<=(k:Int):=by omega
   have i2:(k:Int)<(xs.length:Int):=by omega
   have HX:=Lib.hid<|aah hlt
   by_cases hlt2:k<ys.length
   ·obtain ⟨bb,ob,rfl,_,_,hbb,hB⟩:=HBB.out (by omega);have cb1:=hB k hlt2;clear hB;have i3:(k:Int)<(ys.length:Int):=by omega
    have HY:=Lib.hid<|aah hlt2;generalize xs[k]=x at *;generalize ys[k]=y at *;have hc:=EY x y wr
    by_cases h1:x<y
    ·rw [if_pos h1] at hc;have HR:=Lib.hid (show cmpL xs ys = -1 by rw [HE.out,HX.out,HY.out,cmpL,if_pos h1])
     go_wp2_with (go_at_call 93;refine hc.mono ?_;rintro e w' ⟨rfl,rfl⟩)
     go_ret
     exact ⟨by rw [HR.out];rfl,rfl⟩
    rw [if_neg h1] at hc
    by_cases h2:y<x
    ·rw [if_pos h2] at hc;have HR:=Lib.hid (show cmpL xs ys=1 by rw [HE.out,HX.out,HY.out,cmpL,if_neg h1,if_pos h2])
     go_wp2_with (go_at_call 93;refine hc.mono ?_;rintro e w' ⟨rfl,rfl⟩)
     go_ret
     exact ⟨by rw [HR.out];rfl,rfl⟩
    rw [if_neg h2] at hc;have HR:=Lib.hid (show cmpL xs ys=cmpL (xs.drop<|k+1) (ys.drop<|k+1) by rw [HE.out,HX.out,HY.out,cmpL,if_neg h1,if_neg h2])
    go_wp2_with (go_at_call 93;refine hc.mono ?_;rintro e w' ⟨rfl,rfl⟩)
    go_roundw
    case rel=>exact ⟨k+1,by omega,by omega,by go_num,by first | rfl | trivial,HR.out⟩
    case measure=>simp [intOf];omega
   have hky:k=ys.length:=by omega
   have i3:((ys.length:Int)<=(k:Int)):=by omega
   have HR:=Lib.hid (show cmpL xs ys=1 by rw [HE.out,HX.out,aar (show ys.length<=k by omega)];rfl);clear hky
   go_wp2_with fail
   go_ret
   exact ⟨by rw [HR.out];rfl,rfl⟩
  have hkx:k=xs.length:=by omega
  have HF:=Lib.hid (show cmpL xs ys=cmpL [] (ys.drop xs.length) by rw [HE.out,hkx,List.drop_length]);clear HE;subst hkx
  by_cases hl:xs.length<ys.length
  ·have i3:((xs.length:Int)<(ys.length:Int)):=by omega
   go_wp2_with fail
   go_ret
   exact ⟨by rw [HF.out,aah hl];rfl,rfl⟩
  have i3 : ¬ ((xs.length:Int)<(ys.length:Int)):=by omega
  go_wp2_with fail
  go_ret
  exact ⟨by rw [HF.out,aar (by omega)];rfl,rfl⟩
theorem A8 {w:World} {fz:Nat->Prop} {v:Value} {l:LI} (h:FRel w fz (eL cI l) v):Sl Ru 1 w 0 w.heap.size v l:=by
 have := FV (f:=Ru) (s:=1) (c:=cI) (e:=id) (λ_=>rfl) (λ_=>rfl) h
 rwa [List.map_id] at this
def Rd1 (w:World) (fz:Nat->Prop):Type:={ p:Value×LI // p.1.oneCell'=Uq/\FRel w fz (eL cI p.2) p.1 }
theorem Ny (w:World) (fz:Nat->Prop):FRel w fz (eL cI ([]:LI)) (.slice Ut 0 0):=
 .sl (s:=1) (g:=0) (o:=0) (λ_ _ => .bool Ur) (aaa _) (by decide) (λh=>absurd h<|by simp) (λi h=>absurd h<|by simp) (λi j a h=>absurd h<|by simp) (λi j a h=>absurd h<|by simp) λi j a h=>absurd h (by simp)
instance {w:World} {fz:Nat->Prop}:Inhabited (Rd1 w fz):=⟨⟨(.slice Ut 0 0,[]),rfl,Ny w fz⟩⟩
def GJ {w:World} {fz:Nat->Prop} (x:Rd1 w fz):Value:=x.1.1
def Nz {w:World} {fz:Nat->Prop} (x:Rd1 w fz):LI:=x.1.2
theorem zw {α:Type} [Inhabited α] {enc:α->Value} {w:World} {blk off g:Nat} {d:Array α} (h:g≠blk):(putRow enc w blk off d).heap[g]? = w.heap[g]? := by
 show (w.heap.modify blk _)[g]? = _;rw [aab,if_neg (Ne.symm h)]
theorem EZ {α:Type} [Inhabited α] {enc:α->Value} {w:World} {blk off:Nat} {d:Array α} {cs:Array Value} {t:TypeId} {fr:Nat×Nat} (h:w.heap[blk]? = Us (.cells cs t fr)):(putRow enc w blk off d).heap[blk]? = Us (.cells (putCells enc off d cs) t fr):=by
 show (w.heap.modify blk _)[blk]? = _;rw [aab,if_pos rfl,h]
 rfl
theorem zx {α:Type} [Inhabited α] {enc:α->Value} {w:World} {blk off m g:Nat} {d:Array α} {os:Array Obj} (hg:g<w.heap.size):(sortWorld enc w blk off m d os).heap[g]? = (putRow enc w blk off d).heap[g]? := by
 show ((putRow enc (Sort.ahead w m) blk off d).heap++os)[g]? = _;have hs:(putRow enc (Sort.ahead w m) blk off d).heap.size=w.heap.size:=by rw [size_putRow];rfl
 rw [aap (by rw [hs];exact hg)]
 rfl
theorem wR {α:Type} [Inhabited α] {enc:α->Value} {off:Nat} {d:Array α} {cs:Array Value}:(putCells enc off d cs).size=cs.size:=by simp [putCells]
theorem Ib {α:Type} [Inhabited α] {enc:α->Value} {off:Nat} {d:Array α} {cs:Array Value} {k:Nat} (h:off+d.size<=cs.size) (hk:k<d.size):(putCells enc off d cs)[off+k]? = Us (enc d[k]!):=by
 unfold putCells;rw [aam,aan (by omega)];simp only [Option.map_some];rw [if_pos (by omega),show off+k-off=k by omega]
theorem QU {c:Cx} {blk off size:Nat} (hnf : ¬ c.fz blk) (hlt:∀ g,c.fz g->g<c.w.heap.size):CmpLays1 Uv 51 #[] (GJ (w:=c.w) (fz:=c.fz)) (λx y=>cmpL (Nz x)<|Nz y) blk off size c.w:=by
 intro m os dk hs x y;have hW:∀ g,c.fz g->g<c.w.heap.size->(sortWorld GJ c.w blk off m dk os).heap[g]? = c.w.heap[g]? /\ c.fz g:=λg hg hl=>by
  rw [zx hl,zw (by rintro rfl;exact hnf hg)];exact ⟨rfl,hg⟩
 have hsz:c.w.heap.size<=(sortWorld GJ c.w blk off m dk os).heap.size:=by
  show _<=((putRow GJ (Sort.ahead c.w m) blk off dk).heap++os).size;rw [aag,size_putRow];show c.w.heap.size<=c.w.heap.size+os.size;omega
 have hx:=A8<|x.2.2.mono hsz hW;have hy:=A8<|y.2.2.mono hsz hW;refine (Jp hx hy).mono λe w' ⟨he,hw⟩=>⟨he,0,#[],?_⟩;rw [hw,grow_empty]
 rfl
theorem O8 {c:Cx} (hr:HRel c) {l:LL} {ver:Nat} (hH:c.H=[Us ⟨ver,1,31,l.map<|cL cI⟩]) {u:Value} (hu:c.rel (.hs 0 ver 1 0 l.length) u) (hl:l.length<4611686018427387904) (hn:0<l.length) :
  Calls Uv 50 #[u,.func (.func 51) #[] #[]] c.w λe w'=>∃ c',e = .returned (.tuple #[])/\c'.w=w'/\c'.H=[Us ⟨ver,1,31,(Hm l).map<|cL cI⟩]/\HRel c'/\Ext c c':=by
 have hlv:c.live 0 ⟨ver,1,31,l.map<|cL cI⟩:=by
  unfold Cx.live;rw [hH]
  rfl
 obtain ⟨cs,fr0,hB⟩:=hr.blk 0 _ hlv
 cases hu with
 | fr h=>cases h
 | @hs _ _ _ _ _ cap A hb hc hm h0 h=>
 obtain ⟨f,rfl,hat,hhd⟩:=hB.cells hlv λx hx=>(h x hx).1;obtain ⟨_,_,h3,_⟩:=h _ hhd;have hA:=h3 (by omega);have hfit:(c.φ 0).2+l.length<=cs.size:=by
  have := hB.fits;simpa using this
 have hrow:∀ i (hi:i<l.length),∃ p:Rd1 c.w c.fz,cs[(c.φ 0).2+i]? = Us (GJ p)/\Nz p=l[i]:=λi hi=>by
  obtain ⟨u,g1,g2,g3⟩:=hB.rel i (cL cI l[i]) 0 (eL cI l[i]) (by simp [hi]) rfl;refine ⟨⟨(u,l[i]),g2,zA 1 _ _ rfl g3⟩,?_,rfl⟩;show _=Us u;simpa using g1
 obtain ⟨d,hds,hd1,hd2⟩:∃ d:Array (Rd1 c.w c.fz),d.size=l.length/\(∀ i,i<l.length->cs[(c.φ 0).2+i]? = Us (GJ d[i]!))/\d.toList.map Nz=l:=by
  refine ⟨Array.ofFn (λi:_root_.Fin l.length=>(hrow i.1 i.2).choose),by simp,λi hi=>?_,?_⟩
  ·rw [getElem!_pos _ i (by simpa using hi),aas];exact (hrow i hi).choose_spec.1
  apply List.ext_getElem
  ·simp
  intro i h1 h2;simp only [Z4,Array.getElem_toList,aas];exact (hrow i h2).choose_spec.2
 have hblk:(c.φ 0).1<c.w.heap.size:=hr.live_lt hlv;have hH2:Holds (GJ (w:=c.w) (fz:=c.fz)) c.w (c.φ 0).1 (c.φ 0).2 d:=λj hj=>by
  have hj2:(c.φ 0).2+j<cs.size:=by omega
  refine ⟨?_,?_⟩
  ·simp only [World.cell?,hat];exact hd1 j (by omega)
  have := hB.fre f rfl _ hj2;obtain ⟨lo,hi'⟩:=f;simp only [World.frozen?,hat,aaq,decide_eq_false_iff_not];simp only at this;omega
 have eg:∀ args w,(callFunc 51 args).run Uv w = .ok (.enter 51 args) w:=enters_of func51 (by kernel_rfl) rfl;have hcon:=Any.slices_SortFunc PL (GJ (w:=c.w) (fz:=c.fz)) (λx=>x.2.1) (λx y=>cmpL (Nz x)<|Nz y) (O7 Nz) 51 #[] (c.φ 0).1 (c.φ 0).2 cap d c.w eg (QU (hr.not_fz hlv) hr.lt) hH2 hblk (by omega);rw [hA,show (c.φ 0).2+0*1=(c.φ 0).2 by omega,<- hds];refine (show Calls Uv 50 _ _ _ from hcon).mono ?_;rintro e w' ⟨rfl,d',m,os,hp,hs,rfl⟩;have hds':d'.size=l.length:=hp.1.trans hds;have hpl:d'.toList.Perm d.toList:=by
  have := hp.2.2
  rwa [aat (by omega),aat (by omega)] at this
 have hsl:d'.toList.map Nz=Hm l:=by
  refine zF ((hpl.map Nz).trans<|hd2 ▸ (sN l).symm) ?_<|Ee l;rw [List.pairwise_map,List.pairwise_iff_getElem];intro i j h1 h2 hij;have := hs i j (Z0 _) hij (by rw [hds,<- hds'];simpa using h2);rw [getElem!_pos d' j (by simpa using h2),getElem!_pos d' i (by simpa using h1)] at this;unfold ltOf at this;unfold leL;rw [dte];simpa using this
 have hat':∀ i (hi:i<(Hm l).length),Nz d'[i]! = (Hm l)[i]:=λi hi=>by
  have hi2:i<d'.size:=by
   rw [(sN l).length_eq] at hi;omega
  rw [getElem!_pos d' i hi2];have : (d'.toList.map Nz)[i]? = (Hm l)[i]? := by rw [hsl]
  rw [geq (by simpa using hi2),geq hi] at this;simpa using this
 have hll:(Hm l).length=l.length:=(sN l).length_eq;have he1:Ext c (c.upd 0 ⟨ver,1,31,(Hm l).map (cL cI)⟩ ((c.φ 0).1,(c.φ 0).2) (putCells GJ (c.φ 0).2 d' cs)):=Cx.upd_ext hr hlv hB wR (.inl ⟨rfl,rfl,by simp [hll],rfl⟩);have hr1:=Cx.upd_rel hr hlv hB (k:=⟨ver,1,31,(Hm l).map (cL cI)⟩) (o:=(c.φ 0).2) (cs:=putCells GJ (c.φ 0).2 d' cs) wR rfl he1 Nat.one_pos (by rw [wR];simpa [hll] using hfit) (λi row h=>by
  obtain ⟨x,_,rfl⟩:=by simpa [Z8,aao] using h
  rfl) (λi row j a h1 h2=>by
  have hi:i<(Hm l).length:=by simpa using (ges h1).1
  have hrw:row=cL cI (Hm l)[i]:=by
   have := (ges h1).2;rw [<- this];simp
  subst hrw
  match j,h2 with
  | 0,h2=>
   obtain rfl:=osl h2;refine ⟨GJ d'[i]!,?_,d'[i]!.2.1,?_⟩
   ·have := Ib (enc:=GJ) (off:=(c.φ 0).2) (d:=d') (cs:=cs) (k:=i) (by omega) (by omega);simpa using this
   rw [<- hat' i hi];exact .fr d'[i]!.2.2
  | j+1,h2=>simp [cL] at h2)
 have hbl:Below (c.upd 0 ⟨ver,1,31,(Hm l).map<|cL cI⟩ ((c.φ 0).1,(c.φ 0).2)<|putCells GJ (c.φ 0).2 d' cs).w.heap.size (c.upd 0 ⟨ver,1,31,(Hm l).map<|cL cI⟩ ((c.φ 0).1,(c.φ 0).2)<|putCells GJ (c.φ 0).2 d' cs).w (sortWorld GJ c.w (c.φ 0).1 (c.φ 0).2 m d' os):=by
  have hz:(c.upd 0 ⟨ver,1,31,(Hm l).map<|cL cI⟩ ((c.φ 0).1,(c.φ 0).2)<|putCells GJ (c.φ 0).2 d' cs).w.heap.size=c.w.heap.size:=by simp [Cx.upd]
  refine ⟨rfl,rfl,rfl,?_,λg hg=>?_⟩
  ·rw [hz];show _<=((putRow GJ (Sort.ahead c.w m) (c.φ 0).1 (c.φ 0).2 d').heap++os).size;rw [aag,size_putRow];show c.w.heap.size<=c.w.heap.size+os.size;omega
  rw [hz] at hg;rw [zx hg];show _=(c.w.setRow (c.φ 0).1<|putCells GJ (c.φ 0).2 d' cs).heap[g]?
  by_cases e:g=(c.φ 0).1
  ·subst e;rw [EZ hat,setRow_heap _ _ _ _ _ _ hat]
  rw [zw e,setRow_other _ _ _ _ e]
 obtain ⟨g1,g2⟩:=xJ hr1 hbl (fz':=λ_=>False) (λ_ h=>h.elim) (λ_ h=>h.elim) λ_ _ _ h=>h;refine ⟨_,rfl,rfl,?_,g1,he1.trans g2⟩;show c.H.set 0 _=_;rw [hH]
 rfl
theorem zP (l:LL) (g:Bool) (ver:Nat) (hg:g=Uq->l=[]) {q} (h:iB l=Us q) :
  fu Uv 50 [hS g 0 ver 1 l.length,.fn (.func 51) []] [bE g ver 1 31 (l.map<|cL cI)] (.tup []) [bE g ver 1 31 (q.map<|cL cI)]:=by
 obtain ⟨hl,h⟩:=gdD h;obtain rfl:=osl h;refine ⟨by kernel_rfl,λc vs hH hr hall=>?_⟩;obtain ⟨hsz,hrel⟩:=hall;obtain ⟨u,f,rfl⟩:∃ u f,vs = #[u,f]:=by
  match vs,hsz with
  | ⟨[u,f]⟩,_=>exact ⟨u,f,rfl⟩
 have hu:=hrel 0 _ u rfl rfl;obtain ⟨vs2,rfl,h5,_⟩:=Af<|hrel 1 _ f rfl rfl;obtain rfl:vs2 = #[]:=Array.eq_empty_of_size_eq_zero h5
 by_cases hn:0<l.length
 ·obtain rfl:g=Ur:=by
   cases g with
   | false=>rfl
   | true=>
    rw [hg rfl] at hn;exact absurd hn (by simp)
  refine (O8 hr hH hu hl hn).mono ?_;rintro e w' ⟨c',rfl,hw,hH',h1,h2⟩;exact ⟨_,c',Z,hw,hH',h1,h2,.tup Z λi x y hx=>by simp at hx⟩
 obtain rfl:l=[]:=List.eq_nil_of_length_eq_zero (by omega);obtain ⟨A,cap,rfl⟩:∃ A cap,u = .slice A 0 cap:=by
  cases g with
  | true=>
   cases hu with
   | fr h=>cases h;exact ⟨_,_,rfl⟩
  | false=>
   obtain ⟨A,cap,h6,_⟩:=sI hu;exact ⟨A,cap,h6⟩
 refine (show Calls Uv 50 _ _ _ from AnyF.slices_SortFunc_none { PL with } A cap _ c.w).mono ?_;rintro e w' ⟨rfl,rfl⟩;refine ⟨_,c,Z,Z,?_,hr,Ext.refl c,.tup Z λi x y hx=>by simp at hx⟩;rw [hH,(sN []).eq_nil]

structure TI where
 u:TypeDesc
 ag:Bool
 n:Nat
 zs:List AV
 m:Nat
structure TI.ok (P:Program) (t:TypeId) (x:TI):Prop where
 u:P.underlying t=Us x.u
 ty:TyF P t x.ag x.n
 z:TyZ P t x.zs
 zl:x.zs.length=x.n
 by_:P.bytesOf t=x.m
structure Ent (P:Program) where
 t:TypeId
 x:TI
 ok:TI.ok P t x
def Ent.m {P:Program} {t:TypeId} {u:TypeDesc} (hu:P.underlying t=Us u) (ag:Bool) (n:Nat) (zs:List AV) (m:Nat) (h0:zs.length=n:=by rfl) (h1:Ad P t=ag:=by kernel_rfl) (h2:P.cellsOf t=n:=by kernel_rfl) (h3:(P.info? t).isSome=Uq:=by kernel_rfl)
  (h4:((P.info? t).bind (·.zero)).map dV=Us zs:=by kernel_rfl) (h5:((P.info? t).bind (·.zero)).map (λz=>nD z.cells)=Us Uq:=by kernel_rfl) (h6:P.bytesOf t=m:=by kernel_rfl):Ent P:=
 ⟨t,⟨u,ag,n,zs,m⟩,⟨hu,⟨h1,by rw [hu];rfl,h2,h3⟩,⟨h4,h5⟩,h0,h6⟩⟩
def lk {P:Program}:List (Ent P)->Nat->Option TI
 | [],_=>Ut
 | p::l,t=>bif ZZ p.t t then Us p.x else lk l t
theorem Sa {P:Program} {t:Nat} {x:TI}:∀ {l:List (Ent P)},lk l t=Us x->TI.ok P t x
 | p::l,h=>by
  unfold lk at h
  cases e:ZZ p.t t with
  | true=>
   rw [e] at h;obtain rfl:=osl h;exact Z2 e ▸ p.ok
  | false=>
   rw [e] at h;exact Sa h
class Tab (P:Program) where
 tab:List (Ent P)
abbrev tq (P:Program) [Tab P] (t:Nat):Option TI:=lk (Tab.tab (P:=P)) t
theorem l6 {P:Program} [Tab P] {t:Nat} {x:TI} (h:tq P t=Us x):TI.ok P t x:=Sa h
theorem TI.ok.sl {P:Program} {t e:TypeId} {x y:TI} (h:TI.ok P t x) (g:TI.ok P e y) (hu:x.u = .slice e) (hp:Z1 0 y.n=Uq):SlT P t e y.ag y.n y.zs y.m:=⟨hu ▸ h.u,g.ty,g.z,g.zl,hp,g.by_⟩
abbrev RV:=Option<|Option Prop×AV
def spine {α β:Type}:List α->(List α->β)->β
 | [],K=>K []
 | a::l,K=>spine l λl=>K (a::l)
theorem su {α β:Type}:∀ {l:List α} {K:List α->β},spine l K=K l
 | [],_=>rfl
 | _::l,_=>su (l:=l)
def fcV (x:AV):RV:=match x with
 | .v a=>Us (Ut,.v a)
 | .agg cs=>Us (Ut,.agg cs)
 | .tup xs=>Us (Ut,.tup xs)
 | .nil=>Us (Ut,.nil)
 | .sl n row=>Us (Ut,.sl n row)
 | .fp row j=>Us (Ut,.fp row j)
 | .hs b q s o l=>Us (Ut,.hs b q s o l)
 | .hp b q s i j=>Us (Ut,.hp b q s i j)
 | .mp b s=>Us (Ut,.mp b s)
 | .ifc t x=>Us (Ut,.ifc t x)
 | .fn f cs=>Us (Ut,.fn f cs)
 | .top=>Us (Ut,.top)
theorem Sb (x:AV):fcV x=Us (Ut,x):=by cases x <;> rfl
def Ic (ag:Bool) (n:Nat) (row:List AV) (j:Nat) (K:AV->RV):RV:=match ag with
 | true=>bif Nat.ble (j+n) row.length then spine ((row.drop j).take n) λcs=>K (.agg cs) else Ut
 | false=>match row.drop j with
  | a::_=>K a
  | []=>Ut
theorem yR {ag:Bool} {n:Nat} {row:List AV} {j:Nat} {K:AV->RV} {r:Option Prop×AV} (h:Ic ag n row j K=Us r):∃ a,o7 ag n row j=Us a/\K a=Us r:=by
 unfold Ic at h
 split at h
 ·cases hb:Nat.ble (j+n) row.length with
  | true=>
   rw [hb] at h;rw [cond_true,su] at h;exact ⟨_,by simp only [o7];rw [if_pos (nlb hb)],h⟩
  | false=>rw [hb] at h;cases h
 split at h
 ·rename_i a l hd;refine ⟨a,?_,h⟩;simp only [o7];have := congrArg (λl=>l[0]?) hd;simpa using this
 cases h
def okV (v:AV):RV:=Us (Ut,v)
def cdV (c:Prop) (v:AV):RV:=Us (Us c,v)
def Hol:Option Prop->Prop
 | none=>True
 | some c=>c
def kq (a b:IntKind):Bool:=Uu<|a=b
def evI (op:BinOp) (k:IntKind) (a b:Int):RV:=match op with
 | .add=>cdV (k.wrap (a+b)=a+b) (.v<|.int k<|a+b)
 | .sub=>cdV (k.wrap (a-b)=a-b) (.v<|.int k<|a-b)
 | .mul=>cdV (k.wrap (a*b)=a*b) (.v<|.int k<|a*b)
 | .quo=>cdV (b≠0/\k.wrap (a.tdiv b)=a.tdiv b) (.v<|.int k<|a.tdiv b)
 | .rem=>cdV (b≠0) (.v<|.int k<|a.tmod b)
 | .and=>okV (.v<|.int k<|dY k a b)
 | .or=>okV (.v<|.int k<|bOr k a b)
 | .xor=>okV (.v<|.int k<|Rl k a b)
 | .andNot=>okV (.v<|.int k<|F7 k a b)
 | .eql=>okV (.v<|.bool<|a==b)
 | .neq=>okV (.v<|.bool<|a != b)
 | .lss=>okV (.v<|.bool<|Uu<|a<b)
 | .leq=>okV (.v<|.bool<|Uu<|a<=b)
 | .gtr=>okV (.v<|.bool<|Uu<|b<a)
 | .geq=>okV (.v<|.bool<|Uu<|b<=a)
 | _=>Ut
def evB (op:BinOp) (x y:AV):RV:=match x,y with
 | .v (.int k a),.v (.int k' b)=>(match op with
  | .shl=>cdV (0<=b) (.v<|.int k<|G3 k a b)
  | .shr=>cdV (0<=b) (.v<|.int k<|ij k a b)
  | _=>bif kq k k' then evI op k a b else Ut)
 | .v (.string a),.v (.string b)=>(match op with
  | .add=>cdV (a.size+b.size<=9223372036854775807) (.v<|.string<|a++b)
  | .eql=>okV (.v<|.bool<|Uu<|a=b)
  | .neq=>okV (.v<|.bool<|!decide (a=b))
  | _=>Ut)
 | _,_=>Ut
def opI (ρ:Operand->AV) (x:Option Operand) (d:Int):Option Int:=match x with
 | none=>Us d
 | some o=>match ρ o with
  | .v (.int _ n)=>Us n
  | _=>Ut
def S9 (P:Program) [Tab P] (t:TypeId) (x y:AV):RV:=match tq P t,y with
 | some ⟨u,_,_,_,_⟩,.v (.int _ q)=>(match u,x with
  | .slice e,.sl n row=>(match tq P e with
   | some ⟨_,_,w,_,_⟩=>bif ZZ (row q.toNat).length w then cdV (0<=q/\q<n) (.fp (row q.toNat) 0) else Ut
   | none=>Ut)
  | .slice e,.hs b ver s off len=>(match tq P e with
   | some ⟨_,_,w,_,_⟩=>bif ZZ s w&&ZZ off 0 then cdV (0<=q/\q<len) (.hp b ver s q.toNat 0) else Ut
   | none=>Ut)
  | .array n e,.fp row j=>(match tq P e with
   | some ⟨_,_,w,_,_⟩=>cdV (0<=q/\q<n) (.fp row<|j+q.toNat*w)
   | none=>Ut)
  | .array n e,.hp b ver s i j=>(match tq P e with
   | some ⟨_,_,w,_,_⟩=>cdV (0<=q/\q<n) (.hp b ver s i<|j+q.toNat*w)
   | none=>Ut)
  | _,_=>Ut)
 | _,_=>Ut
def placesOf (P:Program) [Tab P]:List Field->Option (List<|Nat×Nat)
 | []=>Us []
 | f::l=>match tq P f.type,placesOf P l with
  | some x,Us r=>Us ((f.offset,x.n)::r)
  | _,_=>Ut
def QV (P:Program) [Tab P] (t:TypeId) (x:AV):RV:=match tq P t with
 | some ⟨u,_,_,_,_⟩=>(match u,x with
  | .slice _,.sl n _=>okV (I n)
  | .slice _,.hs _ _ _ _ n=>okV (I n)
  | .slice _,.nil=>okV (I 0)
  | .string,.v (.string s)=>okV (I s.size)
  | _,_=>Ut)
 | none=>Ut
def NA (P:Program) [Tab P] (ρ:Operand->AV) (f:Callee) (args:List Operand) (ts:List TypeId):RV:=match f,args,ts with
 | .builtin .len,[x],[t]=>QV P t (ρ x)
 | .builtin .min,[x,y],_=>(match ρ x,ρ y with
  | .v (.int k a),.v (.int _ b)=>okV (.v<|.int k<|if b<a then b else a)
  | _,_=>Ut)
 | .builtin .max,[x,y],_=>(match ρ x,ρ y with
  | .v (.int k a),.v (.int _ b)=>okV (.v<|.int k<|if b>a then b else a)
  | _,_=>Ut)
 | _,_,_=>Ut
def evN (P:Program) [Tab P] (ρ:Operand->AV) (op:Op):RV:=match op with
 | .nilCheck x=>(match ρ x with
  | .fp row j=>okV (.fp row j)
  | .hp b q s i j=>okV (.hp b q s i j)
  | _=>Ut)
 | .load t x=>(match tq P t,ρ x with
  | some ⟨_,ag,n,_,_⟩,.fp row j=>Ic ag n row j okV
  | _,_=>Ut)
 | .binOp op _ x y _=>evB op (ρ x) (ρ y)
 | .unOp op _ x=>(match op,ρ x with
  | .not,.v (.bool b)=>okV (.v<|.bool !b)
  | .neg,.v (.int k n)=>cdV (k.wrap (0-n)=0-n) (.v<|.int k<|0-n)
  | _,_=>Ut)
 | .convert s d x=>(match tq P s,tq P d with
  | some _,Us ⟨u,_,_,_,_⟩=>(match u,ρ x with
   | .int k,.v (.int _ n)=>cdV (k.wrap n=n) (.v<|.int k n)
   | .string,.v (.string b)=>okV (.v<|.string b)
   | _,_=>Ut)
  | _,_=>Ut)
 | .makeInterface t x=>(match tq P t with
  | some ⟨u,_,_,_,_⟩=>(match u with
   | .interface _=>Ut
   | _=>okV (.ifc t (ρ x)))
  | none=>Ut)
 | .makeFunc f first qN=>bif first.size==0 then okV (.fn f<|qN.toList.map ρ) else Ut
 | .fieldAddr t x f=>(match tq P t with
  | some ⟨u,_,_,_,_⟩=>(match u with
   | .struct fs=>(match fs[f]? with
    | some ⟨_,ft,off,_,_,_,_⟩=>(match tq P ft with
     | some ⟨_,_,n,_,_⟩=>bif ZZ n 0 then Ut else (match ρ x with
      | .fp row j=>spine ((row.drop<|j+off).take n) λr=>okV (.fp r 0)
      | .hp b v s i j=>okV (.hp b v s i<|j+off)
      | _=>Ut)
     | none=>Ut)
    | none=>Ut)
   | _=>Ut)
  | none=>Ut)
 | .field t x f=>(match tq P t with
  | some ⟨u,_,_,_,_⟩=>(match u with
   | .struct fs=>(match fs[f]?,ρ x with
    | some ⟨_,ft,off,_,_,_,_⟩,.agg cs=>(match tq P ft with
     | some ⟨_,ag,n,_,_⟩=>Ic ag n cs off okV
     | none=>Ut)
    | _,_=>Ut)
   | _=>Ut)
  | none=>Ut)
 | .indexAddr t x y=>S9 P t (ρ x) (ρ y)
 | .index t x y=>(match tq P t,ρ x,ρ y with
  | some ⟨u,_,_,_,_⟩,.v (.string s),.v (.int _ q)=>(match u with
   | .string=>cdV (0<=q/\q<s.size) (.v<|.int .u8 ((s.data.getD q.toNat 0).toNat:Int))
   | _=>Ut)
  | _,_,_=>Ut)
 | .slice t x lo hi Ut=>(match tq P t,ρ x with
  | some ⟨u,_,_,_,_⟩,.v (.string s)=>(match u,opI ρ lo 0,opI ρ hi s.size with
   | .string,Us l,Us h=>cdV (0<=l/\l<=h/\h<=s.size) (.v<|.string<|s.extract l.toNat h.toNat)
   | _,_,_=>Ut)
  | _,_=>Ut)
 | .extract x i=>(match ρ x with
  | .tup xs=>(match xs.drop i with
   | a::_=>okV a
   | []=>Ut)
  | _=>Ut)
 | .build t parts=>(match tq P t with
  | some ⟨u,_,_,zs,_⟩=>(match u with
   | .struct fs=>(match placesOf P fs.toList with
    | some pl=>(match CL (pl.toArray[·]?) zs (parts.toList.map λp=>(p.1,ρ p.2)) with
     | some cs=>spine cs λcs=>okV (.agg cs)
     | none=>Ut)
    | none=>Ut)
   | _=>Ut)
  | none=>Ut)
 | .call c=>NA P ρ c.callee c.args.toList c.argTypes.toList
 | _=>Ut
section
variable {P:Program} {ρ:Operand->AV} {H:AH}
theorem dZ {v r:AV} {c:Option Prop} (h:okV v=Us (c,r)):c=Ut/\v=r:=by
 injection h with h;injection h with h1 h2;exact ⟨h1.symm,h2⟩
theorem rF {p:Prop} {v r:AV} {c:Option Prop} (h:cdV p v=Us (c,r)):c=Us p/\v=r:=by
 injection h with h;injection h with h1 h2;exact ⟨h1.symm,h2⟩
theorem Sc {op:BinOp} {k:IntKind} {a b:Int} {t u:TypeId} {x y:Operand} {c:Option Prop} {r:AV} (hx:ρ x = .v (.int k a)) (hy:ρ y = .v (.int k b)) (h:evI op k a b=Us (c,r)) (hc:Hol c):TS P ρ (.binOp op t x y u) r:=by
 cases op <;> simp only [evI] at h <;> first
  | (obtain ⟨rfl,rfl⟩:=rF h;first | exact TS.add hx hy hc | exact TS.sub hx hy hc | exact TS.mul hx hy hc | exact TS.quo hx hy hc.1 hc.2 | exact TS.rem hx hy hc)
  | (obtain ⟨rfl,rfl⟩:=dZ h;first | exact TS.band hx hy | exact TS.bor hx hy | exact TS.bxor hx hy | exact TS.bandNot hx hy | exact TS.ieq hx hy | exact TS.ine hx hy | exact TS.ilt hx hy | exact TS.ile hx hy | exact TS.igt hx hy | exact TS.ige hx hy)
  | cases h
theorem Sd {op:BinOp} {t u:TypeId} {x y:Operand} {c:Option Prop} {r:AV} (h:evB op (ρ x) (ρ y)=Us (c,r)) (hc:Hol c):TS P ρ (.binOp op t x y u) r:=by
 unfold evB at h
 split at h
 ·rename_i k a k' b hx hy
  split at h
  ·obtain ⟨rfl,rfl⟩:=rF h;exact TS.shl hx hy hc
  ·obtain ⟨rfl,rfl⟩:=rF h;exact TS.shr hx hy hc
  cases hk:kq k k' with
  | true=>
   rw [hk] at h;obtain rfl:=of_decide_eq_true hk;exact Sc hx hy h hc
  | false=>rw [hk] at h;cases h
 ·rename_i a b hx hy
  split at h
  ·obtain ⟨rfl,rfl⟩:=rF h;exact TS.cat hx hy hc
  ·obtain ⟨rfl,rfl⟩:=dZ h;exact TS.seq hx hy
  ·obtain ⟨rfl,rfl⟩:=dZ h;exact TS.sne hx hy
  cases h
 cases h
theorem PM {o:Option Operand} {d m:Int} (h:opI ρ o d=Us m):bnd ρ o d m:=by
 unfold opI at h
 split at h
 ·exact osl h
 split at h
 ·rename_i k n he;obtain rfl:=osl h;exact ⟨k,he⟩
 cases h
variable [Tab P]
theorem QW {t:TypeId} {x y:Operand} {c:Option Prop} {r:AV} (h:S9 P t (ρ x) (ρ y)=Us (c,r)) (hc:Hol c):TS P ρ (.indexAddr t x y) r:=by
 unfold S9 at h
 split at h
 ·rename_i u _ _ _ _ k q hz hy;have hz:=(l6 hz).u
  split at h
  ·rename_i e n row hx _
   split at h
   ·rename_i w _ _ hf;have hf:=(l6 hf).ty
    cases hb:ZZ (row q.toNat).length w with
    | true=>
     rw [hb] at h;obtain ⟨rfl,rfl⟩:=rF h;exact TS.ixsl hz hf hx hy hc<|Z2 hb
    | false=>rw [hb] at h;cases h
   cases h
  ·rename_i e b ver s off len hx _
   split at h
   ·rename_i w _ _ hf;have hf:=(l6 hf).ty
    cases hb:(ZZ s w&&ZZ off 0) with
    | true=>
     rw [hb] at h;obtain ⟨rfl,rfl⟩:=rF h;rw [bae] at hb;obtain rfl:=Z2 hb.1;obtain rfl:=Z2 hb.2;have := TS.ixhs (P:=P) hz hf hx hy hc
     rwa [Nat.zero_add] at this
    | false=>rw [hb] at h;cases h
   cases h
  ·rename_i n e row j hx _
   split at h
   ·rename_i hf;obtain ⟨rfl,rfl⟩:=rF h;exact TS.ixafp hz (l6 hf).ty hx hy hc
   cases h
  ·rename_i n e b ver s i j hx _
   split at h
   ·rename_i hf;obtain ⟨rfl,rfl⟩:=rF h;exact TS.ixahp hz (l6 hf).ty hx hy hc
   cases h
  cases h
 cases h
theorem Ey:∀ {l:List Field} {pl:List (Nat×Nat)},placesOf P l=Us pl->l.mapM (λf=>(P.info? f.type).map λi=>(f.offset,i.size))=Us pl
 | [],pl,h=>by
  obtain rfl:=osl h
  rfl
 | f::l,pl,h=>by
  unfold placesOf at h
  split at h
  ·rename_i x r hx hr;obtain rfl:=osl h;have h1:=l6 hx;have h2:=Ey hr;have h3:=h1.ty.cells;have h4:=h1.ty.info
   cases hi:P.info? f.type with
   | none=>rw [hi] at h4;cases h4
   | some i=>
    unfold Program.cellsOf at h3;rw [hi] at h3;have h5:i.size=x.n:=by simpa using h3
    simp [List.mapM_cons,hi,h2,h5]
  cases h
theorem O9 {t:TypeId} {x:Operand} {c:Option Prop} {r:AV} (h:QV P t (ρ x)=Us (c,r)):TS P ρ (.call ⟨.builtin .len,#[x],#[t]⟩) r:=by
 unfold QV at h
 split at h
 ·rename_i hz;have hz:=(l6 hz).u
  split at h
  ·obtain ⟨rfl,rfl⟩:=dZ h;exact TS.lensl hz ‹_›
  ·obtain ⟨rfl,rfl⟩:=dZ h;exact TS.lenhs hz ‹_›
  ·obtain ⟨rfl,rfl⟩:=dZ h;exact TS.lennil hz ‹_›
  ·obtain ⟨rfl,rfl⟩:=dZ h;exact TS.lenst hz ‹_›
  cases h
 cases h
theorem NB {cl:Call} {c:Option Prop} {r:AV} (h:NA P ρ cl.callee cl.args.toList cl.argTypes.toList=Us (c,r)):TS P ρ (.call cl) r:=by
 obtain ⟨f,⟨args⟩,⟨ts⟩⟩:=cl;simp only at h;unfold NA at h
 split at h
 ·exact O9 h
 ·split at h
  ·rename_i hx hy;obtain ⟨rfl,rfl⟩:=dZ h;exact TS.min hx hy
  cases h
 ·split at h
  ·rename_i hx hy;obtain ⟨rfl,rfl⟩:=dZ h;exact TS.max hx hy
  cases h
 cases h
theorem xg {op:Op} {c:Option Prop} {r:AV} (h:evN P ρ op=Us (c,r)) (hc:Hol c):TS P ρ op r:=by
 unfold evN at h
 split at h
 ·split at h
  ·rename_i he;obtain ⟨rfl,rfl⟩:=dZ h;exact TS.nilfp he
  ·rename_i he;obtain ⟨rfl,rfl⟩:=dZ h;exact TS.nilhp he
  cases h
 ·split at h
  ·rename_i hz hx;obtain ⟨a,ha,h⟩:=yR h;obtain ⟨rfl,rfl⟩:=dZ h;exact TS.loadfp _ (l6 hz).ty hx ha
  cases h
 ·exact Sd h hc
 ·split at h
  ·rename_i hx;obtain ⟨rfl,rfl⟩:=dZ h;exact TS.not hx
  ·rename_i hx;obtain ⟨rfl,rfl⟩:=rF h;exact TS.neg hx hc
  cases h
 ·split at h
  ·rename_i hs hd
   split at h
   ·rename_i hx;obtain ⟨rfl,rfl⟩:=rF h;exact TS.iconv (l6 hs).ty.und (l6 hd).u hx hc
   ·rename_i hx;obtain ⟨rfl,rfl⟩:=dZ h;exact TS.sconv (l6 hs).ty.und (l6 hd).u hx
   cases h
  cases h
 ·split at h
  ·rename_i hz
   split at h
   ·cases h
   rename_i hn;obtain ⟨rfl,rfl⟩:=dZ h;exact TS.mkifc _ (l6 hz).u hn rfl
  cases h
 ·rename_i f first qN
  cases hb:first.size==0 with
  | true=>
   rw [hb] at h;obtain ⟨rfl,rfl⟩:=dZ h;exact TS.mkfn _ hb rfl
  | false=>rw [hb] at h;cases h
 ·split at h
  ·rename_i hz
   split at h
   ·rename_i fs
    split at h
    ·rename_i ft off _ _ _ _ hfl
     split at h
     ·rename_i n _ _ hy
      cases hb:ZZ n 0 with
      | true=>rw [hb] at h;cases h
      | false=>
       rw [hb] at h;have hne:(P.cellsOf ft != 0)=Uq:=by
        rw [(l6 hy).ty.cells]
        cases n with
        | zero=>cases hb
        | succ k=>rfl
       simp only [cond_false] at h
       split at h
       ·rename_i hx;rw [su] at h;obtain ⟨rfl,rfl⟩:=dZ h;exact TS.fafpS n (l6 hz).u hfl hne hx rfl
       ·rename_i hx;obtain ⟨rfl,rfl⟩:=dZ h;exact TS.fahp (l6 hz).u hfl hne hx
       cases h
     cases h
    cases h
   cases h
  cases h
 ·split at h
  ·rename_i hz
   split at h
   ·split at h
    ·rename_i hfl hx
     split at h
     ·rename_i hy;obtain ⟨a,ha,h⟩:=yR h;obtain ⟨rfl,rfl⟩:=dZ h;exact TS.field _ (l6 hz).u hfl (l6 hy).ty hx ha
     cases h
    cases h
   cases h
  cases h
 ·exact QW h hc
 ·split at h
  ·rename_i hz hx hy
   split at h
   ·obtain ⟨rfl,rfl⟩:=rF h;exact TS.ixst (l6 hz).u hx hy hc
   cases h
  cases h
 ·split at h
  ·rename_i hz hx
   split at h
   ·rename_i hl hq;obtain ⟨rfl,rfl⟩:=rF h;exact TS.slst (l6 hz).u hx (PM hl) (PM hq) hc
   cases h
  cases h
 ·split at h
  ·rename_i hx
   split at h
   ·rename_i i _ xs _ a l ha;obtain ⟨rfl,rfl⟩:=dZ h;exact TS.ext _ hx (by have := congrArg (λl=>l[0]?) ha;rw [List.getElem?_drop] at this;simpa using this)
   cases h
  cases h
 ·split at h
  ·rename_i hz
   split at h
   ·rename_i fs
    split at h
    ·rename_i pl hpl
     split at h
     ·rename_i cs hcs;rw [su] at h;obtain ⟨rfl,rfl⟩:=dZ h;have hz:=l6 hz;have hu':P.underlying _=Us (.struct fs):=hz.u;exact TS.build _ hu' hz.z ⟨by rw [hu'];exact Ey hpl⟩ rfl hcs
     cases h
    cases h
   cases h
  cases h
 ·exact NB h
 cases h
def evA (P:Program) [Tab P] (H:AH) (op:Op):Option (AV×AH):=match op with
 | .alloc t=>(match tq P t with
  | some ⟨_,_,n,zs,_⟩=>bif Z1 0 n then spine (H++[Us ⟨0,n,t,[zs]⟩]) λG=>Us (.hp H.length 0 n 0 0,G) else Ut
  | none=>Ut)
 | _=>Ut
omit [Tab P] in
theorem TJ {t:TypeId} {zs:List AV} {n b:Nat} (z:TyZ P t zs) (hl:zs.length=n) (hn:Z1 0 n=Uq) (hb:H.length=b):EvA P ρ (.alloc t) H (.hp b 0 n 0 0) (H++[Us ⟨0,n,t,[zs]⟩]):=by
 subst hl;exact EvA.al z hn hb
theorem Se {op:Op} {r:AV} {H':AH} (h:evA P H op=Us (r,H')):EvA P ρ op H r H':=by
 unfold evA at h
 split at h
 ·split at h
  ·rename_i n zs _ hz
   cases hb:Z1 0 n with
   | true=>
    rw [hb,cond_true,su] at h;obtain ⟨rfl,rfl⟩:=Prod.mk.inj<|osl h;exact TJ (l6 hz).z (l6 hz).zl hb rfl
   | false=>rw [hb] at h;cases h
  cases h
 cases h
def evL (P:Program) [Tab P] (ρ:Operand->AV) (H:AH) (op:Op):Option (Nat×Nat×Nat×AV):=match op with
 | .load t x=>(match tq P t,ρ x with
  | some ⟨_,ag,n,_,_⟩,.hp b ver s i j=>(match H[b]? with
   | some (Us ⟨sF,s',_,rows⟩)=>bif ZZ s' s then (match rows[i]? with
    | some row=>(match Ic ag n row j okV with
     | some (Ut,a)=>Us (b,sF,ver,a)
     | _=>Ut)
    | none=>Ut) else Ut
   | _=>Ut)
  | _,_=>Ut)
 | _=>Ut
theorem NC {op:Op} {b ver sF:Nat} {r:AV} (h:evL P ρ H op=Us (b,sF,ver,r)) (hv:sF=ver):∀ G:AH,agree [b] G H->EvA P ρ op G r G:=by
 intro G hG;unfold evL at h
 split at h
 ·split at h
  ·rename_i b' _ s i j hz hx
   split at h
   ·rename_i _ s' _ rows hk
    cases hb:ZZ s' s with
    | true=>
     rw [hb] at h;simp only [cond_true] at h
     split at h
     ·rename_i row hrow
      split at h
      ·rename_i a ha;obtain ⟨a',ha',h'⟩:=yR ha;obtain ⟨_,rfl⟩:=dZ h';injection h with h;injection h with h1 h;injection h with h2 h;injection h with h3 h;subst h1 h2 h3 h;exact EvA.loadhp _ (l6 hz).ty hx (hG.a0 hk) hv (Z2 hb) hrow ha'
      cases h
     cases h
    | false=>rw [hb] at h;cases h
   cases h
  cases h
 cases h
def evS (P:Program) [Tab P] (ρ:Operand->AV) (H:AH) (op:Op):Option (Nat×Nat×ABlk):=match op with
 | .store t x y=>(match tq P t,ρ x,(ρ y).cells with
  | some ⟨_,_,n,_,_⟩,.hp b ver s i j,Us cs=>(match H[b]? with
   | some (Us ⟨sF,s',ty,rows⟩)=>bif ZZ s' s&&ZZ cs.length n&&Nat.ble (j+n) s&&Z1 b H.length then (match rows[i]? with
    | some row=>spine (splice row j cs) λr=>spine (rows.set i r) λrows=>Us (b,ver,⟨sF,s',ty,rows⟩)
    | none=>Ut) else Ut
   | _=>Ut)
  | _,_,_=>Ut)
 | _=>Ut
theorem ND {op:Op} {b ver:Nat} {k':ABlk} (h:evS P ρ H op=Us (b,ver,k')) (hv:k'.ver=ver):Z1 b H.length=Uq/\∀ G:AH,agree [b] G H->EvA P ρ op G .top (G.set b<|Us k'):=by
 unfold evS at h
 split at h
 ·split at h
  ·rename_i n _ _ b' _ s i j cs hz hx hy
   split at h
   ·rename_i sF s' ty rows hk
    cases hb:(ZZ s' s&&ZZ cs.length n&&Nat.ble (j+n) s&&Z1 b' H.length) with
    | true=>
     rw [hb] at h;simp only [cond_true] at h
     split at h
     ·rename_i row hrow;rw [su,su] at h;injection h with h;injection h with h1 h;injection h with h2 h;subst h1 h2 h;simp only [bae] at hb;obtain ⟨⟨⟨h2,h3⟩,h4⟩,h5⟩:=hb;exact ⟨h5,λG hG=>EvA.st _ (l6 hz).ty hx hy (hG.a0 hk) hv (Z2 h2) hrow (Z2 h3) h4 rfl⟩
     cases h
    | false=>rw [hb] at h;cases h
   cases h
  cases h
 cases h
end
def Ie:List (Nat×AV)->Nat->Option AV
 | [],_=>Ut
 | (u,v)::l,t=>bif ZZ t u then Us v else Ie l t
theorem yS {t:Nat} {v:AV}:∀ {en:List (Nat×AV)},Ie en t=Us v->ak en t=v
 | (u,w)::l,h=>by
  unfold Ie at h;show (bif ZZ t u then w else ak l t)=v
  cases e:ZZ t u with
  | true=>rw [e] at h;exact osl h
  | false=>rw [e] at h;exact yS h
def opE (en:List<|Nat×AV) (x:Operand):Option AV:=match x with
 | .tmp t=>Ie en t
 | x=>(match fcV (rho (ak en) x) with
  | some (_,v)=>Us v
  | none=>Ut)
theorem ic {en:List (Nat×AV)} {x:Operand} {v:AV} (h:opE en x=Us v):rho (ak en) x=v:=by
 unfold opE at h
 split at h
 ·exact yS h
 rw [Sb] at h;exact osl h
theorem agree.refl {F:List Nat} {H:AH}:agree F H H:=⟨rfl,λ_ _=>rfl⟩
section
variable {P:Program} {nt b0:Nat} {Q:Exit->Env->AH->Prop} {H H':AH} {x:Operand} {t:TypeId} {cs:List AV} {ops:Array Oper} {l:List Oper} {d:Tmp} {op:Op} {ty:TypeId} {pos:String} {af:Array Edge} {en:List (Nat×AV)} {v:AV} {c:Prop} {b ver sF:Nat} {k':ABlk}
theorem eM (h:opE en x=Us v) (k:TO P nt b0 ops l Q (ak ((d,v)::en)) H):TO P nt b0 ops (⟨Us d,.move x,ty,pos,af,Ut⟩::l) Q (ak en) H:=oN (TS.mv _<|ic h) k
theorem eR (h:opE en x=Us v) (k:TO P nt b0 ops l Q (ak ((d,v)::en)) H):TO P nt b0 ops (⟨Us d,.assign x,ty,pos,af,Ut⟩::l) Q (ak en) H:=oN (TS.asg _<|ic h) k
theorem fM {fp:Nat->Fp} {i:Nat} {K:Env->AH->Prop} (h:opE en x=Us v) (hf:fp i=([],Ur)) (k:TF P fp (i+1) l K (ak ((d,v)::en)) H):TF P fp i (⟨Us d,.move x,ty,pos,af,Ut⟩::l) K (ak en) H:=fN hf (TS.mv _<|ic h) k
theorem fA {fp:Nat->Fp} {i:Nat} {K:Env->AH->Prop} (h:opE en x=Us v) (hf:fp i=([],Ur)) (k:TF P fp (i+1) l K (ak ((d,v)::en)) H):TF P fp i (⟨Us d,.assign x,ty,pos,af,Ut⟩::l) K (ak en) H:=fN hf (TS.asg _<|ic h) k
theorem eB (hx:(rho (ak en) x).cells=Us cs) (hn:Z1 0 cs.length=Uq) (k:TO P nt b0 ops l Q (ak ((d,.hp H.length 0 cs.length 0 0)::en))<|H++[Us ⟨0,cs.length,t,[cs]⟩]):TO P nt b0 ops (⟨Us d,.box t x,ty,pos,af,Ut⟩::l) Q (ak en) H:=oA (EvA.bx hx hn rfl) k
theorem eF (hx:(rho (ak en) x).cells=Us cs) (hn:(Z1 0 cs.length)=Uq) (hF:cs.all (isF 9)=Uq) (k:TO P nt b0 ops l Q (ak ((d,.fp cs 0)::en)) H):TO P nt b0 ops (⟨Us d,.box t x,ty,pos,af,Ut⟩::l) Q (ak en) H:=oN (TS.bxF cs hx hn hF) k
variable [Tab P]
theorem eN (h:evN P (rho<|ak en) op=Us (Ut,v)) (k:TO P nt b0 ops l Q (ak ((d,v)::en)) H):TO P nt b0 ops (⟨Us d,op,ty,pos,af,Ut⟩::l) Q (ak en) H:=oN (xg h trivial) k
theorem eG (h:evN P (rho<|ak en) op=Us (Us c,v)) (hc:c) (k:TO P nt b0 ops l Q (ak ((d,v)::en)) H):TO P nt b0 ops (⟨Us d,op,ty,pos,af,Ut⟩::l) Q (ak en) H:=oN (xg h hc) k
theorem eA (h:evA P H op=Us (v,H')) (k:TO P nt b0 ops l Q (ak ((d,v)::en)) H'):TO P nt b0 ops (⟨Us d,op,ty,pos,af,Ut⟩::l) Q (ak en) H:=oA (Se h) k
theorem eL_ (h:evL P (rho<|ak en) H op=Us (b,sF,ver,v)) (hv:sF=ver) (k:TO P nt b0 ops l Q (ak ((d,v)::en)) H):TO P nt b0 ops (⟨Us d,op,ty,pos,af,Ut⟩::l) Q (ak en) H:=oA (NC h hv H .refl) k
theorem eS (h:evS P (rho<|ak en) H op=Us (b,ver,k')) (hv:k'.ver=ver) (hs:spine (H.set b<|Us k') Us=Us H') (k:TO P nt b0 ops l Q (ak en) H'):TO P nt b0 ops (⟨Ut,op,ty,pos,af,Ut⟩::l) Q (ak en) H:=by
 rw [su] at hs;obtain rfl:=osl hs;exact oV ((ND h hv).2 H .refl) k
theorem hN {j:Nat} {w q:Bool} (hy:fw ops.toList (ak en) j = .v (.bool q)) (hq:q=w) (h:evN P (rho<|ak en) op=Us (Ut,v)) (k:TO P nt b0 ops l Q (ak ((d,v)::en)) H):TO P nt b0 ops (⟨Us d,op,ty,pos,af,Us (j,w)⟩::l) Q (ak en) H:=gN hy hq (xg h trivial) k
theorem hG {j:Nat} {w q:Bool} (hy:fw ops.toList (ak en) j = .v (.bool q)) (hq:q=w) (h:evN P (rho<|ak en) op=Us (Us c,v)) (hc:c) (k:TO P nt b0 ops l Q (ak ((d,v)::en)) H):TO P nt b0 ops (⟨Us d,op,ty,pos,af,Us (j,w)⟩::l) Q (ak en) H:=gN hy hq (xg h hc) k
variable {fp:Nat->Fp} {i:Nat} {K:Env->AH->Prop} {F:List Nat}
theorem fN' (h:evN P (rho<|ak en) op=Us (Ut,v)) (hf:fp i=([],Ur)) (k:TF P fp (i+1) l K (ak ((d,v)::en)) H):TF P fp i (⟨Us d,op,ty,pos,af,Ut⟩::l) K (ak en) H:=fN hf (xg h trivial) k
theorem fG' (h:evN P (rho<|ak en) op=Us (Us c,v)) (hf:fp i=([],Ur)) (hc:c) (k:TF P fp (i+1) l K (ak ((d,v)::en)) H):TF P fp i (⟨Us d,op,ty,pos,af,Ut⟩::l) K (ak en) H:=fN hf (xg h hc) k
theorem fL' (h:evL P (rho<|ak en) H op=Us (b,sF,ver,v)) (hv:sF=ver) (hf:fp i=([b],Ur)) (k:TF P fp (i+1) l K (ak ((d,v)::en)) H):TF P fp i (⟨Us d,op,ty,pos,af,Ut⟩::l) K (ak en) H:=fR [b] hf (λG hG=>NC h hv G hG) k
theorem fS' (h:evS P (rho<|ak en) H op=Us (b,ver,k')) (hv:k'.ver=ver) (hs:spine (H.set b<|Us k') Us=Us H') (hf:fp i=([b],Uq)) (k:TF P fp (i+1) l K (ak en) H'):TF P fp i (⟨Ut,op,ty,pos,af,Ut⟩::l) K (ak en) H:=by
 rw [su] at hs;obtain rfl:=osl hs;exact fV b [] hf (ND h hv).1 (λG hG=>(ND h hv).2 G hG) k
end
open Go.RowKit
end
end Go.Proofs.YtdmahcaohkplcaaGreatDoor
