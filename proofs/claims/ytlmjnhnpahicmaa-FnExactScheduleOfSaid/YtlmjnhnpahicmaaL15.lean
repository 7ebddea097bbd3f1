/-
 Regions that draw their order, with operations that are guarded. Plain theorems over any program. No conditions.
-/
import Derived.Test.YtlmjnhnpahicmaaGC
namespace Go.Proofs.Ytlmjnhnpahicmaa
open Go.RowKit
def WantE (ops:Array Oper) (e:Env) (o:Oper) (w:Bool):Prop:=match o.guard with
 | none=>w=true
 | some (j,b)=>(∃ q,ayield ops.toList e j = .v (.bool q)/\w=(q==b))\/(ayield ops.toList e j = .tup []/\w=false)
theorem WantE.wants {ops:Array Oper} {e:Env} {o:Oper} {w:Bool} (h:WantE ops e o w):Wants ops e o w:=by
 unfold WantE at h
 cases hg:o.guard with
 | none=>
  rw [hg] at h
  subst h
  exact .free hg
 | some x=>
  obtain ⟨j,b⟩:=x
  rw [hg] at h
  rcases h with ⟨q,h1,h2⟩ | ⟨h1,h2⟩
  ·subst h2
   by_cases e1:q=b
   ·subst e1
    rw [beq_self_eq_true]
    exact .yes hg h1 rfl
   ·have e2:(q==b)=false:=by simpa using e1
    rw [e2]
    exact .no hg h1 (by cases q <;> cases b <;> simp_all)
  ·subst h2
   exact .un hg h1
theorem WantE.congr {ops:Array Oper} {e e':Env} {o:Oper} {w:Bool} (h:WantE ops e o w) (he:∀ t∈o.looksAt ops,e t=e' t):WantE ops e' o w:=by
 unfold WantE at h ⊢
 cases hg:o.guard with
 | none=>rw [hg] at h;exact h
 | some x=>
  obtain ⟨j,b⟩:=x
  rw [hg] at h
  have hy:ayield ops.toList e' j=ayield ops.toList e j:=by
   unfold ayield
   cases hd:(ops.toList[j]?).bind (·.dst) with
   | none=>rfl
   | some d=>
    refine (he d ?_).symm
    unfold Oper.looksAt
    rw [hg]
    refine List.mem_append_right _ ?_
    have : (ops[j]?).bind (·.dst)=some d:=by simpa using hd
    show d∈((ops[j]?).bind (·.dst)).toList
    rw [this]
    simp
  simp only [hy]
  exact h
theorem rho_looks {ops:Array Oper} {e e':Env} {o:Oper} (he:∀ t∈o.looksAt ops,e t=e' t):∀ x∈o.op.operands,rho e x=rho e' x:=by
 intro x hx
 cases x with
 | tmp t=>exact he t (List.mem_append_left _ (List.mem_filterMap.2 ⟨.tmp t,by simpa using hx,rfl⟩))
 | _=>rfl
theorem env_apart {ops:Array Oper} {e:Env} {oi oj:Oper} {r:AV} (h:∀ d,oi.dst=some d->d∉oj.looksAt ops):∀ t∈oj.looksAt ops,eset e oi.dst r t=e t:=by
 intro t ht
 cases hd:oi.dst with
 | none=>rfl
 | some d=>
  rw [eset_some]
  show (if t=d then r else e t)=e t
  have hne:t≠d:=by
   rintro rfl
   exact h t hd ht
  rw [if_neg hne]
def OpSG (P:Program) (ops:Array Oper) (o:Oper) (e:Env) (H:AH) (r:AV) (H':AH):Prop:=(WantE ops e o true/\OpS P o (rho e) H r H')\/(WantE ops e o false/\r = .tup []/\H'=H)
theorem OpSG.congr {P:Program} {ops:Array Oper} {o:Oper} {e e':Env} {H H':AH} {r:AV} (h:OpSG P ops o e H r H') (he:∀ t∈o.looksAt ops,e t=e' t):OpSG P ops o e' H r H':=by
 rcases h with ⟨h1,h2⟩ | ⟨h1,h2⟩
 ·exact .inl ⟨h1.congr he,h2.congr (rho_looks he)⟩
 ·exact .inr ⟨h1.congr he,h2⟩
def StepG (P:Program) (ops:Array Oper) (o:Oper) (e:Env) (H:AH) (r:AV) (H':AH) (F:List Nat):Prop:=
 H'.length=H.length/\(∀ b,b∉F->H'[b]? = H[b]?)/\∀ G,agree F G H->∃ G',G'.length=G.length/\(∀ b∈F,G'[b]? = H'[b]?)/\(∀ b,b∉F->G'[b]? = G[b]?)/\OpSG P ops o e G r G'
section
variable {P:Program} {ops:Array Oper} {o:Oper} {e:Env} {H H':AH} {r:AV} {F:List Nat}
theorem StepG.op (h:StepG P ops o e H r H' F):OpSG P ops o e H r H':=by
 obtain ⟨h1,h2,h3⟩:=h
 obtain ⟨G',g1,g2,g3,g4⟩:=h3 H ⟨rfl,fun _ _=>rfl⟩
 have : G'=H':=by
  apply List.ext_getElem?
  intro b
  by_cases hb:b∈F
  ·exact g2 b hb
  ·rw [g3 b hb,h2 b hb]
 exact this ▸ g4
theorem StepG.congr {e':Env} (h:StepG P ops o e H r H' F) (he:∀ t∈o.looksAt ops,e t=e' t):StepG P ops o e' H r H' F:=by
 obtain ⟨h1,h2,h3⟩:=h
 refine ⟨h1,h2,fun G hG => ?_⟩
 obtain ⟨G',g1,g2,g3,g4⟩:=h3 G hG
 exact ⟨G',g1,g2,g3,g4.congr he⟩
theorem StepG.at_ {G:AH} (h:StepG P ops o e H r H' F) (hG:agree F G H):∃ G',G'.length=G.length/\(∀ b∈F,G'[b]? = H'[b]?)/\(∀ b,b∉F->G'[b]? = G[b]?)/\StepG P ops o e G r G' F:=by
 obtain ⟨h1,h2,h3⟩:=h
 obtain ⟨G',g1,g2,g3,g4⟩:=h3 G hG
 refine ⟨G',g1,g2,g3,g1,g3,fun K hK => ?_⟩
 obtain ⟨K',k1,k2,k3,k4⟩:=h3 K ⟨hK.1.trans hG.1,fun b hb=>(hK.2 b hb).trans (hG.2 b hb)⟩
 exact ⟨K',k1,fun b hb=>(k2 b hb).trans (g2 b hb).symm,k3,k4⟩
theorem StepG.ofF (hw:WantE ops e o true) (h:StepF P o (rho e) H r H' F):StepG P ops o e H r H' F:=by
 obtain ⟨h1,h2,h3⟩:=h
 refine ⟨h1,h2,fun G hG => ?_⟩
 obtain ⟨G',g1,g2,g3,g4⟩:=h3 G hG
 exact ⟨G',g1,g2,g3,.inl ⟨hw,g4⟩⟩
theorem StepG.skip (hw:WantE ops e o false) (F:List Nat):StepG P ops o e H (.tup []) H F:=⟨rfl,fun _ _=>rfl,fun G hG=>⟨G,rfl,hG.2,fun _ _=>rfl,.inr ⟨hw,rfl,rfl⟩⟩⟩
def gAny (P:Program) (ops:Array Oper) (fp:Nat->Fp) (Q:Env->AH->Prop):Nat->Array Bool->Env->AH->Prop
 | 0,listed,e,H=>Region.ready .any ops listed=[]/\Q e H
 | fuel+1,listed,e,H=>(Region.ready .any ops listed=[]->Q e H) /\
  ∀ i∈Region.ready .any ops listed,∃ o r H',ops[i]? = some o/\StepG P ops o e H r H' (fp i).1/\((fp i).2=false->H'=H)/\gAny P ops fp Q fuel (listed.setIfInBounds i true) (eset e o.dst r) H'
theorem gAny_first {ops:Array Oper} {fp:Nat->Fp} {Q:Env->AH->Prop} {i:Nat} {oi:Oper} {r:AV} (hi:ops[i]? = some oi) :
  ∀ (fuel:Nat) (listed:Array Bool) (e:Env) (H Hi:AH),
   (∀ (j:Nat) (oj:Oper),ops[j]? = some oj->j≠i->listed.getD j true=false->(∀ ed∈oj.after,Region.binds .any ed=true->ed.on≠i)->oi.apart ops oj=true/\compatF (fp i) (fp j)=true) ->
   i∈Region.ready .any ops listed->StepG P ops oi e H r Hi (fp i).1->((fp i).2=false->Hi=H)->gAny P ops fp Q fuel (listed.setIfInBounds i true) (eset e oi.dst r) Hi->gAny P ops fp Q (fuel+1) listed e H:=by
 intro fuel
 induction fuel with
 | zero=>
  intro listed e H Hi _ hr hy hro hA
  refine ⟨fun h=>(by rw [h] at hr;cases hr),fun j hj => ?_⟩
  by_cases hji:j=i
  ·subst hji;exact ⟨oi,r,Hi,hi,hy,hro,hA⟩
  ·have := ready_mono hj hji
   rw [hA.1] at this
   cases this
 | succ fuel ih=>
  intro listed e H Hi hfree hr hy hro hA
  refine ⟨fun h=>(by rw [h] at hr;cases hr),fun j hj => ?_⟩
  by_cases hji:j=i
  ·subst hji;exact ⟨oi,r,Hi,hi,hy,hro,hA⟩
  ·obtain ⟨oj,q,Hj,hoj,hsj,hroj,hAj⟩:=hA.2 j (ready_mono hj hji)
   obtain ⟨hjun,oj',hoj',hall⟩:=mem_ready.1 hj
   rw [hoj] at hoj'
   injection hoj' with hoj'
   subst hoj'
   have hnot:∀ ed∈oj.after,Region.binds .any ed=true->ed.on≠i:=fun ed he hb heq=>by
    have h1:=hall ed he hb
    have h0:=(mem_ready.1 hr).1
    rw [heq] at h1
    rcases Nat.lt_or_ge i listed.size with h' | h'
    ·simp [h'] at h0 h1;rw [h0] at h1;cases h1
    ·simp [Array.getElem?_eq_none h'] at h1
   obtain ⟨hap,hcm⟩:=hfree j oj hoj hji hjun hnot
   obtain ⟨h1,h2,h3⟩:=Oper.apart_spec hap
   have ej:=env_apart (e:=e) (r:=r) h1
   have ei:=env_apart (e:=e) (oi:=oj) (r:=q) h3
   have hsj':=hsj.congr ej
   have hfree':∀ (k:Nat) (ok:Oper),ops[k]? = some ok->k≠i->(listed.setIfInBounds j true).getD k true=false->(∀ ed∈ok.after,Region.binds .any ed=true->ed.on≠i)->oi.apart ops ok=true/\compatF (fp i) (fp k)=true:=fun k ok hk hki hun hno=>by
    refine hfree k ok hk hki ?_ hno
    by_cases hjk:j=k
    ·subst hjk;exact hjun
    ·rw [getD_set_ne true hjk] at hun;exact hun
   have fin:∀ Hj',StepG P ops oj e H q Hj' (fp j).1->((fp j).2=false->Hj'=H)->StepG P ops oi e Hj' r Hj (fp i).1->((fp i).2=false->Hj=Hj')->∃ o r' H',ops[j]? = some o/\StepG P ops o e H r' H' (fp j).1/\((fp j).2=false->H'=H)/\gAny P ops fp Q (fuel+1) (listed.setIfInBounds j true) (eset e o.dst r') H':=fun Hj' s1 s1' s2 s2'=>by
    refine ⟨oj,q,Hj',hoj,s1,s1',ih (listed.setIfInBounds j true) (eset e oj.dst q) Hj' Hj hfree' (ready_mono hr (Ne.symm hji)) (s2.congr fun x hx=>(ei x hx).symm) s2' ?_⟩
    rw [Array.setIfInBounds_comm _ _ hji,eset_comm (fun d hd=>fun hd'=>h2 d (by simpa using hd') (by simpa using hd))]
    exact hAj
   simp only [compatF,Bool.or_eq_true,Bool.and_eq_true,Bool.not_eq_true',List.all_eq_true,List.contains_eq_mem,decide_eq_false_iff_not] at hcm
   rcases hcm with hdis | ⟨w1,w2⟩
   ·have hag:agree (fp j).1 H Hi:=⟨hy.1.symm,fun b hb=>(hy.2.1 b (fun hbi=>hdis b hbi hb)).symm⟩
    obtain ⟨Hj',a1,a2,a3,a4⟩:=hsj'.at_ hag
    have hag2:agree (fp i).1 Hj' H:=⟨a1,fun b hb=>a3 b (hdis b hb)⟩
    obtain ⟨K,b1,b2,b3,b4⟩:=hy.at_ hag2
    have hKH:K=Hj:=by
     apply List.ext_getElem?
     intro b
     by_cases hbi:b∈(fp i).1
     ·rw [b2 b hbi,hsj'.2.1 b (hdis b hbi)]
     ·rw [b3 b hbi]
      by_cases hbj:b∈(fp j).1
      ·exact a2 b hbj
      ·rw [a3 b hbj,hsj'.2.1 b hbj,hy.2.1 b hbi]
    subst hKH
    refine fin Hj' a4 (fun hw => ?_) b4 (fun hw => ?_)
    ·apply List.ext_getElem?
     intro b
     by_cases hbj:b∈(fp j).1
     ·rw [a2 b hbj,hroj hw,hy.2.1 b (fun hbi=>hdis b hbi hbj)]
     ·exact a3 b hbj
    ·apply List.ext_getElem?
     intro b
     by_cases hbi:b∈(fp i).1
     ·rw [b2 b hbi,hro hw,a3 b (hdis b hbi)]
     ·exact b3 b hbi
   ·obtain rfl:=hro w1
    obtain rfl:=hroj w2
    exact fin _ hsj' (fun _=>rfl) hy (fun _=>rfl)
def clsG (ops:Array Oper) (fp:Nat->Fp):Bool:=
 Region.lexB .any ops &&
 (List.range ops.size).all fun i=>(List.range ops.size).all fun j=>decide (j<=i)||compatF (fp i) (fp j)||match ops[j]? with
  | some oj=>oj.after.any fun ed=>Region.binds .any ed&&ed.on==i
  | none=>true
def TG (P:Program) (ops:Array Oper) (fp:Nat->Fp):Nat->List Oper->(Env->AH->Prop)->Env->AH->Prop
 | _,[],K,e,H=>K e H
 | k,o::rest,K,e,H=>∃ r H',StepG P ops o e H r H' (fp k).1/\((fp k).2=false->H'=H)/\TG P ops fp (k+1) rest K (eset e o.dst r) H'
theorem gAny_TF {ops:Array Oper} {fp:Nat->Fp} {Q:Env->AH->Prop} (hc:clsG ops fp=true):∀ (l:List Oper) (k:Nat) (listed:Array Bool) (e:Env) (H:AH),(∀ j,l[j]? = ops[k+j]?)->listed.size=ops.size->(∀ j,j<k->listed.getD j true=true) ->
  Region.lexFrom .any ops l.length k listed=true->TG P ops fp k l Q e H->gAny P ops fp Q l.length listed e H
 | [],k,listed,e,H,_,_,_,hB,h=>⟨by simpa [Region.lexFrom] using hB,h⟩
 | o::l,k,listed,e,H,hl,hsz,hbef,hB,h=>by
  have h0:ops[k]? = some o:=by simpa using (hl 0).symm
  have hk:k<ops.size:=(Array.getElem?_eq_some_iff.1 h0).1
  simp only [List.length_cons,Region.lexFrom,Bool.and_eq_true] at hB
  obtain ⟨⟨hr,hf⟩,hB'⟩:=hB
  obtain ⟨r,H',hs,hro,hK⟩:=h
  refine gAny_first h0 l.length listed e H H' (fun j oj hj hne hun hno=>⟨Region.free_spec h0 hf j oj hj hne hun hno,?_⟩) (by simpa using hr) hs hro
   (gAny_TF hc l (k+1) _ _ _ (fun j=>by have := hl (j+1);simpa [Nat.add_assoc,Nat.add_comm 1 j] using this) (by simpa using hsz) (fun j hj => ?_) hB' hK)
  ·have hjs:j<ops.size:=(Array.getElem?_eq_some_iff.1 hj).1
   have hkj : ¬ j<=k:=fun hle=>by
    have := hbef j (by omega)
    rw [this] at hun
    cases hun
   simp only [clsG,Bool.and_eq_true,List.all_eq_true,List.mem_range] at hc
   have := hc.2 k hk j hjs
   simp only [hj,Bool.or_eq_true,decide_eq_true_eq,hkj,false_or] at this
   rcases this with h1 | h1
   ·exact h1
   ·rw [Array.any_eq_true'] at h1
    obtain ⟨ed,h2,h3⟩:=h1
    simp only [Bool.and_eq_true,beq_iff_eq] at h3
    exact absurd h3.2 (hno ed h2 h3.1)
  ·by_cases e:j=k
   ·subst e
    simp [hsz,hk]
   ·rw [getD_set_ne true (Ne.symm e)]
    exact hbef j (by omega)
theorem gany_sound {nt:Nat} {ops:Array Oper} {fp:Nat->Fp} {Q:Exit->Env->AH->Prop} (hd:dstOk nt ops.toList=true):∀ (fuel:Nat) (listed:Array Bool) (e:Env) (H:AH),gAny P ops fp (Q .normal) fuel listed e H ->
  ∀ (c c0:Cx) (a:Act),c.H=H->Ext c0 c->SRel c nt e a->wpAny P .any ops (Lift nt c0 Q) fuel listed a c.w
 | 0,listed,e,H,h,c,c0,a,hH,hx,hs=>⟨h.1,trivial,c,e,rfl,hx,hs,hH ▸ h.2⟩
 | fuel+1,listed,e,H,h,c,c0,a,hH,hx,hs=>by
  refine ⟨fun hr=>⟨trivial,c,e,rfl,hx,hs,hH ▸ h.1 hr⟩,fun i hi => ?_⟩
  obtain ⟨o,r,H',ho,hst,_,hA⟩:=h.2 i hi
  have hm:o∈ops.toList:=by rw [Array.mem_toList_iff];exact Array.mem_of_getElem? ho
  unfold wpOp
  simp only [ho]
  rcases hst.op with ⟨hw,hop⟩ | ⟨hw,rfl,rfl⟩
  ·rw [if_pos (hw.wants nt c a hs)]
   refine .inl (hop c a _ _ hH hs.heap (fun x _=>hs.rho x) fun v c' hH' hr' hx' hv => ?_)
   exact gany_sound hd fuel _ _ H' hA c' c0 _ hH' (hx.trans hx') (hs.put o.dst (dstOk_get hd hm) hx' hr' hv)
  ·rw [hw.wants nt c a hs]
   exact gany_sound hd fuel _ _ _ hA c c0 _ hH hx (hs.put o.dst (dstOk_get hd hm) (Ext.refl c) hs.heap (.tup (vs:=#[]) rfl (fun i q u hq=>by simp at hq)))
end
section
variable {P:Program} {nt b0:Nat} {Q:Exit->Env->AH->Prop} {e:Env} {H H':AH} {r:AV}
theorem T.drawG {i:Nat} {ops:Array Oper} (fp:Nat->Fp) (hm:P.follows .mixedOrders=true) (hc:clsG ops fp=true) (h:TG P ops fp 0 ops.toList (Q .normal) e H):T P nt b0 (.region i ops true) Q e H:=by
 intro hok c c0 a hH hb hx hs
 simp only [codeOk] at hok
 have hc':=hc
 simp only [clsG,Bool.and_eq_true,Region.lexB] at hc'
 refine wp_region_any hm ?_
 have hlex:=gAny_TF hc ops.toList 0 (Array.replicate ops.size false) e H (fun j=>by simp) (by simp) (fun j hj=>absurd hj (by omega)) (by simpa using hc'.1.2) h
 have := gany_sound hok ops.toList.length _ e H hlex c.drew c0 a hH (hx.trans c.drew_ext) ⟨hs.size,hs.defers,fun t=>(hs.rel t).ext hs.heap c.drew_ext,Cx.drew_rel hs.heap⟩
 rw [Array.length_toList] at this
 exact this
variable {ops:Array Oper} {d:Tmp} {op:Op} {ty:TypeId} {pos:String} {af:Array Edge} {en:List (Nat×AV)} {fp:Nat->Fp} {i:Nat} {K:Env->AH->Prop} {l:List Oper}
theorem TG.nil {k:Nat} (h:K e H):TG P ops fp k [] K e H:=h
theorem WantE.y {o:Oper} {j:Nat} {b q:Bool} (hg:o.guard=some (j,b)) (hy:ayield ops.toList e j = .v (.bool q)) (hq:q=b):WantE ops e o true:=by
 unfold WantE
 rw [hg]
 exact .inl ⟨q,hy,by rw [hq];simp⟩
theorem WantE.n {o:Oper} {j:Nat} {b q:Bool} (hg:o.guard=some (j,b)) (hy:ayield ops.toList e j = .v (.bool q)) (hq:q = !b):WantE ops e o false:=by
 unfold WantE
 rw [hg]
 exact .inl ⟨q,hy,by rw [hq];cases b <;> rfl⟩
theorem WantE.u {o:Oper} {j:Nat} {b:Bool} (hg:o.guard=some (j,b)) (hy:ayield ops.toList e j = .tup []):WantE ops e o false:=by
 unfold WantE
 rw [hg]
 exact .inr ⟨hy,rfl⟩
theorem tN (hc:fp i=([],false)) (hv:EvN P (rho (envOf en)) op r) (h:TG P ops fp (i+1) l K (envOf ((d,r)::en)) H):TG P ops fp i (⟨some d,op,ty,pos,af,none⟩::l) K (envOf en) H:=
 ⟨r,H,by rw [hc];exact .ofF rfl (stepF_N hv),fun _=>rfl,h⟩
theorem tR (F:List Nat) (hc:fp i=(F,false)) (hv:∀ G,agree F G H->EvA P (rho (envOf en)) op G r G) (h:TG P ops fp (i+1) l K (envOf ((d,r)::en)) H):TG P ops fp i (⟨some d,op,ty,pos,af,none⟩::l) K (envOf en) H:=
 ⟨r,H,by rw [hc];exact .ofF rfl (stepF_R hv),fun _=>rfl,h⟩
theorem tgN {j:Nat} {b q:Bool} (hy:ayield ops.toList (envOf en) j = .v (.bool q)) (hq:q=b) (hc:fp i=([],false)) (hv:EvN P (rho (envOf en)) op r) (h:TG P ops fp (i+1) l K (envOf ((d,r)::en)) H):TG P ops fp i (⟨some d,op,ty,pos,af,some (j,b)⟩::l) K (envOf en) H:=
 ⟨r,H,by rw [hc];exact .ofF (.y rfl hy hq) (stepF_N hv),fun _=>rfl,h⟩
theorem tgR {j:Nat} {b q:Bool} (hy:ayield ops.toList (envOf en) j = .v (.bool q)) (hq:q=b) (F:List Nat) (hc:fp i=(F,false)) (hv:∀ G,agree F G H->EvA P (rho (envOf en)) op G r G) (h:TG P ops fp (i+1) l K (envOf ((d,r)::en)) H):TG P ops fp i (⟨some d,op,ty,pos,af,some (j,b)⟩::l) K (envOf en) H:=
 ⟨r,H,by rw [hc];exact .ofF (.y rfl hy hq) (stepF_R hv),fun _=>rfl,h⟩
theorem tgS {j:Nat} {b q:Bool} (hy:ayield ops.toList (envOf en) j = .v (.bool q)) (hq:q = !b) (h:TG P ops fp (i+1) l K (envOf ((d,.tup [])::en)) H):TG P ops fp i (⟨some d,op,ty,pos,af,some (j,b)⟩::l) K (envOf en) H:=
 ⟨.tup [],H,.skip (.n rfl hy hq) _,fun _=>rfl,h⟩
theorem tgU {j:Nat} {b:Bool} (hy:ayield ops.toList (envOf en) j = .tup []) (h:TG P ops fp (i+1) l K (envOf ((d,.tup [])::en)) H):TG P ops fp i (⟨some d,op,ty,pos,af,some (j,b)⟩::l) K (envOf en) H:=
 ⟨.tup [],H,.skip (.u rfl hy) _,fun _=>rfl,h⟩
end
end Go.Proofs.Ytlmjnhnpahicmaa
