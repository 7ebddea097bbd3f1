/- Texts joined. No conditions. -/
import Derived.Laws.IdiomStrings
import Derived.Test.YtabfkkjdfhbngaaGreatDoorProg
import Derived.Test.YtabfkkjdfhbngaaGreatDoorW10
namespace Go.Proofs.YtabfkkjdfhbngaaGreatDoor
noncomputable section
open _root_.Inhabited renaming default -> Rh
open _root_.Bool renaming true -> Ri
open _root_.Bool renaming false -> Rj
open _root_.Option renaming some -> Rk
open _root_.Option renaming none -> Rl
open _root_.Decidable renaming decide -> Rm
open _root_.Go.Proofs.Tryz
open _root_.Go.Proofs.Tryz renaming prog -> Rn
open _root_.Nat renaming beq -> Xi, blt -> Xj, eq_of_beq_eq_true -> Xk, ble -> Xl
open _root_.List renaming ext_getElem? -> Xm
open _root_.Array renaming getElem?_eq_some_iff -> Xn
open _root_.Option renaming bind_eq_some_iff -> Xo
open Go.RowKit
def tK (ops:Array Oper) (e:Env) (o:Oper) (w:Bool):Prop:=match o.guard with
 | none=>w=Ri
 | some (j,b)=>(∃ q,eu ops.toList e j = .v (.bool q)/\w=(q==b))\/(eu ops.toList e j = .tup []/\w=Rj)
theorem tK.wants {ops:Array Oper} {e:Env} {o:Oper} {w:Bool} (h:tK ops e o w):yY ops e o w:=by
 unfold tK at h
 cases hg:o.guard with
 | none=>
  rw [hg] at h;subst h;exact .free hg
 | some x=>
  obtain ⟨j,b⟩:=x;rw [hg] at h;rcases h with ⟨q,h1,h2⟩ | ⟨h1,h2⟩
  ·subst h2
   by_cases e1:q=b
   ·subst e1;rw [beq_self_eq_true];exact .yes hg h1 rfl
   have e2:(q==b)=Rj:=by simpa using e1
   rw [e2];exact .no hg h1 (by cases q <;> cases b <;> simp_all)
  subst h2;exact .un hg h1
theorem tK.congr {ops:Array Oper} {e e':Env} {o:Oper} {w:Bool} (h:tK ops e o w) (he:∀ t∈o.looksAt ops,e t=e' t):tK ops e' o w:=by
 unfold tK at h ⊢
 cases hg:o.guard with
 | none=>rw [hg] at h;exact h
 | some x=>
  obtain ⟨j,b⟩:=x;rw [hg] at h;have hy:eu ops.toList e' j=eu ops.toList e j:=by
   unfold eu
   cases hd:(ops.toList[j]?).bind (·.dst) with
   | none=>rfl
   | some d=>
    refine (he d ?_).symm;unfold Oper.looksAt;rw [hg];refine List.mem_append_right _ ?_;have : (ops[j]?).bind (·.dst)=Rk d:=by simpa using hd
    show d∈((ops[j]?).bind (·.dst)).toList;rw [this];simp
  simp only [hy];exact h
theorem KH {ops:Array Oper} {e e':Env} {o:Oper} (he:∀ t∈o.looksAt ops,e t=e' t):∀ x∈o.op.operands,rho e x=rho e' x:=by
 intro x hx
 cases x with
 | tmp t=>exact he t (List.mem_append_left _<|List.mem_filterMap.2 ⟨.tmp t,by simpa using hx,rfl⟩)
 | _=>rfl
theorem Fh {ops:Array Oper} {e:Env} {oi oj:Oper} {r:AV} (h:∀ d,oi.dst=Rk d->d∉oj.looksAt ops):∀ t∈oj.looksAt ops,p7 e oi.dst r t=e t:=by
 intro t ht
 cases hd:oi.dst with
 | none=>rfl
 | some d=>
  rw [xH];show (if t=d then r else e t)=e t;have hne:t≠d:=by
   rintro rfl;exact h t hd ht
  rw [if_neg hne]
def Pp (P:Program) (ops:Array Oper) (o:Oper) (e:Env) (H:AH) (r:AV) (H':AH):Prop:=(tK ops e o Ri/\QO P o (rho e) H r H')\/(tK ops e o Rj/\r = .tup []/\H'=H)
theorem Pp.congr {P:Program} {ops:Array Oper} {o:Oper} {e e':Env} {H H':AH} {r:AV} (h:Pp P ops o e H r H') (he:∀ t∈o.looksAt ops,e t=e' t):Pp P ops o e' H r H':=by
 rcases h with ⟨h1,h2⟩ | ⟨h1,h2⟩
 ·exact .inl ⟨h1.congr he,h2.congr<|KH he⟩
 exact .inr ⟨h1.congr he,h2⟩
def uU (P:Program) (ops:Array Oper) (o:Oper) (e:Env) (H:AH) (r:AV) (H':AH) (F:List Nat):Prop:=
 H'.length=H.length/\(∀ b,b∉F->H'[b]? = H[b]?)/\∀ G,agree F G H->∃ G',G'.length=G.length/\(∀ b∈F,G'[b]? = H'[b]?)/\(∀ b,b∉F->G'[b]? = G[b]?)/\Pp P ops o e G r G'
section
variable {P:Program} {ops:Array Oper} {o:Oper} {e:Env} {H H':AH} {r:AV} {F:List Nat}
theorem uU.op (h:uU P ops o e H r H' F):Pp P ops o e H r H':=by
 obtain ⟨h1,h2,h3⟩:=h;obtain ⟨G',g1,g2,g3,g4⟩:=h3 H ⟨rfl,λ_ _=>rfl⟩;have : G'=H':=by
  apply Xm;intro b
  by_cases hb:b∈F
  ·exact g2 b hb
  rw [g3 b hb,h2 b hb]
 exact this ▸ g4
theorem uU.congr {e':Env} (h:uU P ops o e H r H' F) (he:∀ t∈o.looksAt ops,e t=e' t):uU P ops o e' H r H' F:=by
 obtain ⟨h1,h2,h3⟩:=h;refine ⟨h1,h2,λG hG=>?_⟩;obtain ⟨G',g1,g2,g3,g4⟩:=h3 G hG;exact ⟨G',g1,g2,g3,g4.congr he⟩
theorem uU.at_ {G:AH} (h:uU P ops o e H r H' F) (hG:agree F G H):∃ G',G'.length=G.length/\(∀ b∈F,G'[b]? = H'[b]?)/\(∀ b,b∉F->G'[b]? = G[b]?)/\uU P ops o e G r G' F:=by
 obtain ⟨h1,h2,h3⟩:=h;obtain ⟨G',g1,g2,g3,g4⟩:=h3 G hG;refine ⟨G',g1,g2,g3,g1,g3,λK hK=>?_⟩;obtain ⟨K',k1,k2,k3,k4⟩:=h3 K ⟨hK.1.trans hG.1,λb hb=>(hK.2 b hb).trans<|hG.2 b hb⟩;exact ⟨K',k1,λb hb=>(k2 b hb).trans (g2 b hb).symm,k3,k4⟩
theorem uU.ofF (hw:tK ops e o Ri) (h:rA P o (rho e) H r H' F):uU P ops o e H r H' F:=by
 obtain ⟨h1,h2,h3⟩:=h;refine ⟨h1,h2,λG hG=>?_⟩;obtain ⟨G',g1,g2,g3,g4⟩:=h3 G hG;exact ⟨G',g1,g2,g3,.inl ⟨hw,g4⟩⟩
theorem uU.skip (hw:tK ops e o Rj) (F:List Nat):uU P ops o e H (.tup []) H F:=⟨rfl,λ_ _=>rfl,λG hG=>⟨G,rfl,hG.2,λ_ _=>rfl,.inr ⟨hw,rfl,rfl⟩⟩⟩
def Om (P:Program) (ops:Array Oper) (fp:Nat->Fp) (Q:Env->AH->Prop):Nat->Array Bool->Env->AH->Prop
 | 0,listed,e,H=>Region.ready .any ops listed=[]/\Q e H
 | fuel+1,listed,e,H=>(Region.ready .any ops listed=[]->Q e H) /\
  ∀ i∈Region.ready .any ops listed,∃ o r H',ops[i]? = Rk o/\uU P ops o e H r H' (fp i).1/\((fp i).2=Rj->H'=H)/\Om P ops fp Q fuel (listed.setIfInBounds i Ri) (p7 e o.dst r) H'
theorem IC {ops:Array Oper} {fp:Nat->Fp} {Q:Env->AH->Prop} {i:Nat} {oi:Oper} {r:AV} (hi:ops[i]? = Rk oi) :
  ∀ (fuel:Nat) (listed:Array Bool) (e:Env) (H Hi:AH),
   (∀ (j:Nat) (oj:Oper),ops[j]? = Rk oj->j≠i->listed.getD j Ri=Rj->(∀ ed∈oj.after,Region.binds .any ed=Ri->ed.on≠i)->oi.apart ops oj=Ri/\oQ (fp i) (fp j)=Ri) ->
   i∈Region.ready .any ops listed->uU P ops oi e H r Hi (fp i).1->((fp i).2=Rj->Hi=H)->Om P ops fp Q fuel (listed.setIfInBounds i Ri) (p7 e oi.dst r) Hi->Om P ops fp Q (fuel+1) listed e H:=by
 intro fuel
 induction fuel with
 | zero=>
  intro listed e H Hi _ hr hy hro hA;refine ⟨λh=>(by rw [h] at hr;cases hr),λj hj=>?_⟩
  by_cases hji:j=i
  ·subst hji;exact ⟨oi,r,Hi,hi,hy,hro,hA⟩
  have := ready_mono hj hji;rw [hA.1] at this
  cases this
 | succ fuel ih=>
  intro listed e H Hi hfree hr hy hro hA;refine ⟨λh=>(by rw [h] at hr;cases hr),λj hj=>?_⟩
  by_cases hji:j=i
  ·subst hji;exact ⟨oi,r,Hi,hi,hy,hro,hA⟩
  obtain ⟨oj,q,Hj,hoj,hsj,hroj,hAj⟩:=hA.2 j<|ready_mono hj hji;obtain ⟨hjun,oj',Aj,hall⟩:=mem_ready.1 hj;rw [hoj] at Aj;injection Aj with Aj;subst Aj;have hnot:∀ ed∈oj.after,Region.binds .any ed=Ri->ed.on≠i:=λed he hb heq=>by
   have h1:=hall ed he hb;have h0:=(mem_ready.1 hr).1;rw [heq] at h1;rcases Nat.lt_or_ge i listed.size with h' | h'
   ·simp [h'] at h0 h1;rw [h0] at h1;cases h1
   simp [Array.getElem?_eq_none h'] at h1
  obtain ⟨hap,hcm⟩:=hfree j oj hoj hji hjun hnot;obtain ⟨h1,h2,h3⟩:=Oper.apart_spec hap;have ej:=Fh (e:=e) (r:=r) h1;have ei:=Fh (e:=e) (oi:=oj) (r:=q) h3;have hsj':=hsj.congr ej;have hfree':∀ (k:Nat) (ok:Oper),ops[k]? = Rk ok->k≠i->(listed.setIfInBounds j Ri).getD k Ri=Rj->(∀ ed∈ok.after,Region.binds .any ed=Ri->ed.on≠i)->oi.apart ops ok=Ri/\oQ (fp i) (fp k)=Ri:=λk ok hk hki hun hno=>by
   refine hfree k ok hk hki ?_ hno
   by_cases hjk:j=k
   ·subst hjk;exact hjun
   rw [getD_set_ne Ri hjk] at hun;exact hun
  have fin:∀ Hj',uU P ops oj e H q Hj' (fp j).1->((fp j).2=Rj->Hj'=H)->uU P ops oi e Hj' r Hj (fp i).1->((fp i).2=Rj->Hj=Hj')->∃ o r' H',ops[j]? = Rk o/\uU P ops o e H r' H' (fp j).1/\((fp j).2=Rj->H'=H)/\Om P ops fp Q (fuel+1) (listed.setIfInBounds j Ri) (p7 e o.dst r') H':=λHj' s1 s1' s2 s2'=>by
   refine ⟨oj,q,Hj',hoj,s1,s1',ih (listed.setIfInBounds j Ri) (p7 e oj.dst q) Hj' Hj hfree' (ready_mono hr<|Ne.symm hji) (s2.congr λx hx=>(ei x hx).symm) s2' ?_⟩;rw [Array.setIfInBounds_comm _ _ hji,xX (λd hd=>λhd'=>h2 d (by simpa using hd')<|by simpa using hd)];exact hAj
  simp only [oQ,Bool.or_eq_true,bae,Bool.not_eq_true',List.all_eq_true,List.contains_eq_mem,decide_eq_false_iff_not] at hcm;rcases hcm with hdis | ⟨w1,w2⟩
  ·have hag:agree (fp j).1 H Hi:=⟨hy.1.symm,λb hb=>(hy.2.1 b λhbi=>hdis b hbi hb).symm⟩;obtain ⟨Hj',a1,a2,a3,a4⟩:=hsj'.at_ hag;have hag2:agree (fp i).1 Hj' H:=⟨a1,λb hb=>a3 b<|hdis b hb⟩;obtain ⟨K,b1,b2,b3,b4⟩:=hy.at_ hag2;have hKH:K=Hj:=by
    apply Xm;intro b
    by_cases hbi:b∈(fp i).1
    ·rw [b2 b hbi,hsj'.2.1 b (hdis b hbi)]
    rw [b3 b hbi]
    by_cases hbj:b∈(fp j).1
    ·exact a2 b hbj
    rw [a3 b hbj,hsj'.2.1 b hbj,hy.2.1 b hbi]
   subst hKH;refine fin Hj' a4 (λhw=>?_) b4 λhw=>?_
   ·apply Xm;intro b
    by_cases hbj:b∈(fp j).1
    ·rw [a2 b hbj,hroj hw,hy.2.1 b (λhbi=>hdis b hbi hbj)]
    exact a3 b hbj
   apply Xm;intro b
   by_cases hbi:b∈(fp i).1
   ·rw [b2 b hbi,hro hw,a3 b (hdis b hbi)]
   exact b3 b hbi
  obtain rfl:=hro w1;obtain rfl:=hroj w2;exact fin _ hsj' (λ_=>rfl) hy λ_=>rfl
def PH (ops:Array Oper) (fp:Nat->Fp):Bool:=
 Region.lexB .any ops &&
 (List.range ops.size).all λi=>(List.range ops.size).all λj=>Rm (j<=i)||oQ (fp i) (fp j)||match ops[j]? with
  | some oj=>oj.after.any λed=>Region.binds .any ed&&ed.on==i
  | none=>Ri
def TG (P:Program) (ops:Array Oper) (fp:Nat->Fp):Nat->List Oper->(Env->AH->Prop)->Env->AH->Prop
 | _,[],K,e,H=>K e H
 | k,o::rest,K,e,H=>∃ r H',uU P ops o e H r H' (fp k).1/\((fp k).2=Rj->H'=H)/\TG P ops fp (k+1) rest K (p7 e o.dst r) H'
theorem KI {ops:Array Oper} {fp:Nat->Fp} {Q:Env->AH->Prop} (hc:PH ops fp=Ri):∀ (l:List Oper) (k:Nat) (listed:Array Bool) (e:Env) (H:AH),(∀ j,l[j]? = ops[k+j]?)->listed.size=ops.size->(∀ j,j<k->listed.getD j Ri=Ri) ->
  Region.lexFrom .any ops l.length k listed=Ri->TG P ops fp k l Q e H->Om P ops fp Q l.length listed e H
 | [],k,listed,e,H,_,_,_,hB,h=>⟨by simpa [Region.lexFrom] using hB,h⟩
 | o::l,k,listed,e,H,hl,hsz,hbef,hB,h=>by
  have h0:ops[k]? = Rk o:=by simpa using (hl 0).symm
  have hk:k<ops.size:=(Xn.1 h0).1;simp only [llc,Region.lexFrom,bae] at hB;obtain ⟨⟨hr,hf⟩,hB'⟩:=hB;obtain ⟨r,H',hs,hro,hK⟩:=h;refine IC h0 l.length listed e H H' (λj oj hj hne hun hno=>⟨Region.free_spec h0 hf j oj hj hne hun hno,?_⟩) (by simpa using hr) hs hro
   (KI hc l (k+1) _ _ _ (λj=>by have := hl<|j+1;simpa [Nat.add_assoc,Nat.add_comm 1 j] using this) (by simpa using hsz) (λj hj=>?_) hB' hK)
  ·have hjs:j<ops.size:=(Xn.1 hj).1;have hkj : ¬ j<=k:=λhle=>by
    have := hbef j (by omega);rw [this] at hun
    cases hun
   simp only [PH,bae,List.all_eq_true,List.mem_range] at hc;have := hc.2 k hk j hjs;simp only [hj,Bool.or_eq_true,dte,hkj,false_or] at this;rcases this with h1 | h1
   ·exact h1
   rw [Array.any_eq_true'] at h1;obtain ⟨ed,h2,h3⟩:=h1;simp only [bae,beq_iff_eq] at h3;exact absurd h3.2<|hno ed h2 h3.1
  by_cases e:j=k
  ·subst e;simp [hsz,hk]
  rw [getD_set_ne Ri (Ne.symm e)];exact hbef j (by omega)
theorem zE {nt:Nat} {ops:Array Oper} {fp:Nat->Fp} {Q:Exit->Env->AH->Prop} (hd:H5 nt ops.toList=Ri):∀ (fuel:Nat) (listed:Array Bool) (e:Env) (H:AH),Om P ops fp (Q .normal) fuel listed e H ->
  ∀ (c c0:Cx) (a:Act),c.H=H->Ext c0 c->SRel c nt e a->wpAny P .any ops (Oz nt c0 Q) fuel listed a c.w
 | 0,listed,e,H,h,c,c0,a,hH,hx,hs=>⟨h.1,trivial,c,e,rfl,hx,hs,hH ▸ h.2⟩
 | fuel+1,listed,e,H,h,c,c0,a,hH,hx,hs=>by
  refine ⟨λhr=>⟨trivial,c,e,rfl,hx,hs,hH ▸ h.1 hr⟩,λi hi=>?_⟩;obtain ⟨o,r,H',ho,hst,_,hA⟩:=h.2 i hi;have hm:o∈ops.toList:=by rw [Array.mem_toList_iff];exact Array.mem_of_getElem? ho
  unfold wpOp;simp only [ho];rcases hst.op with ⟨hw,hop⟩ | ⟨hw,rfl,rfl⟩
  ·rw [if_pos (hw.wants nt c a hs)];refine .inl<|hop c a _ _ hH hs.heap (λx _=>hs.rho x) λv c' hH' hr' hx' hv=>?_;exact zE hd fuel _ _ H' hA c' c0 _ hH' (hx.trans hx')<|hs.put o.dst (n8 hd hm) hx' hr' hv
  rw [hw.wants nt c a hs];exact zE hd fuel _ _ _ hA c c0 _ hH hx<|hs.put o.dst (n8 hd hm) (Ext.refl c) hs.heap<|.tup (vs:=#[]) rfl (λi q u hq=>by simp at hq)
end
section
variable {P:Program} {nt b0:Nat} {Q:Exit->Env->AH->Prop} {e:Env} {H H':AH} {r:AV}
theorem T.drawG {i:Nat} {ops:Array Oper} (fp:Nat->Fp) (hm:P.follows .mixedOrders=Ri) (hc:PH ops fp=Ri) (h:TG P ops fp 0 ops.toList (Q .normal) e H):T P nt b0 (.region i ops Ri) Q e H:=by
 intro hok c c0 a hH hb hx hs;simp only [codeOk] at hok;have hc':=hc;simp only [PH,bae,Region.lexB] at hc';refine wp_region_any hm ?_;have hlex:=KI hc ops.toList 0 (Array.replicate ops.size Rj) e H (λj=>by simp) (by simp) (λj hj=>absurd hj<|by omega) (by simpa using hc'.1.2) h;have := zE hok ops.toList.length _ e H hlex c.drew c0 a hH (hx.trans c.drew_ext) ⟨hs.size,hs.defers,λt=>(hs.rel t).ext hs.heap c.drew_ext,Cx.drew_rel hs.heap⟩;rw [Array.length_toList] at this;exact this
variable {ops:Array Oper} {d:Tmp} {op:Op} {ty:TypeId} {pos:String} {af:Array Edge} {en:List (Nat×AV)} {fp:Nat->Fp} {i:Nat} {K:Env->AH->Prop} {l:List Oper}
theorem TG.nil {k:Nat} (h:K e H):TG P ops fp k [] K e H:=h
theorem tK.y {o:Oper} {j:Nat} {b q:Bool} (hg:o.guard=Rk (j,b)) (hy:eu ops.toList e j = .v (.bool q)) (hq:q=b):tK ops e o Ri:=by
 unfold tK;rw [hg];exact .inl ⟨q,hy,by rw [hq];simp⟩
theorem tK.n {o:Oper} {j:Nat} {b q:Bool} (hg:o.guard=Rk (j,b)) (hy:eu ops.toList e j = .v (.bool q)) (hq:q = !b):tK ops e o Rj:=by
 unfold tK;rw [hg];exact .inl ⟨q,hy,by rw [hq];cases b <;> rfl⟩
theorem tK.u {o:Oper} {j:Nat} {b:Bool} (hg:o.guard=Rk (j,b)) (hy:eu ops.toList e j = .tup []):tK ops e o Rj:=by
 unfold tK;rw [hg];exact .inr ⟨hy,rfl⟩
theorem tN (hc:fp i=([],Rj)) (hv:QR P (rho<|ai en) op r) (h:TG P ops fp (i+1) l K (ai ((d,r)::en)) H):TG P ops fp i (⟨Rk d,op,ty,pos,af,Rl⟩::l) K (ai en) H:=
 ⟨r,H,by rw [hc];exact .ofF rfl<|FR hv,λ_=>rfl,h⟩
theorem tR (F:List Nat) (hc:fp i=(F,Rj)) (hv:∀ G,agree F G H->EvA P (rho<|ai en) op G r G) (h:TG P ops fp (i+1) l K (ai ((d,r)::en)) H):TG P ops fp i (⟨Rk d,op,ty,pos,af,Rl⟩::l) K (ai en) H:=
 ⟨r,H,by rw [hc];exact .ofF rfl<|FT hv,λ_=>rfl,h⟩
theorem tgN {j:Nat} {b q:Bool} (hy:eu ops.toList (ai en) j = .v (.bool q)) (hq:q=b) (hc:fp i=([],Rj)) (hv:QR P (rho<|ai en) op r) (h:TG P ops fp (i+1) l K (ai ((d,r)::en)) H):TG P ops fp i (⟨Rk d,op,ty,pos,af,Rk (j,b)⟩::l) K (ai en) H:=
 ⟨r,H,by rw [hc];exact .ofF (.y rfl hy hq)<|FR hv,λ_=>rfl,h⟩
theorem tgR {j:Nat} {b q:Bool} (hy:eu ops.toList (ai en) j = .v (.bool q)) (hq:q=b) (F:List Nat) (hc:fp i=(F,Rj)) (hv:∀ G,agree F G H->EvA P (rho<|ai en) op G r G) (h:TG P ops fp (i+1) l K (ai ((d,r)::en)) H):TG P ops fp i (⟨Rk d,op,ty,pos,af,Rk (j,b)⟩::l) K (ai en) H:=
 ⟨r,H,by rw [hc];exact .ofF (.y rfl hy hq)<|FT hv,λ_=>rfl,h⟩
theorem tgS {j:Nat} {b q:Bool} (hy:eu ops.toList (ai en) j = .v (.bool q)) (hq:q = !b) (h:TG P ops fp (i+1) l K (ai ((d,.tup [])::en)) H):TG P ops fp i (⟨Rk d,op,ty,pos,af,Rk (j,b)⟩::l) K (ai en) H:=
 ⟨.tup [],H,.skip (.n rfl hy hq) _,λ_=>rfl,h⟩
theorem tgU {j:Nat} {b:Bool} (hy:eu ops.toList (ai en) j = .tup []) (h:TG P ops fp (i+1) l K (ai ((d,.tup [])::en)) H):TG P ops fp i (⟨Rk d,op,ty,pos,af,Rk (j,b)⟩::l) K (ai en) H:=
 ⟨.tup [],H,.skip (.u rfl hy) _,λ_=>rfl,h⟩
end
open Go.RowKit
set_option maxRecDepth 100000
structure TI where
 u:TypeDesc
 ag:Bool
 n:Nat
 zs:List AV
 m:Nat
structure TI.ok (P:Program) (t:TypeId) (x:TI):Prop where
 u:P.underlying t=Rk x.u
 ty:TyF P t x.ag x.n
 z:TyZ P t x.zs
 zl:x.zs.length=x.n
 by_:P.bytesOf t=x.m
structure Ent (P:Program) where
 t:TypeId
 x:TI
 ok:TI.ok P t x
def Ent.m {P:Program} {t:TypeId} {u:TypeDesc} (hu:P.underlying t=Rk u) (ag:Bool) (n:Nat) (zs:List AV) (m:Nat) (h0:zs.length=n:=by rfl) (h1:xI P t=ag:=by kernel_rfl) (h2:P.cellsOf t=n:=by kernel_rfl) (h3:(P.info? t).isSome=Ri:=by kernel_rfl)
  (h4:((P.info? t).bind (·.zero)).map fD=Rk zs:=by kernel_rfl) (h5:((P.info? t).bind (·.zero)).map (λz=>pR z.cells)=Rk Ri:=by kernel_rfl) (h6:P.bytesOf t=m:=by kernel_rfl):Ent P:=
 ⟨t,⟨u,ag,n,zs,m⟩,⟨hu,⟨h1,by rw [hu];rfl,h2,h3⟩,⟨h4,h5⟩,h0,h6⟩⟩
def lk {P:Program}:List (Ent P)->Nat->Option TI
 | [],_=>Rl
 | p::l,t=>bif Xi p.t t then Rk p.x else lk l t
theorem Pq {P:Program} {t:Nat} {x:TI}:∀ {l:List (Ent P)},lk l t=Rk x->TI.ok P t x
 | p::l,h=>by
  unfold lk at h
  cases e:Xi p.t t with
  | true=>
   rw [e] at h;obtain rfl:=osl h;exact Xk e ▸ p.ok
  | false=>
   rw [e] at h;exact Pq h
class Tab (P:Program) where
 tab:List (Ent P)
abbrev tq (P:Program) [Tab P] (t:Nat):Option TI:=lk (Tab.tab (P:=P)) t
theorem kX {P:Program} [Tab P] {t:Nat} {x:TI} (h:tq P t=Rk x):TI.ok P t x:=Pq h
theorem TI.ok.sl {P:Program} {t e:TypeId} {x y:TI} (h:TI.ok P t x) (g:TI.ok P e y) (hu:x.u = .slice e) (hp:Xj 0 y.n=Ri):SlT P t e y.ag y.n y.zs y.m:=⟨hu ▸ h.u,g.ty,g.z,g.zl,hp,g.by_⟩
abbrev RV:=Option<|Option Prop×AV
def spine {α β:Type}:List α->(List α->β)->β
 | [],K=>K []
 | a::l,K=>spine l λl=>K (a::l)
theorem qy {α β:Type}:∀ {l:List α} {K:List α->β},spine l K=K l
 | [],_=>rfl
 | _::l,_=>qy (l:=l)
def fcV (x:AV):RV:=match x with
 | .v a=>Rk (Rl,.v a)
 | .agg cs=>Rk (Rl,.agg cs)
 | .tup xs=>Rk (Rl,.tup xs)
 | .nil=>Rk (Rl,.nil)
 | .sl n row=>Rk (Rl,.sl n row)
 | .fp row j=>Rk (Rl,.fp row j)
 | .hs b q s o l=>Rk (Rl,.hs b q s o l)
 | .hp b q s i j=>Rk (Rl,.hp b q s i j)
 | .mp b s=>Rk (Rl,.mp b s)
 | .ifc t x=>Rk (Rl,.ifc t x)
 | .fn f cs=>Rk (Rl,.fn f cs)
 | .top=>Rk (Rl,.top)
theorem Ps (x:AV):fcV x=Rk (Rl,x):=by cases x <;> rfl
def Fj (ag:Bool) (n:Nat) (row:List AV) (j:Nat) (K:AV->RV):RV:=match ag with
 | true=>bif Xl (j+n) row.length then spine ((row.drop j).take n) λcs=>K (.agg cs) else Rl
 | false=>match row.drop j with
  | a::_=>K a
  | []=>Rl
theorem wh {ag:Bool} {n:Nat} {row:List AV} {j:Nat} {K:AV->RV} {r:Option Prop×AV} (h:Fj ag n row j K=Rk r):∃ a,m9 ag n row j=Rk a/\K a=Rk r:=by
 unfold Fj at h
 split at h
 ·cases hb:Xl (j+n) row.length with
  | true=>
   rw [hb] at h;rw [cond_true,qy] at h;exact ⟨_,by simp only [m9];rw [if_pos (nlb hb)],h⟩
  | false=>rw [hb] at h;cases h
 split at h
 ·rename_i a l hd;refine ⟨a,?_,h⟩;simp only [m9];have := congrArg (λl=>l[0]?) hd;simpa using this
 cases h
def okV (v:AV):RV:=Rk (Rl,v)
def cdV (c:Prop) (v:AV):RV:=Rk (Rk c,v)
def Hol:Option Prop->Prop
 | none=>True
 | some c=>c
def kq (a b:IntKind):Bool:=Rm<|a=b
def evI (op:BinOp) (k:IntKind) (a b:Int):RV:=match op with
 | .add=>cdV (k.wrap (a+b)=a+b) (.v<|.int k<|a+b)
 | .sub=>cdV (k.wrap (a-b)=a-b) (.v<|.int k<|a-b)
 | .mul=>cdV (k.wrap (a*b)=a*b) (.v<|.int k<|a*b)
 | .quo=>cdV (b≠0/\k.wrap (a.tdiv b)=a.tdiv b) (.v<|.int k<|a.tdiv b)
 | .rem=>cdV (b≠0) (.v<|.int k<|a.tmod b)
 | .and=>okV (.v<|.int k<|dJ k a b)
 | .or=>okV (.v<|.int k<|bOr k a b)
 | .xor=>okV (.v<|.int k<|OB k a b)
 | .andNot=>okV (.v<|.int k<|DN k a b)
 | .eql=>okV (.v<|.bool<|a==b)
 | .neq=>okV (.v<|.bool<|a != b)
 | .lss=>okV (.v<|.bool<|Rm<|a<b)
 | .leq=>okV (.v<|.bool<|Rm<|a<=b)
 | .gtr=>okV (.v<|.bool<|Rm<|b<a)
 | .geq=>okV (.v<|.bool<|Rm<|b<=a)
 | _=>Rl
def evB (op:BinOp) (x y:AV):RV:=match x,y with
 | .v (.int k a),.v (.int k' b)=>(match op with
  | .shl=>cdV (0<=b) (.v<|.int k<|EI k a b)
  | .shr=>cdV (0<=b) (.v<|.int k<|gu k a b)
  | _=>bif kq k k' then evI op k a b else Rl)
 | .v (.string a),.v (.string b)=>(match op with
  | .add=>cdV (a.size+b.size<=9223372036854775807) (.v<|.string<|a++b)
  | .eql=>okV (.v<|.bool<|Rm<|a=b)
  | .neq=>okV (.v<|.bool<|!decide (a=b))
  | _=>Rl)
 | _,_=>Rl
def opI (ρ:Operand->AV) (x:Option Operand) (d:Int):Option Int:=match x with
 | none=>Rk d
 | some o=>match ρ o with
  | .v (.int _ n)=>Rk n
  | _=>Rl
def Qh (P:Program) [Tab P] (t:TypeId) (x y:AV):RV:=match tq P t,y with
 | some ⟨u,_,_,_,_⟩,.v (.int _ q)=>(match u,x with
  | .slice e,.sl n row=>(match tq P e with
   | some ⟨_,_,w,_,_⟩=>bif Xi (row q.toNat).length w then cdV (0<=q/\q<n) (.fp (row q.toNat) 0) else Rl
   | none=>Rl)
  | .slice e,.hs b ver s off len=>(match tq P e with
   | some ⟨_,_,w,_,_⟩=>bif Xi s w&&Xi off 0 then cdV (0<=q/\q<len) (.hp b ver s q.toNat 0) else Rl
   | none=>Rl)
  | .array n e,.fp row j=>(match tq P e with
   | some ⟨_,_,w,_,_⟩=>cdV (0<=q/\q<n) (.fp row<|j+q.toNat*w)
   | none=>Rl)
  | .array n e,.hp b ver s i j=>(match tq P e with
   | some ⟨_,_,w,_,_⟩=>cdV (0<=q/\q<n) (.hp b ver s i<|j+q.toNat*w)
   | none=>Rl)
  | _,_=>Rl)
 | _,_=>Rl
def placesOf (P:Program) [Tab P]:List Field->Option (List<|Nat×Nat)
 | []=>Rk []
 | f::l=>match tq P f.type,placesOf P l with
  | some x,Rk r=>Rk ((f.offset,x.n)::r)
  | _,_=>Rl
def N8 (P:Program) [Tab P] (t:TypeId) (x:AV):RV:=match tq P t with
 | some ⟨u,_,_,_,_⟩=>(match u,x with
  | .slice _,.sl n _=>okV (I n)
  | .slice _,.hs _ _ _ _ n=>okV (I n)
  | .slice _,.nil=>okV (I 0)
  | .string,.v (.string s)=>okV (I s.size)
  | _,_=>Rl)
 | none=>Rl
def KJ (P:Program) [Tab P] (ρ:Operand->AV) (f:Callee) (args:List Operand) (ts:List TypeId):RV:=match f,args,ts with
 | .builtin .len,[x],[t]=>N8 P t (ρ x)
 | .builtin .min,[x,y],_=>(match ρ x,ρ y with
  | .v (.int k a),.v (.int _ b)=>okV (.v<|.int k<|if b<a then b else a)
  | _,_=>Rl)
 | .builtin .max,[x,y],_=>(match ρ x,ρ y with
  | .v (.int k a),.v (.int _ b)=>okV (.v<|.int k<|if b>a then b else a)
  | _,_=>Rl)
 | _,_,_=>Rl
def evN (P:Program) [Tab P] (ρ:Operand->AV) (op:Op):RV:=match op with
 | .nilCheck x=>(match ρ x with
  | .fp row j=>okV (.fp row j)
  | .hp b q s i j=>okV (.hp b q s i j)
  | _=>Rl)
 | .load t x=>(match tq P t,ρ x with
  | some ⟨_,ag,n,_,_⟩,.fp row j=>Fj ag n row j okV
  | _,_=>Rl)
 | .binOp op _ x y _=>evB op (ρ x) (ρ y)
 | .unOp op _ x=>(match op,ρ x with
  | .not,.v (.bool b)=>okV (.v<|.bool !b)
  | .neg,.v (.int k n)=>cdV (k.wrap (0-n)=0-n) (.v<|.int k<|0-n)
  | _,_=>Rl)
 | .convert s d x=>(match tq P s,tq P d with
  | some _,Rk ⟨u,_,_,_,_⟩=>(match u,ρ x with
   | .int k,.v (.int _ n)=>cdV (k.wrap n=n) (.v<|.int k n)
   | .string,.v (.string b)=>okV (.v<|.string b)
   | _,_=>Rl)
  | _,_=>Rl)
 | .makeInterface t x=>(match tq P t with
  | some ⟨u,_,_,_,_⟩=>(match u with
   | .interface _=>Rl
   | _=>okV (.ifc t (ρ x)))
  | none=>Rl)
 | .makeFunc f first oO=>bif first.size==0 then okV (.fn f<|oO.toList.map ρ) else Rl
 | .fieldAddr t x f=>(match tq P t with
  | some ⟨u,_,_,_,_⟩=>(match u with
   | .struct fs=>(match fs[f]? with
    | some ⟨_,ft,off,_,_,_,_⟩=>(match tq P ft with
     | some ⟨_,_,n,_,_⟩=>bif Xi n 0 then Rl else (match ρ x with
      | .fp row j=>spine ((row.drop<|j+off).take n) λr=>okV (.fp r 0)
      | .hp b v s i j=>okV (.hp b v s i<|j+off)
      | _=>Rl)
     | none=>Rl)
    | none=>Rl)
   | _=>Rl)
  | none=>Rl)
 | .field t x f=>(match tq P t with
  | some ⟨u,_,_,_,_⟩=>(match u with
   | .struct fs=>(match fs[f]?,ρ x with
    | some ⟨_,ft,off,_,_,_,_⟩,.agg cs=>(match tq P ft with
     | some ⟨_,ag,n,_,_⟩=>Fj ag n cs off okV
     | none=>Rl)
    | _,_=>Rl)
   | _=>Rl)
  | none=>Rl)
 | .indexAddr t x y=>Qh P t (ρ x) (ρ y)
 | .index t x y=>(match tq P t,ρ x,ρ y with
  | some ⟨u,_,_,_,_⟩,.v (.string s),.v (.int _ q)=>(match u with
   | .string=>cdV (0<=q/\q<s.size) (.v<|.int .u8 ((s.data.getD q.toNat 0).toNat:Int))
   | _=>Rl)
  | _,_,_=>Rl)
 | .slice t x lo hi Rl=>(match tq P t,ρ x with
  | some ⟨u,_,_,_,_⟩,.v (.string s)=>(match u,opI ρ lo 0,opI ρ hi s.size with
   | .string,Rk l,Rk h=>cdV (0<=l/\l<=h/\h<=s.size) (.v<|.string<|s.extract l.toNat h.toNat)
   | _,_,_=>Rl)
  | _,_=>Rl)
 | .extract x i=>(match ρ x with
  | .tup xs=>(match xs.drop i with
   | a::_=>okV a
   | []=>Rl)
  | _=>Rl)
 | .build t parts=>(match tq P t with
  | some ⟨u,_,_,zs,_⟩=>(match u with
   | .struct fs=>(match placesOf P fs.toList with
    | some pl=>(match Al (pl.toArray[·]?) zs (parts.toList.map λp=>(p.1,ρ p.2)) with
     | some cs=>spine cs λcs=>okV (.agg cs)
     | none=>Rl)
    | none=>Rl)
   | _=>Rl)
  | none=>Rl)
 | .call c=>KJ P ρ c.callee c.args.toList c.argTypes.toList
 | _=>Rl
section
variable {P:Program} {ρ:Operand->AV} {H:AH}
theorem dM {v r:AV} {c:Option Prop} (h:okV v=Rk (c,r)):c=Rl/\v=r:=by
 injection h with h;injection h with h1 h2;exact ⟨h1.symm,h2⟩
theorem pK {p:Prop} {v r:AV} {c:Option Prop} (h:cdV p v=Rk (c,r)):c=Rk p/\v=r:=by
 injection h with h;injection h with h1 h2;exact ⟨h1.symm,h2⟩
theorem Pt {op:BinOp} {k:IntKind} {a b:Int} {t u:TypeId} {x y:Operand} {c:Option Prop} {r:AV} (hx:ρ x = .v (.int k a)) (hy:ρ y = .v (.int k b)) (h:evI op k a b=Rk (c,r)) (hc:Hol c):QR P ρ (.binOp op t x y u) r:=by
 cases op <;> simp only [evI] at h <;> first
  | (obtain ⟨rfl,rfl⟩:=pK h;first | exact QR.add hx hy hc | exact QR.sub hx hy hc | exact QR.mul hx hy hc | exact QR.quo hx hy hc.1 hc.2 | exact QR.rem hx hy hc)
  | (obtain ⟨rfl,rfl⟩:=dM h;first | exact QR.band hx hy | exact QR.bor hx hy | exact QR.bxor hx hy | exact QR.bandNot hx hy | exact QR.ieq hx hy | exact QR.ine hx hy | exact QR.ilt hx hy | exact QR.ile hx hy | exact QR.igt hx hy | exact QR.ige hx hy)
  | cases h
theorem Pu {op:BinOp} {t u:TypeId} {x y:Operand} {c:Option Prop} {r:AV} (h:evB op (ρ x) (ρ y)=Rk (c,r)) (hc:Hol c):QR P ρ (.binOp op t x y u) r:=by
 unfold evB at h
 split at h
 ·rename_i k a k' b hx hy
  split at h
  ·obtain ⟨rfl,rfl⟩:=pK h;exact QR.shl hx hy hc
  ·obtain ⟨rfl,rfl⟩:=pK h;exact QR.shr hx hy hc
  cases hk:kq k k' with
  | true=>
   rw [hk] at h;obtain rfl:=of_decide_eq_true hk;exact Pt hx hy h hc
  | false=>rw [hk] at h;cases h
 ·rename_i a b hx hy
  split at h
  ·obtain ⟨rfl,rfl⟩:=pK h;exact QR.cat hx hy hc
  ·obtain ⟨rfl,rfl⟩:=dM h;exact QR.seq hx hy
  ·obtain ⟨rfl,rfl⟩:=dM h;exact QR.sne hx hy
  cases h
 cases h
theorem MQ {o:Option Operand} {d m:Int} (h:opI ρ o d=Rk m):bnd ρ o d m:=by
 unfold opI at h
 split at h
 ·exact osl h
 split at h
 ·rename_i k n he;obtain rfl:=osl h;exact ⟨k,he⟩
 cases h
variable [Tab P]
theorem N9 {t:TypeId} {x y:Operand} {c:Option Prop} {r:AV} (h:Qh P t (ρ x) (ρ y)=Rk (c,r)) (hc:Hol c):QR P ρ (.indexAddr t x y) r:=by
 unfold Qh at h
 split at h
 ·rename_i u _ _ _ _ k q hz hy;have hz:=(kX hz).u
  split at h
  ·rename_i e n row hx _
   split at h
   ·rename_i w _ _ hf;have hf:=(kX hf).ty
    cases hb:Xi (row q.toNat).length w with
    | true=>
     rw [hb] at h;obtain ⟨rfl,rfl⟩:=pK h;exact QR.ixsl hz hf hx hy hc<|Xk hb
    | false=>rw [hb] at h;cases h
   cases h
  ·rename_i e b ver s off len hx _
   split at h
   ·rename_i w _ _ hf;have hf:=(kX hf).ty
    cases hb:(Xi s w&&Xi off 0) with
    | true=>
     rw [hb] at h;obtain ⟨rfl,rfl⟩:=pK h;rw [bae] at hb;obtain rfl:=Xk hb.1;obtain rfl:=Xk hb.2;have := QR.ixhs (P:=P) hz hf hx hy hc
     rwa [Nat.zero_add] at this
    | false=>rw [hb] at h;cases h
   cases h
  ·rename_i n e row j hx _
   split at h
   ·rename_i hf;obtain ⟨rfl,rfl⟩:=pK h;exact QR.ixafp hz (kX hf).ty hx hy hc
   cases h
  ·rename_i n e b ver s i j hx _
   split at h
   ·rename_i hf;obtain ⟨rfl,rfl⟩:=pK h;exact QR.ixahp hz (kX hf).ty hx hy hc
   cases h
  cases h
 cases h
theorem Cn:∀ {l:List Field} {pl:List (Nat×Nat)},placesOf P l=Rk pl->l.mapM (λf=>(P.info? f.type).map λi=>(f.offset,i.size))=Rk pl
 | [],pl,h=>by
  obtain rfl:=osl h
  rfl
 | f::l,pl,h=>by
  unfold placesOf at h
  split at h
  ·rename_i x r hx hr;obtain rfl:=osl h;have h1:=kX hx;have h2:=Cn hr;have h3:=h1.ty.cells;have h4:=h1.ty.info
   cases hi:P.info? f.type with
   | none=>rw [hi] at h4;cases h4
   | some i=>
    unfold Program.cellsOf at h3;rw [hi] at h3;have h5:i.size=x.n:=by simpa using h3
    simp [List.mapM_cons,hi,h2,h5]
  cases h
theorem Mh {t:TypeId} {x:Operand} {c:Option Prop} {r:AV} (h:N8 P t (ρ x)=Rk (c,r)):QR P ρ (.call ⟨.builtin .len,#[x],#[t]⟩) r:=by
 unfold N8 at h
 split at h
 ·rename_i hz;have hz:=(kX hz).u
  split at h
  ·obtain ⟨rfl,rfl⟩:=dM h;exact QR.lensl hz ‹_›
  ·obtain ⟨rfl,rfl⟩:=dM h;exact QR.lenhs hz ‹_›
  ·obtain ⟨rfl,rfl⟩:=dM h;exact QR.lennil hz ‹_›
  ·obtain ⟨rfl,rfl⟩:=dM h;exact QR.lenst hz ‹_›
  cases h
 cases h
theorem KL {cl:Call} {c:Option Prop} {r:AV} (h:KJ P ρ cl.callee cl.args.toList cl.argTypes.toList=Rk (c,r)):QR P ρ (.call cl) r:=by
 obtain ⟨f,⟨args⟩,⟨ts⟩⟩:=cl;simp only at h;unfold KJ at h
 split at h
 ·exact Mh h
 ·split at h
  ·rename_i hx hy;obtain ⟨rfl,rfl⟩:=dM h;exact QR.min hx hy
  cases h
 ·split at h
  ·rename_i hx hy;obtain ⟨rfl,rfl⟩:=dM h;exact QR.max hx hy
  cases h
 cases h
theorem uN {op:Op} {c:Option Prop} {r:AV} (h:evN P ρ op=Rk (c,r)) (hc:Hol c):QR P ρ op r:=by
 unfold evN at h
 split at h
 ·split at h
  ·rename_i he;obtain ⟨rfl,rfl⟩:=dM h;exact QR.nilfp he
  ·rename_i he;obtain ⟨rfl,rfl⟩:=dM h;exact QR.nilhp he
  cases h
 ·split at h
  ·rename_i hz hx;obtain ⟨a,ha,h⟩:=wh h;obtain ⟨rfl,rfl⟩:=dM h;exact QR.loadfp _ (kX hz).ty hx ha
  cases h
 ·exact Pu h hc
 ·split at h
  ·rename_i hx;obtain ⟨rfl,rfl⟩:=dM h;exact QR.not hx
  ·rename_i hx;obtain ⟨rfl,rfl⟩:=pK h;exact QR.neg hx hc
  cases h
 ·split at h
  ·rename_i hs hd
   split at h
   ·rename_i hx;obtain ⟨rfl,rfl⟩:=pK h;exact QR.iconv (kX hs).ty.und (kX hd).u hx hc
   ·rename_i hx;obtain ⟨rfl,rfl⟩:=dM h;exact QR.sconv (kX hs).ty.und (kX hd).u hx
   cases h
  cases h
 ·split at h
  ·rename_i hz
   split at h
   ·cases h
   rename_i hn;obtain ⟨rfl,rfl⟩:=dM h;exact QR.mkifc _ (kX hz).u hn rfl
  cases h
 ·rename_i f first oO
  cases hb:first.size==0 with
  | true=>
   rw [hb] at h;obtain ⟨rfl,rfl⟩:=dM h;exact QR.mkfn _ hb rfl
  | false=>rw [hb] at h;cases h
 ·split at h
  ·rename_i hz
   split at h
   ·rename_i fs
    split at h
    ·rename_i ft off _ _ _ _ hfl
     split at h
     ·rename_i n _ _ hy
      cases hb:Xi n 0 with
      | true=>rw [hb] at h;cases h
      | false=>
       rw [hb] at h;have hne:(P.cellsOf ft != 0)=Ri:=by
        rw [(kX hy).ty.cells]
        cases n with
        | zero=>cases hb
        | succ k=>rfl
       simp only [cond_false] at h
       split at h
       ·rename_i hx;rw [qy] at h;obtain ⟨rfl,rfl⟩:=dM h;exact QR.fafpS n (kX hz).u hfl hne hx rfl
       ·rename_i hx;obtain ⟨rfl,rfl⟩:=dM h;exact QR.fahp (kX hz).u hfl hne hx
       cases h
     cases h
    cases h
   cases h
  cases h
 ·split at h
  ·rename_i hz
   split at h
   ·split at h
    ·rename_i hfl hx
     split at h
     ·rename_i hy;obtain ⟨a,ha,h⟩:=wh h;obtain ⟨rfl,rfl⟩:=dM h;exact QR.field _ (kX hz).u hfl (kX hy).ty hx ha
     cases h
    cases h
   cases h
  cases h
 ·exact N9 h hc
 ·split at h
  ·rename_i hz hx hy
   split at h
   ·obtain ⟨rfl,rfl⟩:=pK h;exact QR.ixst (kX hz).u hx hy hc
   cases h
  cases h
 ·split at h
  ·rename_i hz hx
   split at h
   ·rename_i hl hq;obtain ⟨rfl,rfl⟩:=pK h;exact QR.slst (kX hz).u hx (MQ hl) (MQ hq) hc
   cases h
  cases h
 ·split at h
  ·rename_i hx
   split at h
   ·rename_i i _ xs _ a l ha;obtain ⟨rfl,rfl⟩:=dM h;exact QR.ext _ hx (by have := congrArg (λl=>l[0]?) ha;rw [List.getElem?_drop] at this;simpa using this)
   cases h
  cases h
 ·split at h
  ·rename_i hz
   split at h
   ·rename_i fs
    split at h
    ·rename_i pl hpl
     split at h
     ·rename_i cs hcs;rw [qy] at h;obtain ⟨rfl,rfl⟩:=dM h;have hz:=kX hz;have hu':P.underlying _=Rk (.struct fs):=hz.u;exact QR.build _ hu' hz.z ⟨by rw [hu'];exact Cn hpl⟩ rfl hcs
     cases h
    cases h
   cases h
  cases h
 ·exact KL h
 cases h
def evA (P:Program) [Tab P] (H:AH) (op:Op):Option (AV×AH):=match op with
 | .alloc t=>(match tq P t with
  | some ⟨_,_,n,zs,_⟩=>bif Xj 0 n then spine (H++[Rk ⟨0,n,t,[zs]⟩]) λG=>Rk (.hp H.length 0 n 0 0,G) else Rl
  | none=>Rl)
 | _=>Rl
omit [Tab P] in
theorem QK {t:TypeId} {zs:List AV} {n b:Nat} (z:TyZ P t zs) (hl:zs.length=n) (hn:Xj 0 n=Ri) (hb:H.length=b):EvA P ρ (.alloc t) H (.hp b 0 n 0 0) (H++[Rk ⟨0,n,t,[zs]⟩]):=by
 subst hl;exact EvA.al z hn hb
theorem Pv {op:Op} {r:AV} {H':AH} (h:evA P H op=Rk (r,H')):EvA P ρ op H r H':=by
 unfold evA at h
 split at h
 ·split at h
  ·rename_i n zs _ hz
   cases hb:Xj 0 n with
   | true=>
    rw [hb,cond_true,qy] at h;obtain ⟨rfl,rfl⟩:=Prod.mk.inj<|osl h;exact QK (kX hz).z (kX hz).zl hb rfl
   | false=>rw [hb] at h;cases h
  cases h
 cases h
def evL (P:Program) [Tab P] (ρ:Operand->AV) (H:AH) (op:Op):Option (Nat×Nat×Nat×AV):=match op with
 | .load t x=>(match tq P t,ρ x with
  | some ⟨_,ag,n,_,_⟩,.hp b ver s i j=>(match H[b]? with
   | some (Rk ⟨uF,s',_,rows⟩)=>bif Xi s' s then (match rows[i]? with
    | some row=>(match Fj ag n row j okV with
     | some (Rl,a)=>Rk (b,uF,ver,a)
     | _=>Rl)
    | none=>Rl) else Rl
   | _=>Rl)
  | _,_=>Rl)
 | _=>Rl
theorem KM {op:Op} {b ver uF:Nat} {r:AV} (h:evL P ρ H op=Rk (b,uF,ver,r)) (hv:uF=ver):∀ G:AH,agree [b] G H->EvA P ρ op G r G:=by
 intro G hG;unfold evL at h
 split at h
 ·split at h
  ·rename_i b' _ s i j hz hx
   split at h
   ·rename_i _ s' _ rows hk
    cases hb:Xi s' s with
    | true=>
     rw [hb] at h;simp only [cond_true] at h
     split at h
     ·rename_i row hrow
      split at h
      ·rename_i a ha;obtain ⟨a',ha',h'⟩:=wh ha;obtain ⟨_,rfl⟩:=dM h';injection h with h;injection h with h1 h;injection h with h2 h;injection h with h3 h;subst h1 h2 h3 h;exact EvA.loadhp _ (kX hz).ty hx (hG.a0 hk) hv (Xk hb) hrow ha'
      cases h
     cases h
    | false=>rw [hb] at h;cases h
   cases h
  cases h
 cases h
def evS (P:Program) [Tab P] (ρ:Operand->AV) (H:AH) (op:Op):Option (Nat×Nat×ABlk):=match op with
 | .store t x y=>(match tq P t,ρ x,(ρ y).cells with
  | some ⟨_,_,n,_,_⟩,.hp b ver s i j,Rk cs=>(match H[b]? with
   | some (Rk ⟨uF,s',ty,rows⟩)=>bif Xi s' s&&Xi cs.length n&&Xl (j+n) s&&Xj b H.length then (match rows[i]? with
    | some row=>spine (splice row j cs) λr=>spine (rows.set i r) λrows=>Rk (b,ver,⟨uF,s',ty,rows⟩)
    | none=>Rl) else Rl
   | _=>Rl)
  | _,_,_=>Rl)
 | _=>Rl
theorem KN {op:Op} {b ver:Nat} {k':ABlk} (h:evS P ρ H op=Rk (b,ver,k')) (hv:k'.ver=ver):Xj b H.length=Ri/\∀ G:AH,agree [b] G H->EvA P ρ op G .top (G.set b<|Rk k'):=by
 unfold evS at h
 split at h
 ·split at h
  ·rename_i n _ _ b' _ s i j cs hz hx hy
   split at h
   ·rename_i uF s' ty rows hk
    cases hb:(Xi s' s&&Xi cs.length n&&Xl (j+n) s&&Xj b' H.length) with
    | true=>
     rw [hb] at h;simp only [cond_true] at h
     split at h
     ·rename_i row hrow;rw [qy,qy] at h;injection h with h;injection h with h1 h;injection h with h2 h;subst h1 h2 h;simp only [bae] at hb;obtain ⟨⟨⟨h2,h3⟩,h4⟩,h5⟩:=hb;exact ⟨h5,λG hG=>EvA.st _ (kX hz).ty hx hy (hG.a0 hk) hv (Xk h2) hrow (Xk h3) h4 rfl⟩
     cases h
    | false=>rw [hb] at h;cases h
   cases h
  cases h
 cases h
end
def Fq:List (Nat×AV)->Nat->Option AV
 | [],_=>Rl
 | (u,v)::l,t=>bif Xi t u then Rk v else Fq l t
theorem wm {t:Nat} {v:AV}:∀ {en:List (Nat×AV)},Fq en t=Rk v->ai en t=v
 | (u,w)::l,h=>by
  unfold Fq at h;show (bif Xi t u then w else ai l t)=v
  cases e:Xi t u with
  | true=>rw [e] at h;exact osl h
  | false=>rw [e] at h;exact wm h
def opE (en:List<|Nat×AV) (x:Operand):Option AV:=match x with
 | .tmp t=>Fq en t
 | x=>(match fcV (rho (ai en) x) with
  | some (_,v)=>Rk v
  | none=>Rl)
theorem gm {en:List (Nat×AV)} {x:Operand} {v:AV} (h:opE en x=Rk v):rho (ai en) x=v:=by
 unfold opE at h
 split at h
 ·exact wm h
 rw [Ps] at h;exact osl h
theorem agree.refl {F:List Nat} {H:AH}:agree F H H:=⟨rfl,λ_ _=>rfl⟩
section
variable {P:Program} {nt b0:Nat} {Q:Exit->Env->AH->Prop} {H H':AH} {x:Operand} {t:TypeId} {cs:List AV} {ops:Array Oper} {l:List Oper} {d:Tmp} {op:Op} {ty:TypeId} {pos:String} {af:Array Edge} {en:List (Nat×AV)} {v:AV} {c:Prop} {b ver uF:Nat} {k':ABlk}
theorem eM (h:opE en x=Rk v) (k:TO P nt b0 ops l Q (ai ((d,v)::en)) H):TO P nt b0 ops (⟨Rk d,.move x,ty,pos,af,Rl⟩::l) Q (ai en) H:=oN (QR.mv _<|gm h) k
theorem eR (h:opE en x=Rk v) (k:TO P nt b0 ops l Q (ai ((d,v)::en)) H):TO P nt b0 ops (⟨Rk d,.assign x,ty,pos,af,Rl⟩::l) Q (ai en) H:=oN (QR.asg _<|gm h) k
theorem fM {fp:Nat->Fp} {i:Nat} {K:Env->AH->Prop} (h:opE en x=Rk v) (hf:fp i=([],Rj)) (k:TF P fp (i+1) l K (ai ((d,v)::en)) H):TF P fp i (⟨Rk d,.move x,ty,pos,af,Rl⟩::l) K (ai en) H:=fN hf (QR.mv _<|gm h) k
theorem fA {fp:Nat->Fp} {i:Nat} {K:Env->AH->Prop} (h:opE en x=Rk v) (hf:fp i=([],Rj)) (k:TF P fp (i+1) l K (ai ((d,v)::en)) H):TF P fp i (⟨Rk d,.assign x,ty,pos,af,Rl⟩::l) K (ai en) H:=fN hf (QR.asg _<|gm h) k
theorem eB (hx:(rho (ai en) x).cells=Rk cs) (hn:Xj 0 cs.length=Ri) (k:TO P nt b0 ops l Q (ai ((d,.hp H.length 0 cs.length 0 0)::en))<|H++[Rk ⟨0,cs.length,t,[cs]⟩]):TO P nt b0 ops (⟨Rk d,.box t x,ty,pos,af,Rl⟩::l) Q (ai en) H:=oA (EvA.bx hx hn rfl) k
theorem eF (hx:(rho (ai en) x).cells=Rk cs) (hn:(Xj 0 cs.length)=Ri) (hF:cs.all (isF 9)=Ri) (k:TO P nt b0 ops l Q (ai ((d,.fp cs 0)::en)) H):TO P nt b0 ops (⟨Rk d,.box t x,ty,pos,af,Rl⟩::l) Q (ai en) H:=oN (QR.bxF cs hx hn hF) k
variable [Tab P]
theorem eN (h:evN P (rho<|ai en) op=Rk (Rl,v)) (k:TO P nt b0 ops l Q (ai ((d,v)::en)) H):TO P nt b0 ops (⟨Rk d,op,ty,pos,af,Rl⟩::l) Q (ai en) H:=oN (uN h trivial) k
theorem eG (h:evN P (rho<|ai en) op=Rk (Rk c,v)) (hc:c) (k:TO P nt b0 ops l Q (ai ((d,v)::en)) H):TO P nt b0 ops (⟨Rk d,op,ty,pos,af,Rl⟩::l) Q (ai en) H:=oN (uN h hc) k
theorem eA (h:evA P H op=Rk (v,H')) (k:TO P nt b0 ops l Q (ai ((d,v)::en)) H'):TO P nt b0 ops (⟨Rk d,op,ty,pos,af,Rl⟩::l) Q (ai en) H:=oA (Pv h) k
theorem eL_ (h:evL P (rho<|ai en) H op=Rk (b,uF,ver,v)) (hv:uF=ver) (k:TO P nt b0 ops l Q (ai ((d,v)::en)) H):TO P nt b0 ops (⟨Rk d,op,ty,pos,af,Rl⟩::l) Q (ai en) H:=oA (KM h hv H .refl) k
theorem eS (h:evS P (rho<|ai en) H op=Rk (b,ver,k')) (hv:k'.ver=ver) (hs:spine (H.set b<|Rk k') Rk=Rk H') (k:TO P nt b0 ops l Q (ai en) H'):TO P nt b0 ops (⟨Rl,op,ty,pos,af,Rl⟩::l) Q (ai en) H:=by
 rw [qy] at hs;obtain rfl:=osl hs;exact oV ((KN h hv).2 H .refl) k
theorem hN {j:Nat} {w q:Bool} (hy:eu ops.toList (ai en) j = .v (.bool q)) (hq:q=w) (h:evN P (rho<|ai en) op=Rk (Rl,v)) (k:TO P nt b0 ops l Q (ai ((d,v)::en)) H):TO P nt b0 ops (⟨Rk d,op,ty,pos,af,Rk (j,w)⟩::l) Q (ai en) H:=gN hy hq (uN h trivial) k
theorem hG {j:Nat} {w q:Bool} (hy:eu ops.toList (ai en) j = .v (.bool q)) (hq:q=w) (h:evN P (rho<|ai en) op=Rk (Rk c,v)) (hc:c) (k:TO P nt b0 ops l Q (ai ((d,v)::en)) H):TO P nt b0 ops (⟨Rk d,op,ty,pos,af,Rk (j,w)⟩::l) Q (ai en) H:=gN hy hq (uN h hc) k
variable {fp:Nat->Fp} {i:Nat} {K:Env->AH->Prop} {F:List Nat}
theorem fN' (h:evN P (rho<|ai en) op=Rk (Rl,v)) (hf:fp i=([],Rj)) (k:TF P fp (i+1) l K (ai ((d,v)::en)) H):TF P fp i (⟨Rk d,op,ty,pos,af,Rl⟩::l) K (ai en) H:=fN hf (uN h trivial) k
theorem fG' (h:evN P (rho<|ai en) op=Rk (Rk c,v)) (hf:fp i=([],Rj)) (hc:c) (k:TF P fp (i+1) l K (ai ((d,v)::en)) H):TF P fp i (⟨Rk d,op,ty,pos,af,Rl⟩::l) K (ai en) H:=fN hf (uN h hc) k
theorem fL' (h:evL P (rho<|ai en) H op=Rk (b,uF,ver,v)) (hv:uF=ver) (hf:fp i=([b],Rj)) (k:TF P fp (i+1) l K (ai ((d,v)::en)) H):TF P fp i (⟨Rk d,op,ty,pos,af,Rl⟩::l) K (ai en) H:=fR [b] hf (λG hG=>KM h hv G hG) k
theorem fS' (h:evS P (rho<|ai en) H op=Rk (b,ver,k')) (hv:k'.ver=ver) (hs:spine (H.set b<|Rk k') Rk=Rk H') (hf:fp i=([b],Ri)) (k:TF P fp (i+1) l K (ai en) H'):TF P fp i (⟨Rl,op,ty,pos,af,Rl⟩::l) K (ai en) H:=by
 rw [qy] at hs;obtain rfl:=osl hs;exact fV b [] hf (KN h hv).1 (λG hG=>(KN h hv).2 G hG) k
end
section
variable {P:Program} {nt b0:Nat} {Q:Exit->Env->AH->Prop} {e:Env} {H:AH}
variable {en:List (Nat×AV)} {ops:Array Oper} {l:List Oper} {d:Tmp} {t:TypeId} {pos:String} {af:Array Edge}
theorem oI {fn:Func} {body:Code} {e0:Env} {cl:Call} {f:Operand} {g:FuncId} {oO Rf:List AV} (hfn:P.funcs[g]? = Rk fn) (hbd:fn.body=Rk body) (hcall:iq P g=Ri) (hn:Xl Rf.length fn.ntmps=Ri) (hok:codeOk fn.ntmps body=Ri)
  (hc:cl.callee = .value f) (hf:rho (ai en) f = .fn (.func g) oO) (ha:cl.args.toList.map (rho<|ai en)++oO=Rf) (hw:CF (KV Rf) e0)
  (h:T P fn.ntmps H.length body (SQ H.length<|Fin P fn λr G=>TO P nt b0 ops l Q (ai ((d,r)::en)) G) e0 H):TO P nt b0 ops (⟨Rk d,.call cl,t,pos,af,Rl⟩::l) Q (ai en) H:=by
 subst ha;exact TO.runG (.free rfl) (Ba rfl hc hf<|dN.mkS hfn hbd hcall hn hok hw h) λr' H' hk=>hk
variable {cls:Nat->Xc} {i:Nat} {K:Env->AH->Prop} {li:List Nat} {op:Op}
end
def Mi (en:List<|Nat×AV):List Nat->Option (List<|Nat×AV)
 | []=>Rk []
 | t::l=>match Fq en t with
  | some v=>(match Mi en l with
   | some r=>Rk ((t,v)::r)
   | none=>Rl)
  | none=>Rl
theorem Hv {en:List (Nat×AV)}:∀ {l:List Nat} {r:List (Nat×AV)},Mi en l=Rk r->CF (ai en) (ai r)
 | [],r,h=>by
  obtain rfl:=osl h;exact QP
 | t::l,r,h=>by
  unfold Mi at h
  split at h
  ·rename_i v hv
   split at h
   ·rename_i r' hr;obtain rfl:=osl h;exact QQ (wm hv)<|Hv hr
   cases h
  cases h
section
variable {P:Program} {nt b0:Nat} {Q:Exit->Env->AH->Prop} {H H':AH} {x:Operand} {ops:Array Oper} {l:List Oper} {d:Tmp} {op:Op} {ty:TypeId} {pos:String} {af:Array Edge} {en:List (Nat×AV)} {v:AV} {c:Prop} {b ver uF j:Nat} {k':ABlk} {w q:Bool} {fp:Nat->Fp} {i:Nat} {K:Env->AH->Prop}
theorem hM (hy:eu ops.toList (ai en) j = .v (.bool q)) (hq:q=w) (h:opE en x=Rk v) (k:TO P nt b0 ops l Q (ai ((d,v)::en)) H):TO P nt b0 ops (⟨Rk d,.move x,ty,pos,af,Rk (j,w)⟩::l) Q (ai en) H:=gN hy hq (QR.mv _<|gm h) k
theorem hR (hy:eu ops.toList (ai en) j = .v (.bool q)) (hq:q=w) (h:opE en x=Rk v) (k:TO P nt b0 ops l Q (ai ((d,v)::en)) H):TO P nt b0 ops (⟨Rk d,.assign x,ty,pos,af,Rk (j,w)⟩::l) Q (ai en) H:=gN hy hq (QR.asg _<|gm h) k
theorem hPT {y z:Operand} {u:Bool} (hc:opE en x=Rk (.v<|.bool u)) (hu:u=Ri) (h:opE en y=Rk v) (k:TO P nt b0 ops l Q (ai ((d,v)::en)) H):TO P nt b0 ops (⟨Rk d,.pick x y z,ty,pos,af,Rl⟩::l) Q (ai en) H:=oN (QR.pickT (gm hc) hu _<|gm h) k
theorem hPF {y z:Operand} {u:Bool} (hc:opE en x=Rk (.v<|.bool u)) (hu:u=Rj) (h:opE en z=Rk v) (k:TO P nt b0 ops l Q (ai ((d,v)::en)) H):TO P nt b0 ops (⟨Rk d,.pick x y z,ty,pos,af,Rl⟩::l) Q (ai en) H:=oN (QR.pickF (gm hc) hu _<|gm h) k
theorem tM (h:opE en x=Rk v) (hc:fp i=([],Rj)) (k:TG P ops fp (i+1) l K (ai ((d,v)::en)) H):TG P ops fp i (⟨Rk d,.move x,ty,pos,af,Rl⟩::l) K (ai en) H:=tN hc (QR.mv _<|gm h) k
theorem tA (h:opE en x=Rk v) (hc:fp i=([],Rj)) (k:TG P ops fp (i+1) l K (ai ((d,v)::en)) H):TG P ops fp i (⟨Rk d,.assign x,ty,pos,af,Rl⟩::l) K (ai en) H:=tN hc (QR.asg _<|gm h) k
theorem tgM (hy:eu ops.toList (ai en) j = .v (.bool q)) (hq:q=w) (h:opE en x=Rk v) (hc:fp i=([],Rj)) (k:TG P ops fp (i+1) l K (ai ((d,v)::en)) H):TG P ops fp i (⟨Rk d,.move x,ty,pos,af,Rk (j,w)⟩::l) K (ai en) H:=tgN hy hq hc (QR.mv _<|gm h) k
theorem tPT {y z:Operand} {u:Bool} (hc:opE en x=Rk (.v<|.bool u)) (hu:u=Ri) (h:opE en y=Rk v) (hf:fp i=([],Rj)) (k:TG P ops fp (i+1) l K (ai ((d,v)::en)) H):TG P ops fp i (⟨Rk d,.pick x y z,ty,pos,af,Rl⟩::l) K (ai en) H:=tN hf (QR.pickT (gm hc) hu _<|gm h) k
theorem tPF {y z:Operand} {u:Bool} (hc:opE en x=Rk (.v<|.bool u)) (hu:u=Rj) (h:opE en z=Rk v) (hf:fp i=([],Rj)) (k:TG P ops fp (i+1) l K (ai ((d,v)::en)) H):TG P ops fp i (⟨Rk d,.pick x y z,ty,pos,af,Rl⟩::l) K (ai en) H:=tN hf (QR.pickF (gm hc) hu _<|gm h) k
variable {cls:Nat->Xc} {lx:List Nat}
theorem xM (h0:ops[i]? = Rk ⟨Rk d,.move x,ty,pos,af,Rl⟩) (h:opE en x=Rk v) (hc:cls i=(Rj,[])) (k:TX P ops cls lx K (ai ((d,v)::en)) H):TX P ops cls (i::lx) K (ai en) H:=xN h0 hc (QR.mv _<|gm h) k
theorem xAs (h0:ops[i]? = Rk ⟨Rk d,.assign x,ty,pos,af,Rl⟩) (h:opE en x=Rk v) (hc:cls i=(Rj,[])) (k:TX P ops cls lx K (ai ((d,v)::en)) H):TX P ops cls (i::lx) K (ai en) H:=xN h0 hc (QR.asg _<|gm h) k
variable [Tab P]
theorem tN' (h:evN P (rho<|ai en) op=Rk (Rl,v)) (hc:fp i=([],Rj)) (k:TG P ops fp (i+1) l K (ai ((d,v)::en)) H):TG P ops fp i (⟨Rk d,op,ty,pos,af,Rl⟩::l) K (ai en) H:=tN hc (uN h trivial) k
theorem tG' (h:evN P (rho<|ai en) op=Rk (Rk c,v)) (hf:fp i=([],Rj)) (hc:c) (k:TG P ops fp (i+1) l K (ai ((d,v)::en)) H):TG P ops fp i (⟨Rk d,op,ty,pos,af,Rl⟩::l) K (ai en) H:=tN hf (uN h hc) k
theorem tL' (h:evL P (rho<|ai en) H op=Rk (b,uF,ver,v)) (hv:uF=ver) (hf:fp i=([b],Rj)) (k:TG P ops fp (i+1) l K (ai ((d,v)::en)) H):TG P ops fp i (⟨Rk d,op,ty,pos,af,Rl⟩::l) K (ai en) H:=tR [b] hf (λG hG=>KM h hv G hG) k
theorem Qy (hy:eu ops.toList (ai en) j = .v (.bool q)) (hq:q=w) (h:evN P (rho<|ai en) op=Rk (Rl,v)) (hc:fp i=([],Rj)) (k:TG P ops fp (i+1) l K (ai ((d,v)::en)) H):TG P ops fp i (⟨Rk d,op,ty,pos,af,Rk (j,w)⟩::l) K (ai en) H:=tgN hy hq hc (uN h trivial) k
theorem PI (hy:eu ops.toList (ai en) j = .v (.bool q)) (hq:q=w) (h:evN P (rho<|ai en) op=Rk (Rk c,v)) (hf:fp i=([],Rj)) (hc:c) (k:TG P ops fp (i+1) l K (ai ((d,v)::en)) H):TG P ops fp i (⟨Rk d,op,ty,pos,af,Rk (j,w)⟩::l) K (ai en) H:=tgN hy hq hf (uN h hc) k
theorem xN' (h0:ops[i]? = Rk ⟨Rk d,op,ty,pos,af,Rl⟩) (h:evN P (rho<|ai en) op=Rk (Rl,v)) (hc:cls i=(Rj,[])) (k:TX P ops cls lx K (ai ((d,v)::en)) H):TX P ops cls (i::lx) K (ai en) H:=xN h0 hc (uN h trivial) k
theorem xG' (h0:ops[i]? = Rk ⟨Rk d,op,ty,pos,af,Rl⟩) (h:evN P (rho<|ai en) op=Rk (Rk c,v)) (hf:cls i=(Rj,[])) (hc:c) (k:TX P ops cls lx K (ai ((d,v)::en)) H):TX P ops cls (i::lx) K (ai en) H:=xN h0 hf (uN h hc) k
end
theorem T.cl {P:Program} {nt b0:Nat} {Q:Exit->Env->AH->Prop} {en en':List (Nat×AV)} {H:AH} {x:Code} (l:List Nat) (h:Mi en l=Rk en') (k:T P nt b0 x Q (ai en') H):T P nt b0 x Q (ai en) H:=k.weak<|Hv h
theorem T.drawP {P:Program} {nt b0:Nat} {Q:Exit->Env->AH->Prop} {e:Env} {H:AH} {i:Nat} {ops:Array Oper} (hm:P.follows .mixedOrders=Ri) (hc:OD ops (λ_=>([],Rj))=Ri) (h:TF P (λ_=>([],Rj)) 0 ops.toList (Q .normal) e H):T P nt b0 (.region i ops Ri) Q e H:=T.drawF _ hm hc h
def slq (P:Program) [Tab P] (t:TypeId):Option (TypeId×TI):=match tq P t with
 | some ⟨.slice e,_,_,_,_⟩=>(match tq P e with
  | some ⟨u,ag,n,zs,m⟩=>bif Xj 0 n then Rk (e,⟨u,ag,n,zs,m⟩) else Rl
  | none=>Rl)
 | _=>Rl
theorem Fs {P:Program} [Tab P] {t e:TypeId} {x:TI} (h:slq P t=Rk (e,x)):SlT P t e x.ag x.n x.zs x.m:=by
 unfold slq at h
 split at h
 ·rename_i hz
  split at h
  ·rename_i u ag n zs m hy
   cases hb:Xj 0 n with
   | true=>
    rw [hb] at h;obtain ⟨rfl,rfl⟩:=Prod.mk.inj<|osl h;exact (kX hz).sl (kX hy) rfl hb
   | false=>rw [hb] at h;cases h
  cases h
 cases h
def PK (P:Program) [Tab P] (t:TypeId):Bool:=match tq P t with
 | some ⟨.slice _,_,_,_,_⟩=>Ri
 | some ⟨.string,_,_,_,_⟩=>Ri
 | _=>Rj
theorem KO {P:Program} [Tab P] {t:TypeId} (h:PK P t=Ri):Hz P t=Ri:=by
 unfold PK at h
 split at h
 ·rename_i hz;simp only [Hz,(kX hz).u]
 ·rename_i hz;simp only [Hz,(kX hz).u]
 cases h
section
variable {P:Program} [Tab P] {nt b0:Nat} {Q:Exit->Env->AH->Prop} {H:AH} {x y:Operand} {ops:Array Oper} {l:List Oper} {d:Tmp} {op:Op} {ty:TypeId} {pos:String} {af:Array Edge} {en:List (Nat×AV)} {fp:Nat->Fp} {i:Nat} {K:Env->AH->Prop}
variable {t u e e':TypeId} {z:TI} {α:Type} [Inhabited α] {c:α->List AV} {k xs:List α} {g:Bool} {b ver n w j q:Nat} {v:α} {a:AV}
theorem eK (hq:slq P t=Rk (e,z)) (hx:((opE en x).bind AV.cells)=Rk (c v)) (k:TO P nt b0 ops l Q (ai ((d,eL c [v])::en)) H) (hc:∀ x,(c x).length=z.n) (hF:∀ x,(c x).all (isF 9)=Ri) (hn:Xl z.n 16777216=Ri):TO P nt b0 ops (⟨Rk d,.buildSlice t 1 #[(0,x)],ty,pos,af,Rl⟩::l) Q (ai en) H:=by
 obtain ⟨a,ha,hx⟩:=Xo.1 hx;have hs:=Fs hq;exact oN (QR.mkF [v] [c v] hs (by simp [gm ha,hx,lG]) (by simp [hs.pos,hn]) rfl hc hF rfl) k
theorem fK (hq:slq P t=Rk (e,z)) (hx:((opE en x).bind AV.cells)=Rk (c v)) (hf:fp i=([],Rj)) (k:TF P fp (i+1) l K (ai ((d,eL c [v])::en)) H) (hc:∀ x,(c x).length=z.n) (hF:∀ x,(c x).all (isF 9)=Ri) (hn:Xl z.n 16777216=Ri):TF P fp i (⟨Rk d,.buildSlice t 1 #[(0,x)],ty,pos,af,Rl⟩::l) K (ai en) H:=by
 obtain ⟨a,ha,hx⟩:=Xo.1 hx;have hs:=Fs hq;exact fN hf (QR.mkF [v] [c v] hs (by simp [gm ha,hx,lG]) (by simp [hs.pos,hn]) rfl hc hF rfl) k
theorem eP (hq:slq P t=Rk (e,z)) (hu:PK P u=Ri) (hx:opE en x=Rk (hS g b ver z.n n)) (hy:opE en y=Rk (eL c [v])) (hk:H[b]? = Rk (bE g ver z.n e<|xs.map c)) (hn:n=xs.length) (hg:g=Ri->xs=[]) (hc:∀ x,(c x).length=z.n) (hb:bT (xs.length+1) z.m=Ri)
  (k:TO P nt b0 ops l Q (ai ((d,hS Rj b (ver+1) z.n (xs++[v]).length)::en))<|H.set b<|bE Rj (ver+1) z.n e<|(xs++[v]).map c):TO P nt b0 ops (⟨Rk d,.call ⟨.builtin .append,#[x,y],#[t,u]⟩,ty,pos,af,Rl⟩::l) Q (ai en) H:=
 oA (EvA.app1 v (Fs hq) (KO hu) (gm hx) hn hk hg (bL.fz (l:=[v]) (gm hy) hc) hb) k
theorem eQ (hq:slq P t=Rk (e,z)) (hu:PK P u=Ri) (hx:opE en x=Rk (hS Rj b ver z.n n)) (hy:opE en y=Rk (eL c k)) (hk:H[b]? = Rk (bE Rj ver z.n e<|xs.map c)) (hn:n=xs.length) (hc:∀ x,(c x).length=z.n) (hb:bT (xs.length+k.length) z.m=Ri)
  (kk:TO P nt b0 ops l Q (ai ((d,hS Rj b (ver+1) z.n (xs++k).length)::en))<|H.set b<|bE Rj (ver+1) z.n e<|(xs++k).map c):TO P nt b0 ops (⟨Rk d,.call ⟨.builtin .append,#[x,y],#[t,u]⟩,ty,pos,af,Rl⟩::l) Q (ai en) H:=
 oA (EvA.appF k (Fs hq) (KO hu) (gm hx) hn hk (bL.fz (gm hy) hc) hb) kk
theorem eU (hq:slq P t=Rk (e,z)) (hx:opE en x=Rk (hS g b ver w n)) (hg:g=Ri->n=0) (k:TO P nt b0 ops l Q (ai ((d,I n)::en)) H):TO P nt b0 ops (⟨Rk d,.call ⟨.builtin .len,#[x],#[t]⟩,ty,pos,af,Rl⟩::l) Q (ai en) H:=oN (QR.lenO (Fs hq) (gm hx) hg) k
theorem eW {s:Nat} {ag:Bool} {n:Nat} {uu:TypeDesc} {zs:List AV} {m:Nat} (hz:tq P t=Rk ⟨uu,ag,n,zs,m⟩) (hx:opE en x=Rk (.hp b ver s q j)) (hk:H[b]? = Rk (bE g ver s e'<|xs.map c)) (hg:g=Ri->xs=[]) (hi:q<xs.length) (hp:Fj ag n (c<|xs.getD q Rh) j okV=Rk (Rl,a)) (k:TO P nt b0 ops l Q (ai ((d,a)::en)) H):TO P nt b0 ops (⟨Rk d,.load t x,ty,pos,af,Rl⟩::l) Q (ai en) H:=by
 obtain ⟨a',ha,h'⟩:=wh hp;obtain ⟨_,rfl⟩:=dM h';exact oA (EvA.ldO _ (kX hz).ty (gm hx) hk hg hi ha) k
theorem fW' {s:Nat} {ag:Bool} {n:Nat} {uu:TypeDesc} {zs:List AV} {m:Nat} (hz:tq P t=Rk ⟨uu,ag,n,zs,m⟩) (hx:opE en x=Rk (.hp b ver s q j)) (hk:H[b]? = Rk (bE g ver s e'<|xs.map c)) (hf:fp i=([b],Rj)) (hg:g=Ri->xs=[]) (hi:q<xs.length) (hp:Fj ag n (c<|xs.getD q Rh) j okV=Rk (Rl,a)) (k:TF P fp (i+1) l K (ai ((d,a)::en)) H):TF P fp i (⟨Rk d,.load t x,ty,pos,af,Rl⟩::l) K (ai en) H:=by
 obtain ⟨a',ha,h'⟩:=wh hp;obtain ⟨_,rfl⟩:=dM h';exact fR [b] hf (λG hG=>EvA.ldO _ (kX hz).ty (gm hx) (hG.a0 hk) hg hi ha) k
end
attribute [local irreducible] T TO TF TG TX QR EvA
theorem go {P Q:Prop} {α:Type} {x:Option α} {r:α} (h:x=some r) (k:Q) (c:x=some r->Q->P:=by
 intro h k;have f:=True.intro
 repeat first
  | refine eM rfl ?_
  | refine fM rfl rfl ?_
  | refine eN rfl ?_
  | refine eR rfl ?_
  | refine fA rfl rfl ?_
  | refine fN' rfl rfl ?_
  | refine T.sr ?_
  | refine TO.nil ?_
  | ((first | refine jD h ?_ | refine jW h ?_);clear h;intro g h;(first | refine eG rfl g ?_ | refine fG' rfl rfl g ?_ | refine hG rfl (by first | assumption | rfl) rfl g ?_ | refine xG' rfl rfl rfl g ?_ | refine tG' rfl rfl g ?_ | refine PI rfl (by first | assumption | rfl) rfl rfl g ?_);replace f:=And.intro g f)
  | refine eG rfl (by first | assumption | decide) ?_
  | refine fG' rfl rfl (by first | assumption | decide) ?_
  | refine eA rfl ?_
  | refine eS rfl rfl rfl ?_
  | refine eL_ rfl rfl ?_
  | refine fL' rfl rfl rfl ?_
  | refine fS' rfl rfl rfl rfl ?_
  | (refine jL h ?_;clear h;intro g h;(first | refine eP rfl rfl rfl rfl rfl rfl (by first | assumption | exact λ_=>rfl | exact λx=>Bool.noConfusion x | exact λx=>List.eq_nil_of_length_eq_zero<|by simp_all) (λ_=>rfl) g ?_ | refine eQ rfl rfl rfl rfl rfl rfl (λ_=>rfl) g ?_);replace f:=And.intro g f)
  | refine eU rfl rfl (by first | exact FO (by assumption) rfl | exact λx=>Bool.noConfusion x | assumption) ?_
  | refine eW rfl rfl rfl (by first | assumption | exact λ_=>rfl | exact λx=>Bool.noConfusion x | exact λx=>List.eq_nil_of_length_eq_zero<|by simp_all) (aQ rfl<|by assumption) rfl ?_
  | refine fW' rfl rfl rfl rfl (by first | assumption | exact λ_=>rfl | exact λx=>Bool.noConfusion x | exact λx=>List.eq_nil_of_length_eq_zero<|by simp_all) (aQ rfl<|by assumption) rfl ?_
  | refine hM rfl (by first | assumption | rfl) rfl ?_
  | refine hR rfl (by first | assumption | rfl) rfl ?_
  | refine hN rfl (by first | assumption | rfl) rfl ?_
  | refine hG rfl (by first | assumption | rfl) rfl (by first | assumption | decide) ?_
  | refine gS rfl (by first | assumption | rfl) ?_
  | refine gU rfl ?_
  | refine xM rfl rfl rfl ?_
  | refine xAs rfl rfl rfl ?_
  | refine xN' rfl rfl rfl ?_
  | refine xG' rfl rfl rfl (by first | assumption | decide) ?_
  | refine tM rfl rfl ?_
  | refine tA rfl rfl ?_
  | refine tN' rfl rfl ?_
  | refine tG' rfl rfl (by first | assumption | decide) ?_
  | refine tL' rfl rfl rfl ?_
  | refine tgM rfl (by first | assumption | rfl) rfl rfl ?_
  | refine Qy rfl (by first | assumption | rfl) rfl rfl ?_
  | refine PI rfl (by first | assumption | rfl) rfl rfl (by first | assumption | decide) ?_
  | refine tgS rfl (by first | assumption | rfl) ?_
  | refine tgU rfl ?_
  | refine T.skip ?_
  | refine T.block ?_
  | refine T.region ?_
  | refine T.ret ?_
  | refine TF.nil ?_
  | refine TG.nil ?_
  | refine TX.nil ?_
  | ((first | refine jD h ?_ | refine jW h ?_);clear h;intro g h;(first | refine eG rfl (And.intro (by first | assumption | decide) g) ?_ | refine fG' rfl rfl (And.intro (by first | assumption | decide) g) ?_);replace f:=And.intro g f)
  | ((first | refine jD h ?_ | refine jW h ?_);clear h;intro g h;(first | refine jD h ?_ | refine jW h ?_);clear h;intro g' h;(first | refine eG rfl (And.intro g g') ?_ | refine fG' rfl rfl (And.intro g g') ?_);replace f:=And.intro g'<|And.intro g f)
 revert h
 revert f
 exact k):P:=c h k
theorem gs {P Q:Prop} {α:Type} {x:Option α} {r:α} (h:x=some r) (k:Q) (c:x=some r->Q->P:=by
 intro h k;refine T.seq ?_;refine go h λf h=>?_
 revert h
 revert f
 exact k):P:=c h k
theorem gz {P:Prop} {α:Type} {x:Option α} {r:α} (h:x=some r) (c:x=some r->P:=by
 intro h;refine go h λf h=>?_;obtain rfl:=QU h;exact FZ rfl rfl rfl):P:=c h
theorem gi {P Q R:Prop} {α:Type} {x:Option α} {r:α} (h:x=some r) (k:Q) (l:R) (c:x=some r->Q->R->P:=by
 intro h k l;refine go h λf h=>?_;refine T.ifH rfl h (λq h=>?_) λq h=>?_
 ·revert q h;revert f;exact k
 revert q h;revert f;exact l):P:=c h k l
theorem Rb {P Q R:Prop} {α:Type} {x:Option α} {r:α} (h:x=some r) (k:Q) (l:R) (c:x=some r->Q->R->P:=by
 intro h k l;refine T.seq ?_;refine go h λf h=>?_;refine T.ifH rfl h (λq h=>?_) λq h=>?_
 ·revert q h;revert f;exact k
 revert q h;revert f;exact l):P:=c h k l
theorem gp {P Q:Prop} {α:Type} {x:Option α} {r:α} (h:x=some r) (k:Q) (c:x=some r->Q->P:=by
 intro h k;refine go h λf h=>?_
 first | refine hPT rfl (by first | assumption | rfl) rfl ?_ | refine hPF rfl (by first | assumption | rfl) rfl ?_ | refine tPT rfl (by first | assumption | rfl) rfl rfl ?_ | refine tPF rfl (by first | assumption | rfl) rfl rfl ?_
 revert h
 revert f
 exact k):P:=c h k
theorem gj {P J:Prop} {α:Type} {x:Option α} {r:α} (h:x=some r) (j:J) (c:x=some r->J->P:=by
 intro h j;refine gp h λf h=>?_;obtain rfl:=QU h;exact j _ _ (kw rfl rfl)):P:=c h j
theorem stc {m:Nat} {H:AH} {en l:List (Nat×AV)} {t:Nat} {v a:AV} (hv:Fq en t=Rk v) (h:Stl m H v a) (w:∀ q,Stl m H (ai en q)<|ai l q):∀ q,Stl m H (ai en q) (ai ((t,a)::l) q):=au ((wm hv).symm ▸ h) w
theorem stS {m:Nat} {H:AH} {g:Bool} {b ver s n:Nat} {a:AV} (ha:a=hS g b ver s n) (hb:Xj b m=Ri):Stl m H a (hS g b ver s n) := .eqv ha<|.hS hb
theorem Re {p:Prop} (c:p:=by
  first
    | exact kw rfl rfl
    | (refine uY rfl ?_ ?_
       · repeat' first
           | exact .nil
           | refine .cons ?_ ?_
           | exact .list (λ_=>rfl)
           | exact .mp (λ_=>rfl)
           | refine .row ?_
           | exact .fz .nil0
           | exact .fz (.of_isF 9 _ rfl)
           | exact stS rfl rfl
           | exact .mp (nlb rfl)
           | exact .hs (nlb rfl)
           | exact .hp (nlb rfl)
           | exact .fz (Fz.own rfl rfl rfl (by first | assumption | exact λ_=>rfl | exact λx=>Bool.noConfusion x | exact λx=>List.eq_nil_of_length_eq_zero<|by simp_all) λ_=>rfl)
       repeat' first
         | exact bB
         | refine stc rfl ?_ ?_
         | exact .fz .nil0
         | exact .fz (.of_isF 9 _ rfl)
         | exact stS rfl rfl
         | exact .mp (nlb rfl)
         | exact .hs (nlb rfl)
         | exact .hp (nlb rfl)
         | exact .fz (Fz.own rfl rfl rfl (by first | assumption | exact λ_=>rfl | exact λx=>Bool.noConfusion x | exact λx=>List.eq_nil_of_length_eq_zero<|by simp_all) λ_=>rfl)
         | refine .fz (Fz.fpL rfl rfl rfl ?_)
         | exact .nil
         | refine .cons ?_ ?_
         | exact .of_isF 9 _ rfl)):p:=c
section
variable {P:Program} {nt b0:Nat} {Q:Exit->Env->AH->Prop} {e:Env} {H:AH} {S E G W:Type} {body x y:Code} {r:E} {step:S->Option (S ⊕ E)} {s0:S} {w:W} {A:Option S} {K:S->Option W}
theorem tL (h:loopO step s0=Rk r) (g0:G) (inv:S->G->Prop) (slots:S->G->List (Nat×AV)) (heap:S->G->AH) (hi:inv s0 g0)
 (round:∀ s g z,step s=Rk z->inv s g->T P nt b0 body (GR (FK b0 inv slots heap z)<|Leave Q r z) (ai<|slots s g) (heap s g)) (hs:eZ b0 e H (ai<|slots s0 g0) (heap s0 g0):=by exact Re):T P nt b0 (.loop body) Q e H:=T.loop step inv slots heap g0 h hi hs round
theorem tT (h:loopO step s0=Rk r) (g0:G) (slots:S->G->List (Nat×AV)) (heap:S->G->AH)
 (round:∀ s g z,step s=Rk z->T P nt b0 body (GR (FK b0 (λ_ _=>True) slots heap z)<|Leave Q r z) (ai<|slots s g) (heap s g)) (hs:eZ b0 e H (ai<|slots s0 g0) (heap s0 g0):=by exact Re):T P nt b0 (.loop body) Q e H:=T.loop step (λ_ _=>True) slots heap g0 h trivial hs λs g z hz _=>round s g z hz
theorem tU (h:loopO step s0=Rk r) (slots:S->List (Nat×AV)) (heap:S->AH)
 (round:∀ s z,step s=Rk z->T P nt b0 body (GR (FK b0 (λ_ (_:Unit)=>True) (λs _=>slots s) (λs _=>heap s) z)<|Leave Q r z) (ai<|slots s) (heap s)) (hs:eZ b0 e H (ai<|slots s0) (heap s0):=by exact Re):T P nt b0 (.loop body) Q e H:=T.lU h slots heap hs round
theorem tJ (h:A.bind K=Rk w) (slots:S->G->List (Nat×AV)) (heap:S->G->AH)
 (J:∀ s g,K s=Rk w->T P nt b0 y Q (ai<|slots s g) (heap s g)) (k:∀ s,A=Rk s->T P nt b0 x (GR (Px b0 (λ_=>True) (slots s)<|heap s) Q) e H):T P nt b0 (.seq x y) Q e H:=T.jF h (λ_ _=>True) slots heap (λs g h _=>J s g h) k
end
def Oa (P:Program) [Tab P] (en:List<|Nat×AV) (H:AH):List ResultVar->Option (List AV)
 | []=>Rk []
 | .tmp t::l=>(match Fq en t,Oa P en H l with
  | some v,Rk r=>Rk (v::r)
  | _,_=>Rl)
 | .cell ad t::l=>(match tq P t,Fq en ad,Oa P en H l with
  | some ⟨_,ag,n,_,_⟩,Rk (.hp b ver s i j),Rk r=>(match H[b]? with
   | some (Rk ⟨uF,s',_,rows⟩)=>bif Xi uF ver&&Xi s' s then (match rows[i]? with
    | some row=>(match Fj ag n row j okV with
     | some (Rl,a)=>Rk (a::r)
     | _=>Rl)
    | none=>Rl) else Rl
   | _=>Rl)
  | _,_,_=>Rl)
theorem Ep {P:Program} [Tab P] {en:List (Nat×AV)} {H:AH}:∀ {l:List ResultVar} {vs:List AV},Oa P en H l=Rk vs->ResL P (ai en) H l vs
 | [],vs,h=>by
  obtain rfl:=osl h;exact .nil
 | .tmp t::l,vs,h=>by
  unfold Oa at h
  split at h
  ·rename_i v r hv hr;obtain rfl:=osl h;exact .cons (.tmp<|wm hv)<|Ep hr
  cases h
 | .cell ad t::l,vs,h=>by
  unfold Oa at h
  split at h
  ·rename_i b ver s i j r hz hv hr
   split at h
   ·rename_i uF s' _ rows hk
    cases hb:(Xi uF ver&&Xi s' s) with
    | true=>
     rw [hb] at h;simp only [cond_true] at h
     split at h
     ·rename_i row hrow
      split at h
      ·rename_i a ha;obtain ⟨a',ha',h'⟩:=wh ha;obtain ⟨_,rfl⟩:=dM h';obtain rfl:=osl h;rw [bae] at hb;exact .cons (.cell _ (kX hz).ty (wm hv) hk (Xk hb.1) (Xk hb.2) hrow ha')<|Ep hr
      cases h
     cases h
    | false=>rw [hb] at h;cases h
   cases h
  cases h
theorem QL {P:Program} [Tab P] {fn:Func} {R:AV->AH->Prop} {en:List (Nat×AV)} {G:AH} {vs:List AV} (h:Oa P en G fn.results.toList=Rk vs) (k:R (Oh vs) G):Fin P fn R .ret (ai en) G := .ret (Ep h) k
theorem QM {P:Program} [Tab P] {fn:Func} {R:AV->AH->Prop} {en:List (Nat×AV)} {G:AH} {vs:List AV} (h:Oa P en G fn.results.toList=Rk vs) (k:R (Oh vs) G):Fin P fn R .normal (ai en) G := .normal (Ep h) k
theorem gf {P:Prop} {α:Type} {x:Option α} {r:α} (h:x=some r) (c:x=some r->P:=by
 intro h;refine go h λf h=>?_;obtain rfl:=QU h
 repeat first | refine n9 ?_ | refine og ?_
 first | refine QL rfl ?_ | refine QM rfl ?_
 repeat' first
   | exact .of_isF 9 _ rfl
   | exact .nil
   | exact .nil0
   | refine .cons ?_ ?_
   | exact Fz.own rfl rfl (by first | rfl | simp) (by first | assumption | exact λ_=>rfl | exact λx=>Bool.noConfusion x | exact λx=>List.eq_nil_of_length_eq_zero<|by simp_all) (λ_=>rfl)
   | refine .ifc ?_
   | refine .tupL ?_
   | refine .aggL ?_
   | refine Fz.fpL rfl rfl rfl ?_):P:=c h
theorem gk {P Q:Prop} {α:Type} {x:Option α} {r:α} (h:x=some r) (k:Q) (c:x=some r->Q->P:=by
 intro h k;refine go h λf h=>?_
 first
  | refine eK (c:=cI) rfl rfl ?_ (λ_=>rfl) (λ_=>rfl) rfl
  | refine eK (c:=cY) rfl rfl ?_ (λ_=>rfl) (λ_=>rfl) rfl
  | refine eK (c:=cS) rfl rfl ?_ (λ_=>rfl) (λ_=>rfl) rfl
  | refine eK (c:=cB) rfl rfl ?_ (λ_=>rfl) (λ_=>rfl) rfl
  | refine eK (c:=cL _) rfl rfl ?_ (λ_=>rfl) (λ_=>rfl) rfl
  | refine eK rfl rfl ?_ (λ_=>rfl) (λ_=>rfl) rfl
  | refine fK (c:=cI) rfl rfl rfl ?_ (λ_=>rfl) (λ_=>rfl) rfl
  | refine fK (c:=cY) rfl rfl rfl ?_ (λ_=>rfl) (λ_=>rfl) rfl
  | refine fK (c:=cS) rfl rfl rfl ?_ (λ_=>rfl) (λ_=>rfl) rfl
  | refine fK (c:=cB) rfl rfl rfl ?_ (λ_=>rfl) (λ_=>rfl) rfl
  | refine fK (c:=cL _) rfl rfl rfl ?_ (λ_=>rfl) (λ_=>rfl) rfl
  | refine fK rfl rfl rfl ?_ (λ_=>rfl) (λ_=>rfl) rfl
 refine go h λf' h=>?_
 revert h
 revert f'
 revert f
 exact k):P:=c h k
theorem gq {P Q:Prop} {α:Type} {x:Option α} {r:α} (h:x=some r) (k:Q) (c:x=some r->Q->P:=by
 intro h k;have f:=True.intro
 repeat first
  | refine eM rfl ?_
  | refine fM rfl rfl ?_
  | refine eN rfl ?_
  | refine eR rfl ?_
  | refine fA rfl rfl ?_
  | refine fN' rfl rfl ?_
  | refine TO.nil ?_
  | ((first | refine jD h ?_ | refine jW h ?_);clear h;intro g h;(first | refine eG rfl g ?_ | refine fG' rfl rfl g ?_ | refine hG rfl (by first | assumption | rfl) rfl g ?_ | refine xG' rfl rfl rfl g ?_ | refine tG' rfl rfl g ?_ | refine PI rfl (by first | assumption | rfl) rfl rfl g ?_);replace f:=And.intro g f)
  | refine eG rfl (by first | assumption | decide) ?_
  | refine fG' rfl rfl (by first | assumption | decide) ?_
  | refine eA rfl ?_
  | refine eS rfl rfl rfl ?_
  | refine eL_ rfl rfl ?_
  | refine fL' rfl rfl rfl ?_
  | refine fS' rfl rfl rfl rfl ?_
  | (refine jL h ?_;clear h;intro g h;(first | refine eP rfl rfl rfl rfl rfl rfl (by first | assumption | exact λ_=>rfl | exact λx=>Bool.noConfusion x | exact λx=>List.eq_nil_of_length_eq_zero<|by simp_all) (λ_=>rfl) g ?_ | refine eQ rfl rfl rfl rfl rfl rfl (λ_=>rfl) g ?_);replace f:=And.intro g f)
  | refine eU rfl rfl (by first | exact FO (by assumption) rfl | exact λx=>Bool.noConfusion x | assumption) ?_
  | refine eW rfl rfl rfl (by first | assumption | exact λ_=>rfl | exact λx=>Bool.noConfusion x | exact λx=>List.eq_nil_of_length_eq_zero<|by simp_all) (aQ rfl<|by assumption) rfl ?_
  | refine fW' rfl rfl rfl rfl (by first | assumption | exact λ_=>rfl | exact λx=>Bool.noConfusion x | exact λx=>List.eq_nil_of_length_eq_zero<|by simp_all) (aQ rfl<|by assumption) rfl ?_
  | refine hM rfl (by first | assumption | rfl) rfl ?_
  | refine hR rfl (by first | assumption | rfl) rfl ?_
  | refine hN rfl (by first | assumption | rfl) rfl ?_
  | refine hG rfl (by first | assumption | rfl) rfl (by first | assumption | decide) ?_
  | refine gS rfl (by first | assumption | rfl) ?_
  | refine gU rfl ?_
  | refine xM rfl rfl rfl ?_
  | refine xAs rfl rfl rfl ?_
  | refine xN' rfl rfl rfl ?_
  | refine xG' rfl rfl rfl (by first | assumption | decide) ?_
  | refine tM rfl rfl ?_
  | refine tA rfl rfl ?_
  | refine tN' rfl rfl ?_
  | refine tG' rfl rfl (by first | assumption | decide) ?_
  | refine tL' rfl rfl rfl ?_
  | refine tgM rfl (by first | assumption | rfl) rfl rfl ?_
  | refine Qy rfl (by first | assumption | rfl) rfl rfl ?_
  | refine PI rfl (by first | assumption | rfl) rfl rfl (by first | assumption | decide) ?_
  | refine tgS rfl (by first | assumption | rfl) ?_
  | refine tgU rfl ?_
  | refine TF.nil ?_
  | refine TG.nil ?_
  | refine TX.nil ?_
  | ((first | refine jD h ?_ | refine jW h ?_);clear h;intro g h;(first | refine eG rfl (And.intro (by first | assumption | decide) g) ?_ | refine fG' rfl rfl (And.intro (by first | assumption | decide) g) ?_);replace f:=And.intro g f)
  | ((first | refine jD h ?_ | refine jW h ?_);clear h;intro g h;(first | refine jD h ?_ | refine jW h ?_);clear h;intro g' h;(first | refine eG rfl (And.intro g g') ?_ | refine fG' rfl rfl (And.intro g g') ?_);replace f:=And.intro g'<|And.intro g f)
 revert h
 revert f
 exact k):P:=c h k
set_option maxRecDepth 100000
noncomputable instance:Tab Rn:=⟨[.m Tryz.underlying2 Rj 1 [I (0:Int)] 8,.m Tryz.underlying3 Rj 1 [I (0:Int)] 8,.m Tryz.underlying4 Rj 1 [Bo Rj] 1,.m Tryz.underlying5 Rj 1 [Y (0:Int)] 1,.m Tryz.underlying6 Rj 1 [Y (0:Int)] 1,.m Tryz.underlying9 Rj 1 [St (⟨#[]⟩:BA)] 16,.m Tryz.underlying12 Rj 1 [.v (.int .u64 (0:Int))] 8,.m Tryz.underlying21 Rj 1 [.v (.int .i32 (0:Int))] 4,.m Tryz.underlying22 Rj 1 [.nil] 24,.m Tryz.underlying23 Rj 1 [.nil] 24,.m Tryz.underlying24 Rj 1 [.nil] 24,.m Tryz.underlying25 Rj 1 [.nil] 24,.m Tryz.underlying27 Ri 2 [.nil,.nil] 48,.m Tryz.underlying34 Rj 1 [.nil] 24,.m Tryz.underlying51 Rj 1 [.nil] 24,.m Tryz.underlying52 Rj 1 [.nil] 24,.m Tryz.underlying57 Rj 1 [.nil] 24,.m Tryz.underlying60 Ri 5 [I (0:Int),I (0:Int),I (0:Int),Bo Rj,Bo Rj] 32,.m Tryz.underlying73 Rj 1 [.nil] 24,.m Tryz.underlying79 Ri 4 [I (0:Int),I (0:Int),I (0:Int),I (0:Int)] 32,.m Tryz.underlying91 Rj 1 [.v (.map Rl)] 8,.m Tryz.underlying93 Ri 6 [.nil,.nil,.nil,.nil,.nil,.v (.map Rl)] 128,.m Tryz.underlying95 Ri 3 [I (0:Int),I (0:Int),I (0:Int)] 24,.m Tryz.underlying108 Rj 1 [.v (.int .u64 (0:Int))] 8,.m Tryz.underlying114 Rj 1 [.nil] 24,.m Tryz.underlying116 Ri 3 [I (0:Int),St (⟨#[]⟩:BA),.nil] 48,.m Tryz.underlying120 Ri 4 [I (0:Int),I (0:Int),St (⟨#[]⟩:BA),.nil] 56,.m Tryz.underlying138 Rj 1 [.nil] 24,.m Tryz.underlying140 Ri 6 [.nil,.nil,.nil,.nil,.nil,.nil] 144,.m Tryz.underlying151 Rj 1 [.nil] 24,.m Tryz.underlying157 Ri 2 [.nil,I (0:Int)] 32,.m Tryz.underlying162 Rj 1 [I (0:Int)] 8,.m Tryz.underlying168 Rj 1 [.v (.int .u32 (0:Int))] 4,.m Tryz.underlying170 Rj 1 [.v (.int .u64 (0:Int))] 8,.m Tryz.underlying174 Ri 2 [St (⟨#[]⟩:BA),Bo Rj] 24,.m Tryz.underlying184 Ri 3 [Y (0:Int),Y (0:Int),Y (0:Int)] 3,.m Tryz.underlying185 Ri 9 [Y (0:Int),Y (0:Int),Y (0:Int),Y (0:Int),Y (0:Int),Y (0:Int),Y (0:Int),Y (0:Int),Y (0:Int)] 9,.m Tryz.underlying187 Ri 16 [.nil,Y (0:Int),Y (0:Int),Y (0:Int),Y (0:Int),Y (0:Int),Y (0:Int),Y (0:Int),Y (0:Int),Y (0:Int),Y (0:Int),Y (0:Int),Y (0:Int),Y (0:Int),Y (0:Int),Y (0:Int)] 40,.m Tryz.underlying189 Ri 16 [.nil,Y (0:Int),Y (0:Int),Y (0:Int),Y (0:Int),Y (0:Int),Y (0:Int),Y (0:Int),Y (0:Int),Y (0:Int),Y (0:Int),Y (0:Int),Y (0:Int),Y (0:Int),Y (0:Int),Y (0:Int)] 40,.m Tryz.underlying216 Rj 1 [.v (.int .u64 (0:Int))] 8,.m Tryz.underlying277 Ri 2 [Y (0:Int),Y (0:Int)] 2,.m Tryz.underlying288 Rj 1 [Y (0:Int)] 1,.m Tryz.underlying289 Rj 1 [Y (0:Int)] 1,.m Tryz.underlying291 Rj 1 [.v (.int .i32 (0:Int))] 4,.m Tryz.underlying292 Rj 1 [.v (.int .i32 (0:Int))] 4,.m Tryz.underlying15 Rj 1 [.v (.pointer Rl)] 8,.m Tryz.underlying16 Rj 1 [.v (.pointer Rl)] 8,.m Tryz.underlying17 Rj 1 [.v (.pointer Rl)] 8,.m Tryz.underlying84 Rj 1 [.v (.pointer Rl)] 8,.m Tryz.underlying89 Rj 1 [.v (.pointer Rl)] 8,.m Tryz.underlying137 Rj 1 [.v (.pointer Rl)] 8,.m Tryz.underlying172 Rj 1 [.v (.pointer Rl)] 8,.m Tryz.underlying183 Rj 1 [.v (.pointer Rl)] 8,.m Tryz.underlying196 Rj 1 [.v (.pointer Rl)] 8,.m Tryz.underlying220 Rj 1 [.v (.pointer Rl)] 8,.m Tryz.underlying242 Rj 1 [.v (.pointer Rl)] 8,.m Tryz.underlying247 Rj 1 [.v (.pointer Rl)] 8,.m Tryz.underlying298 Rj 1 [.v (.pointer Rl)] 8]⟩
end
end Go.Proofs.YtabfkkjdfhbngaaGreatDoor
