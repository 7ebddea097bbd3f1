/- Texts joined. No conditions. -/
import Derived.Test.YtlmjnhnpahicmaaGreatQ6
namespace Go.Proofs.YtlmjnhnpahicmaaGreat
noncomputable section
open Go.RowKit
set_option maxRecDepth 100000
structure Mac (σ:Type) where
 mv:σ->LI
 af:σ->Int->σ
 ky:σ->ByteArray
 dn:σ->Bool
 oc:σ->LI
section
variable {σ:Type} (M:Mac σ)
inductive Rea (s0:σ):σ->Prop
 | base:Rea s0 s0
 | step {s:σ} {m:Int} (h:Rea s0 s) (hm:m∈M.mv s):Rea s0 (M.af s m)
def Ky (s0:σ) (o:LI):Prop:=∃ s,Rea M s0 s/\M.dn s=true/\M.oc s=o
structure Mok (s0:σ) (N:Nat):Prop where
 key:∀ s t,Rea M s0 s->Rea M s0 t->M.ky s=M.ky t->s=t
 cnt:∀ V:List σ,V.Nodup->(∀ v∈V,Rea M s0 v)->V.length<=N
variable {M} {s0:σ} {N:Nat}
def kys (M:Mac σ) (V:List σ):List (ByteArray×Bool):=V.map fun v=>(M.ky v,true)
theorem B0 (V:List σ) (k:ByteArray):(∃ j,qR (kys M V) k=some j)↔∃ v∈V,M.ky v=k:=by
 unfold qR kys;rw [List.map_map]
 cases h:List.findIdx? (fun x=>decide (x=k)) (V.map ((fun x:ByteArray×Bool=>x.1) ∘ fun v=>(M.ky v,true))) with
 | none=>
  rw [List.findIdx?_eq_none_iff] at h;refine ⟨fun ⟨j,hj⟩=>(by cases hj),fun ⟨v,hv,e⟩ => ?_⟩;have := h (M.ky v) (List.mem_map.2 ⟨v,hv,rfl⟩);rw [e] at this;simp at this
 | some j=>
  refine ⟨fun _=>?_,fun _=>⟨j,rfl⟩⟩;obtain ⟨h1,h2,_⟩:=List.findIdx?_eq_some_iff_getElem.1 h;have hj:j<V.length:=by simpa using h1
  refine ⟨V[j],List.getElem_mem hj,?_⟩;simpa using h2
theorem Ca (V:List σ) (k:ByteArray):((yU (kys M V) k).getD false)=true↔∃ v∈V,M.ky v=k:=by
 rw [<- B0];unfold yU
 cases h:qR (kys M V) k with
 | none=>simp
 | some j=>
  obtain ⟨hj,v,hv⟩:=rX h;rw [Option.bind_some,hv];have : (k,v)∈kys M V:=List.mem_of_getElem? hv;unfold kys at this;obtain ⟨u,_,e⟩:=List.mem_map.1 this;injection e with _ e;subst e;simp
theorem IK {V:List σ} {s:σ} (h : ¬ ∃ v∈V,M.ky v=M.ky s):wI (kys M V) (M.ky s) true=kys M (V++[s]):=by
 unfold wI
 cases hm:qR (kys M V) (M.ky s) with
 | some j=>exact absurd ((B0 V _).1 ⟨j,hm⟩) h
 | none=>simp [kys]
def Done (M:Mac σ) (V:List σ) (outs:LL) (v:σ):Prop:=(∀ m∈M.mv v,M.af v m∈V)/\(M.dn v=true->M.oc v∈outs)
structure Srch (M:Mac σ) (s0:σ) (V stack:List σ) (outs:List (List Int)) (cur:Option (σ×Nat)):Prop where
 rea:∀ v∈V,Rea M s0 v
 base:s0∈V
 nd:V.Nodup
 sub:∀ v∈stack,v∈V
 all:∀ v∈V,v∈stack\/(∃ n,cur=some (v,n))\/Done M V outs v
 out:∀ o∈outs,∃ v∈V,M.dn v=true/\M.oc v=o
 len:outs.length+stack.length<=V.length
 cur_:∀ s n,cur=some (s,n)->s∈V/\(M.dn s=true->M.oc s∈outs)/\∀ j,j<n->∀ m,(M.mv s)[j]? = some m->M.af s m∈V
theorem Srch.start:Srch M s0 [s0] [s0] [] none where
 rea:=fun v hv=>by rw [List.mem_singleton.1 hv];exact .base
 base:=List.mem_singleton.2 rfl
 nd:=by simp
 sub:=fun v hv=>hv
 all:=fun v hv => .inl hv
 out:=nofun
 len:=by simp
 cur_:=nofun
theorem Srch.pop {V stack:List σ} {s:σ} {outs:LL} (h:Srch M s0 V (stack++[s]) outs none) {outs':LL} (ho:outs'=if M.dn s then outs++[M.oc s] else outs):Srch M s0 V stack outs' (some (s,0)) where
 rea:=h.rea
 base:=h.base
 nd:=h.nd
 sub:=fun v hv=>h.sub v (List.mem_append_left _ hv)
 all:=fun v hv=>by
  rcases h.all v hv with h1 | ⟨n,h1⟩ | ⟨h1,h2⟩
  ·rcases List.mem_append.1 h1 with h1 | h1
   ·exact .inl h1
   ·rw [List.mem_singleton.1 h1];exact .inr (.inl ⟨0,rfl⟩)
  ·cases h1
  ·refine .inr (.inr ⟨h1,fun hd=>?_⟩);rw [ho]
   split
   ·exact List.mem_append_left _ (h2 hd)
   ·exact h2 hd
 out:=fun o hm=>by
  rw [ho] at hm
  split at hm
  ·rename_i hd;rcases List.mem_append.1 hm with hm | hm
   ·exact h.out o hm
   ·rw [List.mem_singleton.1 hm];exact ⟨s,h.sub s (List.mem_append_right _ (List.mem_singleton.2 rfl)),hd,rfl⟩
  ·exact h.out o hm
 len:=by
  have := h.len;rw [lla,List.length_singleton] at this;rw [ho]
  split
  ·rw [lla,List.length_singleton];omega
  ·omega
 cur_:=fun t n e=>by
  injection e with e;injection e with e1 e2;subst e1 e2;refine ⟨h.sub s (List.mem_append_right _ (List.mem_singleton.2 rfl)),fun hd=>?_,fun j hj=>absurd hj (by omega)⟩;rw [ho,if_pos hd];exact List.mem_append_right _ (List.mem_singleton.2 rfl)
theorem Srch.old {V stack:List σ} {s:σ} {outs:LL} {n:Nat} {m:Int} (h:Srch M s0 V stack outs (some (s,n))) (hm:(M.mv s)[n]? = some m) (hv:M.af s m∈V):Srch M s0 V stack outs (some (s,n+1)) where
 rea:=h.rea
 base:=h.base
 nd:=h.nd
 sub:=h.sub
 all:=fun v hv=>by
  rcases h.all v hv with h1 | ⟨k,h1⟩ | h1
  ·exact .inl h1
  ·injection h1 with h1;injection h1 with h1 _;subst h1;exact .inr (.inl ⟨n+1,rfl⟩)
  ·exact .inr (.inr h1)
 out:=h.out
 len:=h.len
 cur_:=fun t k e=>by
  injection e with e;injection e with e1 e2;subst e1 e2;obtain ⟨g1,g2,g3⟩:=h.cur_ s n rfl;refine ⟨g1,g2,fun j hj m' hm' => ?_⟩;rcases Nat.lt_or_ge j n with h' | h'
  ·exact g3 j h' m' hm'
  ·obtain rfl:j=n:=by omega
   rw [hm] at hm';obtain rfl:=osl hm';exact hv
theorem Srch.new {V stack:List σ} {s:σ} {outs:LL} {n:Nat} {m:Int} (h:Srch M s0 V stack outs (some (s,n))) (hm:(M.mv s)[n]? = some m) (hv:M.af s m∉V):Srch M s0 (V++[M.af s m]) (stack++[M.af s m]) outs (some (s,n+1)) where
 rea:=fun v hv=>by
  rcases List.mem_append.1 hv with hv | hv
  ·exact h.rea v hv
  ·rw [List.mem_singleton.1 hv];exact .step (h.rea s (h.cur_ s n rfl).1) (List.mem_of_getElem? hm)
 base:=List.mem_append_left _ h.base
 nd:=by
  rw [List.nodup_append];exact ⟨h.nd,by simp,fun a ha b hb e=>hv (by rw [<- List.mem_singleton.1 hb,<- e];exact ha)⟩
 sub:=fun v hv=>by
  rcases List.mem_append.1 hv with hv | hv
  ·exact List.mem_append_left _ (h.sub v hv)
  ·exact List.mem_append_right _ hv
 all:=fun v hv=>by
  rcases List.mem_append.1 hv with hv | hv
  ·rcases h.all v hv with h1 | ⟨k,h1⟩ | ⟨h1,h2⟩
   ·exact .inl (List.mem_append_left _ h1)
   ·injection h1 with h1;injection h1 with h1 _;subst h1;exact .inr (.inl ⟨n+1,rfl⟩)
   ·exact .inr (.inr ⟨fun m hm=>List.mem_append_left _ (h1 m hm),h2⟩)
  ·exact .inl (List.mem_append_right _ hv)
 out:=fun o ho=>by
  obtain ⟨v,g1,g2⟩:=h.out o ho;exact ⟨v,List.mem_append_left _ g1,g2⟩
 len:=by
  have := h.len;simp only [lla,List.length_singleton];omega
 cur_:=fun t k e=>by
  injection e with e;injection e with e1 e2;subst e1 e2;obtain ⟨g1,g2,g3⟩:=h.cur_ s n rfl;refine ⟨List.mem_append_left _ g1,g2,fun j hj m' hm' => ?_⟩;rcases Nat.lt_or_ge j n with h' | h'
  ·exact List.mem_append_left _ (g3 j h' m' hm')
  ·obtain rfl:j=n:=by omega
   rw [hm] at hm';obtain rfl:=osl hm';exact List.mem_append_right _ (List.mem_singleton.2 rfl)
theorem Srch.fin {V stack:List σ} {s:σ} {outs:LL} {n:Nat} (h:Srch M s0 V stack outs (some (s,n))) (hn:(M.mv s).length<=n):Srch M s0 V stack outs none where
 rea:=h.rea
 base:=h.base
 nd:=h.nd
 sub:=h.sub
 all:=fun v hv=>by
  rcases h.all v hv with h1 | ⟨k,h1⟩ | h1
  ·exact .inl h1
  ·injection h1 with h1;injection h1 with h1 _;subst h1;obtain ⟨_,g2,g3⟩:=h.cur_ s n rfl;refine .inr (.inr ⟨fun m hm=>?_,g2⟩);obtain ⟨j,hj⟩:=List.getElem?_of_mem hm;exact g3 j (by have := (ges hj).1;omega) m hj
  ·exact .inr (.inr h1)
 out:=h.out
 len:=h.len
 cur_:=nofun
theorem Srch.ends {V:List σ} {outs:LL} (h:Srch M s0 V [] outs none):(∀ o,o∈outs↔Ky M s0 o)/\∀ v,v∈V↔Rea M s0 v:=by
 have all:∀ v,Rea M s0 v->v∈V:=fun v hv=>by
  induction hv with
  | base=>exact h.base
  | step _ hm ih=>
   rcases h.all _ ih with h1 | ⟨_,h1⟩ | h1
   ·cases h1
   ·cases h1
   ·exact h1.1 _ hm
 refine ⟨fun o=>⟨fun ho=>?_,fun ⟨s,h1,h2,h3⟩ => ?_⟩,fun v=>⟨h.rea v,all v⟩⟩
 ·obtain ⟨v,g1,g2,g3⟩:=h.out o ho;exact ⟨v,h.rea v g1,g2,g3⟩
 ·rcases h.all s (all s h1) with h4 | ⟨_,h4⟩ | h4
  ·cases h4
  ·cases h4
  ·rw [<- h3];exact h4.2 h2
end
section
variable {σ:Type} [Inhabited σ] (mv:σ->Option (LI)) (af:σ->Int->Option σ) (ky:σ->Option ByteArray) (dn:σ->Option Bool) (oc:σ->Option (LI)) (srt:LL->Option (LL))
def KO (s9:(List (ByteArray×Bool))×(LL)×(List σ)) (s19:(LL)) (v27:(LI)):((List (ByteArray×Bool))×(List σ)×Int)->Option (((List (ByteArray×Bool))×(List σ)×Int) ⊕ (((List (ByteArray×Bool))×(LL)×(List σ)) ⊕ ((List (ByteArray×Bool))×(LL)))):=fun s31=>
 bif decide (s31.2.2<(v27.length:Int)) then
  Option.bind (
   gd (decide (0<=s31.2.2/\s31.2.2<(v27.length:Int))) <|
   Option.bind (af (s9.2.2.getD (((s9.2.2.length:Int)-(1:Int)).toNat) default) (v27.getD s31.2.2.toNat default)) fun v37=>
   Option.bind (ky v37) fun v38=>
   bif !((yU s31.1 v38).getD false) then
    gd (aS (s31.2.1.length+1) 16) <|
    some ((wI s31.1 v38 true),(s31.2.1++[v37]))
   else
    some (s31.1,s31.2.1)
  ) fun s35=>
  gd (LB .i64 (s31.2.2+(1:Int))) <|
  some (.inl (s35.1,s35.2,(s31.2.2+(1:Int))))
 else
  some (.inr (.inl (s31.1,s19,s31.2.1)))
def Lb:((List (ByteArray×Bool))×(LL)×(List σ))->Option (((List (ByteArray×Bool))×(LL)×(List σ)) ⊕ ((List (ByteArray×Bool))×(LL))):=fun s9=>
 bif decide ((0:Int)<(s9.2.2.length:Int)) then
  gd (LB .i64 ((s9.2.2.length:Int)-(1:Int))) <|
  gd (decide (0<=((s9.2.2.length:Int)-(1:Int))/\((s9.2.2.length:Int)-(1:Int))<(s9.2.2.length:Int))) <|
  gd (decide (0<=(0:Int)/\(0:Int)<=((s9.2.2.length:Int)-(1:Int))/\((s9.2.2.length:Int)-(1:Int))<=(s9.2.2.length:Int))) <|
  Option.bind (
   Option.bind (dn (s9.2.2.getD (((s9.2.2.length:Int)-(1:Int)).toNat) default)) fun v20=>
   bif v20 then
    Option.bind (oc (s9.2.2.getD (((s9.2.2.length:Int)-(1:Int)).toNat) default)) fun v22=>
    gd (aS (s9.2.1.length+1) 24) <|
    some (s9.2.1++[v22])
   else
    some s9.2.1
  ) fun s19=>
  Option.bind (mv (s9.2.2.getD (((s9.2.2.length:Int)-(1:Int)).toNat) default)) fun v27=>
  loopO (KO af ky s9 s19 v27) (s9.1,((s9.2.2.drop (0:Int).toNat).take (((s9.2.2.length:Int)-(1:Int)).toNat-(0:Int).toNat)),(0:Int))
 else
  some (.inr (s9.1,s9.2.1))
def KP (start:σ):Option ((LL)×Int):=
 Option.bind (ky start) fun v1=>
 Option.bind (
  loopO (Lb mv af ky dn oc) ((wI ([]:List (ByteArray×Bool)) v1 true),([]:LL),([start]:List σ))
 ) fun s2=>
 Option.bind (srt s2.2) fun v46=>
 some (v46,(s2.1.length:Int))
variable {mv af ky dn oc srt} {M:Mac σ} {s0:σ} {N:Nat}
structure Mrt (mv:σ->Option (List Int)) (af:σ->Int->Option σ) (ky:σ->Option ByteArray) (dn:σ->Option Bool) (oc:σ->Option (List Int)) (M:Mac σ) (s0:σ):Prop where
 mv:∀ s,Rea M s0 s->LN (mv s) (· = M.mv s)
 af:∀ s m,Rea M s0 s->m∈M.mv s->LN (af s m) (· = M.af s m)
 ky:∀ s,Rea M s0 s->LN (ky s) (· = M.ky s)
 dn:∀ s,Rea M s0 s->LN (dn s) (· = M.dn s)
 oc:∀ s,Rea M s0 s->M.dn s=true->LN (oc s) (· = M.oc s)
 len:∀ s,Rea M s0 s->(M.mv s).length<=1048576
theorem Lc {n m:Nat} (hn:n<=1099511627776) (hm:Nat.ble m 32=true):aS n m=true:=by
 have h1:=nlb hm;have h2:n*m<=1099511627776*32:=Nat.mul_le_mul hn h1;exact decide_eq_true ⟨by omega,by omega⟩
theorem GH (K:Mok M s0 N) (R:Mrt mv af ky dn oc M s0) (hN:N<1099511627776) {V stk:List σ} {s:σ} {outs outs':LL} (h:Srch M s0 V stk outs' (some (s,0))) :
  LN (loopO (KO af ky (kys M V,outs,stk++[s]) outs' (M.mv s)) (kys M V,stk,(0:Int))) fun z=>∃ V' stk',z = .inl (kys M V',outs',stk')/\Srch M s0 V' stk' outs' none/\V.length<=V'.length/\2*V.length+stk'.length<=2*V'.length+stk.length:=by
 have hsV:=(h.cur_ s 0 rfl).1;have hs:=h.rea s hsV;have hcur:(stk++[s]).getD ((((stk++[s]).length:Int)-1).toNat) default=s:=by
  rw [lla,List.length_singleton,show (((stk.length+1:Nat):Int)-1).toNat=stk.length by omega,gdq,gar (Nat.le_refl _)];simp
 have hlen:=R.len s hs;refine LN.loop (fun z=>∃ V',z.1=kys M V'/\(0<=z.2.2/\z.2.2<=((M.mv s).length:Int))/\Srch M s0 V' z.2.1 outs' (some (s,z.2.2.toNat))/\V.length<=V'.length/\2*V.length+z.2.1.length<=2*V'.length+stk.length) (fun z=>(((M.mv s).length:Int)-z.2.2).toNat) ⟨V,rfl,⟨Int.le_refl _,by simp⟩,h,Nat.le_refl _,Nat.le_refl _⟩ fun z ⟨V',h1,h2,h3,h4,h5⟩ => ?_;unfold KO;simp only [hcur];refine .bifD (fun hlt=>?_) fun hge => .pure ⟨V',z.2.1,by rw [h1],h3.fin (by omega),h4,h5⟩;have hj:z.2.2.toNat<(M.mv s).length:=by omega
 have hm:(M.mv s)[z.2.2.toNat]? = some ((M.mv s).getD z.2.2.toNat default):=by simp [geq hj]
 have hmm:=List.mem_of_getElem? hm;have hi1:(z.2.2+1).toNat=z.2.2.toNat+1:=by omega
 have hV':=K.cnt V' h3.nd h3.rea;have hl:=h3.len;refine LN.bind (P:=fun w=>∃ V2,w.1=kys M V2/\Srch M s0 V2 w.2 outs' (some (s,z.2.2.toNat+1))/\V.length<=V2.length/\2*V.length+w.2.length<=2*V2.length+stk.length) ?_ fun w ⟨V2,w1,w2,w3,w4⟩ => .gdI (by omega) (.pure ⟨⟨V2,w1,⟨by simp only [];omega,by simp only [];omega⟩,by simp only [hi1];exact w2,w3,w4⟩,by simp only [];omega⟩);refine .gdD ⟨h2.1,hlt⟩ ((R.af s _ hs hmm).bind fun v37 e37=>?_);subst e37;refine (R.ky _ (.step hs hmm)).bind fun v38 e38=>?_;subst e38;refine .bif (fun hb => .gd (Lc (by omega) rfl) (.pure ?_)) fun hb => .pure ?_
 ·have hn : ¬ ∃ v∈V',M.ky v=M.ky (M.af s ((M.mv s).getD z.2.2.toNat default)):=fun hh=>by
   rw [h1,(Ca V' _).2 hh] at hb
   cases hb
  refine ⟨V'++[M.af s ((M.mv s).getD z.2.2.toNat default)],?_,h3.new hm fun hv=>hn ⟨_,hv,rfl⟩,?_,?_⟩
  ·simp only [h1];exact IK hn
  ·simp;omega
  ·simp;omega
 ·have hy:∃ v∈V',M.ky v=M.ky (M.af s ((M.mv s).getD z.2.2.toNat default)):=by
   rw [<- Ca,<- h1];simpa using hb
  obtain ⟨v,hv,e⟩:=hy;have := K.key v _ (h3.rea v hv) (.step hs hmm) e;refine ⟨V',h1,h3.old hm (this ▸ hv),h4,h5⟩
theorem IL (K:Mok M s0 N) (R:Mrt mv af ky dn oc M s0) (hN:N<1099511627776) {Q:LL->LL->Prop} (hs:∀ l:LL,l.length<=N->(∀ o∈l,Ky M s0 o)->LN (srt l) (Q l)) :
  LN (KP mv af ky dn oc srt s0) fun q=>∃ l,Q l q.1/\(∀ o,o∈l↔Ky M s0 o)/\∃ V:List σ,V.Nodup/\(∀ v,v∈V↔Rea M s0 v)/\q.2=(V.length:Int):=by
 unfold KP;refine (R.ky s0 .base).bind fun v1 e1=>?_;subst e1;refine LN.bind (P:=fun w=>∃ V,w.1=kys M V/\Srch M s0 V [] w.2 none) ?_ fun w ⟨V,w1,w2⟩ => ?_
 ·refine LN.loop (fun z=>∃ V,z.1=kys M V/\Srch M s0 V z.2.2 z.2.1 none) (fun z=>2*(N-z.1.length)+z.2.2.length) ⟨[s0],rfl,.start⟩ fun z ⟨V,h1,h2⟩ => ?_;have hV:=K.cnt V h2.nd h2.rea;have hl:=h2.len;obtain ⟨kk,outs,stk⟩:=z;simp only at h1 h2 hl;subst h1;unfold Lb;simp only [];refine .bifD (fun hlt=>?_) fun hge=>?_
  ·obtain ⟨stk',s,rfl⟩:∃ stk' s,stk=stk'++[s]:=⟨_,_,(List.dropLast_concat_getLast (by rintro rfl;simp at hlt)).symm⟩;have hcur:(stk'++[s]).getD ((((stk'++[s]).length:Int)-1).toNat) default=s:=by
    rw [lla,List.length_singleton,show (((stk'.length+1:Nat):Int)-1).toNat=stk'.length by omega,gdq,gar (Nat.le_refl _)];simp
   have hcut:((stk'++[s]).drop (0:Int).toNat).take ((((stk'++[s]).length:Int)-1).toNat-(0:Int).toNat)=stk':=by
    rw [lla,List.length_singleton,show (((stk'.length+1:Nat):Int)-1).toNat-(0:Int).toNat=stk'.length by omega];simp
   have hre:=h2.rea s (h2.sub s (List.mem_append_right _ (List.mem_singleton.2 rfl)));rw [lla,List.length_singleton] at hl;refine .gdI (by simp;omega) (.gdD ⟨by simp,by omega⟩ (.gdD ⟨Int.le_refl _,by simp,by omega⟩ ?_));rw [hcur,hcut];refine LN.bind (P:=fun o=>o=if M.dn s then outs++[M.oc s] else outs) ?_ fun o ho=>?_
   ·refine (R.dn s hre).bind fun b hb=>?_;subst hb;refine .bif (fun hb=>(R.oc s hre hb).bind fun o ho => .gd (Lc (by omega) rfl) (.pure ?_)) fun hb => .pure ?_
    ·rw [if_pos hb,ho]
    ·rw [if_neg (by rw [hb];decide)]
   ·have h3:=h2.pop ho;refine (R.mv s hre).bind fun v27 e27=>?_;subst e27;refine (GH K R hN (outs:=outs) h3).mono fun z ⟨V',stk2,e,g1,g2,g3⟩ => ?_;subst e;have hV2:=K.cnt V' g1.nd g1.rea;refine ⟨⟨V',rfl,g1⟩,?_⟩;simp only [kys,List.length_map,lla,List.length_singleton];omega
  ·refine .pure ⟨V,rfl,?_⟩;have : stk=[]:=List.eq_nil_of_length_eq_zero (by omega);subst this;exact h2
 ·have hV:=K.cnt V w2.nd w2.rea;have hl:=w2.len;refine (hs w.2 (by omega) fun o ho=>(w2.ends.1 o).1 ho).bind fun q hq => .pure ⟨w.2,hq,w2.ends.1,V,w2.nd,w2.ends.2,?_⟩;rw [w1];simp [kys]
end
theorem GI {σ:Type} (f:σ->Nat) (m:Nat):∀ (V:List σ),V.Nodup->(∀ v∈V,f v<m)->(∀ u∈V,∀ v∈V,f u=f v->u=v)->V.length<=m:=fun V hn hl hi=>by
 have h1:(V.map f).Nodup:=by
  rw [List.nodup_iff_pairwise_ne] at hn ⊢;rw [List.pairwise_map];exact hn.imp_of_mem fun {a b} ha hb hne e=>hne (hi a ha b hb e)
 have := List.Nodup.length_le_of_subset h1 (l₂:=List.range m) fun x hx=>by
  obtain ⟨v,hv,rfl⟩:=List.mem_map.1 hx;exact List.mem_range.2 (hl v hv)
 simpa using this
def qo:List (Nat×Nat)->Nat
 | []=>0
 | (d,b)::l=>d+b*qo l
def Dg:List (Nat×Nat)->Nat
 | []=>1
 | (_,b)::l=>b*Dg l
theorem Cb:∀ (l:List (Nat×Nat)),(∀ x∈l,x.1<x.2)->qo l<Dg l
 | [],_=>Nat.one_pos
 | (d,b)::l,h=>by
  have h1:d<b:=h _ List.mem_cons_self;have h2:=Cb l fun x hx=>h x (List.mem_cons_of_mem _ hx);show d+b*qo l<b*Dg l;have h3:b*(qo l+1)<=b*Dg l:=Nat.mul_le_mul_left _ h2;rw [Nat.mul_add,Nat.mul_one] at h3;omega
theorem zJ:∀ (l k:List (Nat×Nat)),l.map (·.2)=k.map (·.2)->(∀ x∈l,x.1<x.2)->(∀ x∈k,x.1<x.2)->qo l=qo k->l=k
 | [],[],_,_,_,_=>rfl
 | [],_::_,h,_,_,_=>by cases h
 | _::_,[],h,_,_,_=>by cases h
 | (d,b)::l,(d',b')::k,h,hl,hk,e=>by
  injection h with hb ht;simp only at hb;subst hb;have h1:d<b:=hl _ List.mem_cons_self;have h2:d'<b:=hk _ List.mem_cons_self;have e:d+b*qo l=d'+b*qo k:=e;have hd:d=d':=by
   have := congrArg (· % b) e;simp only [Nat.add_mul_mod_self_left,Nat.mod_eq_of_lt h1,Nat.mod_eq_of_lt h2] at this;exact this
  subst hd;have hc:qo l=qo k:=Nat.eq_of_mul_eq_mul_left (by omega) (by omega:b*qo l=b*qo k);rw [zJ l k ht (fun x hx=>hl x (List.mem_cons_of_mem _ hx)) (fun x hx=>hk x (List.mem_cons_of_mem _ hx)) hc]
def rdX (x:LD):Bool:=x.Op==1||x.Op==5
def wrX (x:LD):Bool:=x.Op==2||x.Op==3||x.Op==5
theorem Cc (x:LD):LN (bZ x) (· = rdX x):=by
 unfold bZ rdX;exact LN.bind (P:=(· = (x.Op==1||x.Op==5))) (.bif (fun h => .pure (by rw [h];rfl)) fun h => .pure (by rw [h];rfl)) fun v hv => .pure hv
theorem vE (x:LD):LN (aX x) (· = wrX x):=by
 unfold aX wrX;exact LN.bind (P:=(· = (x.Op==2||x.Op==3))) (.bif (fun h => .pure (by rw [h];rfl)) fun h => .pure (by rw [h];rfl)) fun v hv=>LN.bind (P:=(· = (x.Op==2||x.Op==3||x.Op==5))) (.bif (fun h => .pure (by rw [<- hv,h];rfl)) fun h => .pure (by rw [<- hv,h];rfl)) fun v hv => .pure hv
def Vs (p:List (List LD)):Prop:=p.length<=3/\∀ n,(p.getD n default).length<=7
theorem Vs.of {p:List (List LD)} (h:bq (p.map fun r=>r.map iV)=true):Vs p/\∀ t k:Nat,t<p.length->k<(p.getD t default).length->iW (iV ((p.getD t default).getD k default))=true:=by
 simp only [bq,nJ,bae,decide_eq_true_eq,List.all_eq_true,rowOk] at h;have hl:p.length<=3:=by simpa using h.1.1.1.1
 have hr:=h.1.1.1.2;refine ⟨⟨hl,fun n=>?_⟩,fun t k ht hk=>?_⟩
 ·by_cases hn:n<p.length
  ·have e:p.getD n default=p[n]:=by simp [hn]
   rw [e];have := (hr (p[n].map iV) (List.mem_map.2 ⟨p[n],List.getElem_mem hn,rfl⟩)).1;simpa using this
  ·rw [gdq,List.getElem?_eq_none (by omega)];exact Nat.zero_le _
 ·have e:p.getD t default=p[t]:=by simp [ht]
  rw [e] at hk ⊢;have h1:=(hr (p[t].map iV) (List.mem_map.2 ⟨p[t],List.getElem_mem ht,rfl⟩)).2;have e2:p[t].getD k default=p[t][k]:=by simp [hk]
  rw [e2];exact h1 _ (List.mem_map.2 ⟨_,List.getElem_mem hk,rfl⟩)
def InR (x:LD):Prop:=0<=x.Loc/\x.Loc<=2/\0<=x.Reg/\x.Reg<=2/\0<=x.Val/\x.Val<=3
theorem EO {x:LD} (h:iW (iV x)=true):InR x:=by
 obtain ⟨o,l,r,v⟩:=x;unfold InR;simp only;unfold iW iV at h;simp only [inB] at h
 split at h
 ·simp only [bae,decide_eq_true_eq,beq_iff_eq] at h;omega
 ·split at h
  ·simp only [bae,decide_eq_true_eq,beq_iff_eq] at h;omega
  ·split at h
   ·simp only [bae,decide_eq_true_eq,beq_iff_eq] at h;omega
   ·split at h
    ·simp only [bae,decide_eq_true_eq] at h;omega
    ·cases h
structure PV (p:List (List LD)):Prop where
 vs:Vs p
 pos:0<p.length
 ins:∀ t k:Nat,t<p.length->k<(p.getD t default).length->InR ((p.getD t default).getD k default)
theorem PV.of {p:List (List LD)} (h:bq (p.map fun r=>r.map iV)=true):PV p:=by
 have h1:=Vs.of h;refine ⟨h1.1,?_,fun t k ht hk=>EO (h1.2 t k ht hk)⟩;simp only [bq,bae,decide_eq_true_eq,List.length_map] at h;exact h.1.2
theorem au {n m:Nat} (hn:n<=4000000) (hm:Nat.ble m 1000=true):aS n m=true:=by
 have h1:=nlb hm;have h2:n*m<=4000000*1000:=Nat.mul_le_mul hn h1;exact decide_eq_true ⟨by omega,by omega⟩
theorem ny (a:Z3b) (q i v:Int) (hq:0<=q/\q<=2) (hi:0<=i/\i<=2):Z3b.get (Z3b.set a q v) i=if i=q then v else Z3b.get a i:=by
 obtain ⟨x,y,z⟩:=a;have h1:q=0\/q=1\/q=2:=by omega
 have h2:i=0\/i=1\/i=2:=by omega
 rcases h1 with rfl | rfl | rfl <;> rcases h2 with rfl | rfl | rfl <;> rfl
theorem zK (a:Z33) (q i:Int) (v:Z3b) (hq:0<=q/\q<=2) (hi:0<=i/\i<=2):Z33.get (Z33.set a q v) i=if i=q then v else Z33.get a i:=by
 obtain ⟨x,y,z⟩:=a;have h1:q=0\/q=1\/q=2:=by omega
 have h2:i=0\/i=1\/i=2:=by omega
 rcases h1 with rfl | rfl | rfl <;> rcases h2 with rfl | rfl | rfl <;> rfl
theorem LN.sumR {S W:Type} {a:Option (S ⊕ W)} {f:S->Option W} {w:W} (h:LN a (· = .inr w)):LN (sumK a f) (· = w):=by
 obtain ⟨v,rfl,rfl⟩:=h;exact ⟨w,rfl,rfl⟩
theorem LN.sumL {S W:Type} {a:Option (S ⊕ W)} {f:S->Option W} {w:W} {s:S} (h:LN a (· = .inl s)) (k:LN (f s) (· = w)):LN (sumK a f) (· = w):=by
 obtain ⟨v,rfl,rfl⟩:=h;exact k
def Dh (u:LH) (t:Int) (x:LD):Int:=if x.Op=3 then Z3b.get (Z33.get u.reg t) x.Reg else x.Val
def Di (u:LH) (t:Int) (x:LD):LH:=
 ⟨u.p,Z3b.set u.pc t (Z3b.get u.pc t+1),if rdX x=true then Z33.set u.reg t (Z3b.set (Z33.get u.reg t) x.Reg (Z3b.get u.mem x.Loc)) else u.reg,if wrX x=true then Z3b.set u.mem x.Loc (Dh u t x) else u.mem⟩
def ltL (x y:LI):Prop:=cmpL x y<0
theorem A9 {x y:LI}:leL x y=true↔ltL x y\/x=y:=by
 unfold leL ltL;rw [decide_eq_true_eq];rcases m7 x y with h | h | h
 ·exact ⟨fun _ => .inl h,fun _=>by have := pI x y;omega⟩
 ·exact ⟨fun _ => .inr h,fun _=>by rw [h,kU];decide⟩
 ·refine ⟨fun g=>absurd h g,fun g=>?_⟩;rcases g with g | g
  ·have := pI x y;omega
  ·rw [g,kU] at h;exact absurd h (by decide)
theorem EP {x y:LI} (h:ltL x y):x≠y:=by
 rintro rfl;unfold ltL at h;rw [kU] at h;exact absurd h (by decide)
structure Sor (l q:List (List Int)):Prop where
 lt:q.Pairwise ltL
 mem:∀ o,o∈q↔o∈l
 len:q.length<=l.length
theorem Ce {l c:LL} {n:Nat} (hs:l.Pairwise fun x y=>leL x y=true) (h:c.Pairwise ltL) (hm:∀ o,o∈c↔o∈l.take n) (h0:0<n) (hn:n<l.length) (hne:l.getD n default≠l.getD (n-1) default) :
  (c++[l.getD n default]).Pairwise ltL/\∀ o,o∈c++[l.getD n default]↔o∈l.take (n+1):=by
 have e1:l.getD n default=l[n]:=by simp [hn]
 have e2:l.getD (n-1) default=l[n-1]:=by simp [List.getD,show n-1<l.length by omega]
 rw [e1] at hne ⊢;rw [e2] at hne;have hp:=List.pairwise_iff_getElem.1 hs;refine ⟨List.pairwise_append.2 ⟨h,by simp,fun y hy x hx=>?_⟩,fun o=>?_⟩
 ·rw [List.mem_singleton.1 hx];obtain ⟨j,hj,rfl⟩:=List.getElem_of_mem ((hm y).1 hy);have hjn:j<n:=Nat.lt_of_lt_of_le (show j<min n l.length by simpa using hj) (Nat.min_le_left _ _);rw [List.getElem_take];rcases A9.1 (hp j n (by omega) hn hjn) with g | g
  ·exact g
  ·exfalso;apply hne
   by_cases hj1:j=n-1
   ·subst hj1;exact g.symm
   ·exact BZ _ _ (g ▸ hp j (n-1) (by omega) (by omega) (by omega)) (hp (n-1) n (by omega) hn (by omega))
 ·rw [List.mem_append,hm,List.take_add_one,List.mem_append,geq hn];simp
theorem Cf {l:LL} {n:Nat} (h0:0<n) (hn:n<l.length) (he:l.getD n default=l.getD (n-1) default) (o:LI):o∈l.take (n+1)↔o∈l.take n:=by
 have e1:l.getD n default=l[n]:=by simp [hn]
 have e2:l.getD (n-1) default=l[n-1]:=by simp [List.getD,show n-1<l.length by omega]
 rw [e1,e2] at he;rw [List.take_add_one,List.mem_append,geq hn];refine ⟨fun h=>h.elim id fun h=>?_,.inl⟩;have : o=l[n-1]:=by simpa [he] using h
 rw [this];exact List.mem_iff_getElem.2 ⟨n-1,by simp;omega,by simp⟩
theorem EQ (a b:LI) (ha:a.length<=1048576):LN (cT a b) (· = decide (a=b)):=by
 unfold cT;refine .bif (fun h => .pure ?_) fun h=>?_
 ·have h:a.length≠b.length:=by
   intro e;rw [e] at h;simp at h
  rw [decide_eq_false (fun e=>h (by rw [e]))]
 ·have h:a.length=b.length:=by
   have : (a.length:Int)=(b.length:Int):=by simpa using h
   omega
  refine LN.sum (PS:=fun _=>a=b) (PW:=fun v=>v=decide (a=b)) ?_ fun _ he => .pure (by rw [decide_eq_true he]);refine LN.loop (fun i=>0<=i/\i<=(a.length:Int)/\∀ j:Nat,(j:Int)<i->a[j]? = b[j]?) (fun i=>((a.length:Int)-i).toNat) ⟨Int.le_refl _,by omega,fun j hj=>absurd hj (by omega)⟩ fun i ⟨h1,h2,h3⟩ => ?_;unfold gY;refine .bifD (fun hlt => .gdD ⟨h1,hlt⟩ (.gdD ⟨h1,by omega⟩ ?_)) fun hge => .pure ?_
  ·have hi:i.toNat<a.length:=by omega
   have hib:i.toNat<b.length:=by omega
   have ea:a.getD i.toNat default=a[i.toNat]:=by simp [hi]
   have eb:b.getD i.toNat default=b[i.toNat]:=by simp [hib]
   rw [ea,eb];refine .bif (fun hb => .pure ?_) fun hb => .gdI (by omega) (.pure ⟨⟨by omega,by omega,fun j hj=>?_⟩,by omega⟩)
   ·simp only [bne_iff_ne] at hb;have : a≠b:=fun e=>hb (by simp [e]);simp only [];rw [decide_eq_false this]
   ·by_cases ej:j=i.toNat
    ·subst ej;rw [geq hi,geq hib];have : a[i.toNat]=b[i.toNat]:=by simpa using hb
     rw [this]
    ·exact h3 j (by omega)
  ·simp only [];apply List.ext_getElem?;intro j;rcases Nat.lt_or_ge j a.length with g | g
   ·exact h3 j (by omega)
   ·rw [List.getElem?_eq_none g,List.getElem?_eq_none (by omega)]
theorem ER (a b:LI) (ha:a.length<=1048576):LN (bK a b) (· = decide (a=b)):=by
 unfold bK;exact (EQ a b ha).bind fun v hv => .pure hv
theorem Ba {l:LL} (hs:l.Pairwise fun x y=>leL x y=true) (hl:l.length<=1099511627776) (hr:∀ r∈l,r.length<=1048576):LN (av l) (Sor l):=by
 have hrD:∀ n,(l.getD n default).length<=1048576:=fun n=>by
  by_cases hn:n<l.length
  ·have : l.getD n default=l[n]:=by simp [hn]
   rw [this];exact hr _ (List.getElem_mem hn)
  ·rw [gdq,List.getElem?_eq_none (by omega)];exact Nat.zero_le _
 unfold av;refine .bifD (fun h => .pure ⟨?_,fun _=>Iff.rfl,Nat.le_refl _⟩) fun h=>?_
 ·match l,h with
  | [],_=>exact .nil
  | [x],_=>simp
  | _::_::_,h=>simp at h;omega
 have h2:2<=l.length:=by omega
 refine LN.sum (PS:=fun q=>Sor l q) (PW:=fun q=>Sor l q) ?_ fun q hq => .pure hq;refine LN.loop (fun s=>s.1=l/\1<=s.2/\s.2<=(l.length:Int)/\(l.take s.2.toNat).Pairwise ltL) (fun s=>((l.length:Int)-s.2).toNat) ⟨rfl,Int.le_refl _,by simp only [];omega,?_⟩ fun s ⟨e,h1,h3,h4⟩ => ?_
 ·match l,h2 with
  | x::_,_=>simp
 obtain ⟨c,k⟩:=s;simp only at e h1 h3 h4;subst e;unfold aH;simp only [];refine .bifD (fun hlt=>?_) fun hge => .pure ?_
 rotate_left
 ·have : k.toNat=c.length:=by omega
  rw [this,List.take_length] at h4;exact ⟨h4,fun _=>Iff.rfl,Nat.le_refl _⟩
 have hk1:(k-1).toNat=k.toNat-1:=by omega
 refine LN.sum (PS:=fun _=>c.getD k.toNat default≠c.getD (k.toNat-1) default) ?_ fun _ hne => .gdI (by omega) (.pure ⟨⟨rfl,by simp only [];omega,by simp only [];omega,?_⟩,by simp only [];omega⟩)
 rotate_left
 ·have := (Ce hs h4 (fun _=>Iff.rfl) (by omega) (by omega) hne).1;simp only [];rw [show (k+1).toNat=k.toNat+1 by omega,List.take_add_one,geq (by omega)];rw [show c.getD k.toNat default=c[k.toNat]'(by omega) by simp [show k.toNat<c.length by omega]] at this;simpa using this
 refine .gdD ⟨by omega,hlt⟩ (.gdI (by omega) (.gdD ⟨by omega,by omega⟩ ((ER _ _ (hrD _)).bind fun v hv=>?_)));subst hv;rw [hk1];refine .bifD (fun he=>?_) fun hne => .pure hne;refine .gdD ⟨by omega,by omega,Int.le_refl _⟩ ?_;refine LN.bind (P:=fun z=>(k<=z.2/\z.2<=(c.length:Int))/\z.1.length=c.length/\(z.1.take z.2.toNat).Pairwise ltL/\∀ o,o∈z.1.take z.2.toNat↔o∈c) ?_ fun z ⟨⟨z1,z2⟩,z3,z4,z5⟩ => .gdD ⟨by omega,by omega,Int.le_refl _⟩ (.gdD ⟨Int.le_refl _,by omega,by omega⟩ (.pure ?_))
 rotate_left
 ·have e1:(((cpy z.1 (0+z.2.toNat) (List.replicate ((z.1.length:Int).toNat-z.2.toNat) (default:LI)) ((z.1.length:Int).toNat-z.2.toNat)).drop (0:Int).toNat).take (z.2.toNat-(0:Int).toNat))=z.1.take z.2.toNat:=by
   simp only [cpy,Nat.zero_add,show (0:Int).toNat=0 from rfl,List.drop_zero,Nat.sub_zero];rw [if_pos (by omega),List.append_assoc,List.take_append_of_le_length (by rw [List.length_take];omega),List.take_take,Nat.min_self]
  simp only [];rw [e1];exact ⟨z4,z5,by simp;omega⟩
 refine LN.loop (fun s=>(1<=s.2.1/\k+s.2.1<=(c.length:Int))/\(k<=s.2.2/\s.2.2<=k+s.2.1-1)/\s.1.length=c.length/\(∀ j:Nat,k+s.2.1-1<=(j:Int)->s.1[j]? = c[j]?)/\(s.1.take s.2.2.toNat).Pairwise ltL/\∀ o,o∈s.1.take s.2.2.toNat↔o∈c.take (k+s.2.1).toNat) (fun s=>((c.length:Int)-k-s.2.1).toNat) ⟨⟨Int.le_refl _,by simp only [];omega⟩,⟨Int.le_refl _,by simp only [];omega⟩,rfl,fun _ _=>rfl,h4,fun o=>?_⟩ fun s ⟨⟨a1,a2⟩,⟨a3,a4⟩,a5,a6,a7,a8⟩ => ?_
 ·simp only [];rw [show (k+1).toNat=k.toNat+1 by omega];exact (Cf (by omega) (by omega) he o).symm
 obtain ⟨d,k2,kk⟩:=s;simp only at a1 a2 a3 a4 a5 a6 a7 a8;unfold aD;simp only [];have hz:((((c.length:Int).toNat-k.toNat:Nat)):Int)=(c.length:Int)-k:=by omega
 rw [hz];refine .bifD (fun hlt2=>?_) fun hge => .pure ⟨⟨a3,by simp only [];omega⟩,a5,a7,fun o=>?_⟩
 rotate_left
 ·rw [a8,show (k+k2).toNat=c.length by omega,List.take_length]
 have g1:d.getD (0+k.toNat+k2.toNat) default=c.getD (k+k2).toNat default:=by
  rw [gdq,gdq,a6 _ (by omega),show 0+k.toNat+k2.toNat=(k+k2).toNat by omega]
 have g2:d.getD (0+k.toNat+(k2-1).toNat) default=c.getD ((k+k2).toNat-1) default:=by
  rw [gdq,gdq,a6 _ (by omega),show 0+k.toNat+(k2-1).toNat=(k+k2).toNat-1 by omega]
 have hn1:(k+(k2+1)).toNat=(k+k2).toNat+1:=by omega
 refine LN.bind (P:=fun z=>(k<=z.2/\z.2<=k+k2)/\z.1.length=c.length/\(∀ j:Nat,k+k2<=(j:Int)->z.1[j]? = c[j]?)/\(z.1.take z.2.toNat).Pairwise ltL/\∀ o,o∈z.1.take z.2.toNat↔o∈c.take ((k+k2).toNat+1)) ?_ fun z ⟨⟨z1,z2⟩,z3,z4,z5,z6⟩ => .gdI (by omega) (.pure ⟨⟨⟨by simp only [];omega,by simp only [];omega⟩,⟨z1,by simp only [];omega⟩,z3,fun j hj=>z4 j (by simp only [] at hj;omega),z5,by simp only [hn1];exact z6⟩,by simp only [];omega⟩);refine .gdD ⟨⟨by omega,by omega⟩,by omega⟩ (.gdI (by omega) (.gdD ⟨⟨by omega,by omega⟩,by omega⟩ ?_));rw [g1,g2];refine (ER _ _ (hrD _)).bind fun v hv=>?_;subst hv;rw [<- decide_not];refine .bifD (fun hne=>?_) fun he2 => .pure ⟨⟨a3,by simp only [];omega⟩,a5,fun j hj=>a6 j (by omega),a7,fun o=>?_⟩
 ·have hkl:kk.toNat<d.length:=by omega
  refine .gdD ⟨by omega,by omega⟩ (.gdI (by omega) (.pure ⟨⟨by simp only [];omega,by simp only [];omega⟩,by simp [a5],fun j hj=>?_,?_⟩))
  ·simp only [];rw [List.getElem?_set_ne (by omega)];exact a6 j (by omega)
  ·have e:(d.set kk.toNat (c.getD (k+k2).toNat default)).take (kk+1).toNat=d.take kk.toNat++[c.getD (k+k2).toNat default]:=by
    rw [show (kk+1).toNat=kk.toNat+1 by omega,List.take_add_one,List.getElem?_set_self hkl,List.take_set_of_le (Nat.le_refl _)]
    rfl
   simp only [];rw [e];exact Ce hs a7 a8 (by omega) (by omega) hne
 ·simp only [];rw [a8];exact (Cf (by omega) (by omega) (Decidable.not_not.1 he2) o).symm
theorem xx {l:LL} (hl:l.length<=1099511627776) (hr:∀ r∈l,r.length<=1048576):LN (aY l) (Sor l):=by
 unfold aY;refine LN.bind (P:=(· = zI l)) ?_ fun v hv=>?_
 ·unfold dW;exact .gdD (by omega) (.pure rfl)
 subst hv;have hp:=kV l;refine (Ba (vD l) (by rw [hp.length_eq];exact hl) (fun r h=>hr r (hp.mem_iff.1 h))).bind fun v ⟨v1,v2,v3⟩ => .pure ⟨v1,fun o=>(v2 o).trans hp.mem_iff,by rw [<- hp.length_eq];exact v3⟩
structure Iv (p:List (List LD)) (u:LH):Prop where
 up:u.p=p
 pc:∀ t:Nat,t<3->0<=Z3b.get u.pc t/\Z3b.get u.pc t<=((p.getD t default).length:Int)
 rv:∀ t g:Nat,t<3->g<3->0<=Z3b.get (Z33.get u.reg t) g/\Z3b.get (Z33.get u.reg t) g<=3
 mv:∀ l:Nat,l<3->0<=Z3b.get u.mem l/\Z3b.get u.mem l<=3
def Bb (u:LH) (t:Nat):Bool:=decide (Z3b.get u.pc t<((u.p.getD t default).length:Int))
def DI (u:LH) (n:Nat):LI:=((List.range n).filter (Bb u)).map Int.ofNat
def yz (u:LH):LI:=DI u u.p.length
def ES (u:LH) (t:Int):LD:=(u.p.getD t.toNat default).getD (Z3b.get u.pc t).toNat default
def wN (u:LH) (n:Nat):LI:=(List.range n).flatMap fun t:Nat=>(List.range 3).map fun g:Nat=>Z3b.get (Z33.get u.reg t) g
def Kz (u:LH):LI:=(List.range 3).map fun l:Nat=>Z3b.get u.mem l
def xy (u:LH):LI:=wN u u.p.length++Kz u
def keyL (u:LH):LI:=[u.pc.x0,u.pc.x1,u.pc.x2,u.reg.x0.x0,u.reg.x0.x1,u.reg.x0.x2,u.reg.x1.x0,u.reg.x1.x1,u.reg.x1.x2,u.reg.x2.x0,u.reg.x2.x1,u.reg.x2.x2,u.mem.x0,u.mem.x1,u.mem.x2]
def JB:Mac LJ where
 mv s:=yz s.values
 af s t:=⟨Di s.values t (ES s.values t)⟩
 ky s:=strOfNums (keyL s.values)
 dn s:=(yz s.values).isEmpty
 oc s:=xy s.values
section
variable {p:List (List LD)} {u:LH}
theorem nA {n:Nat} {m:Int}:m∈DI u n↔∃ t:Nat,t<n/\m=t/\Bb u t=true:=by
 unfold DI;rw [List.mem_map]
 constructor
 ·rintro ⟨t,ht,rfl⟩;rw [List.mem_filter,List.mem_range] at ht;exact ⟨t,ht.1,rfl,ht.2⟩
 ·rintro ⟨t,h1,rfl,h2⟩;exact ⟨t,List.mem_filter.2 ⟨List.mem_range.2 h1,h2⟩,rfl⟩
theorem vF (n:Nat):DI u (n+1)=if Bb u n=true then DI u n++[(n:Int)] else DI u n:=by
 unfold DI;rw [List.range_succ,List.filter_append,List.map_append]
 split
 ·rename_i h;rw [List.filter_cons_of_pos h]
  rfl
 ·rename_i h;rw [List.filter_cons_of_neg h];simp
theorem Cg (n:Nat):(DI u n).length<=n:=by
 unfold DI;rw [List.length_map];exact Nat.le_trans (List.length_filter_le _ _) (by simp)
theorem IM (hp:PV p) (h:Iv p u) {t:Nat} (ht:t<p.length):LN (bu u t) fun v=>v.2=Bb u t/\(v.2=true->v.1=ES u t):=by
 have hl:=hp.vs.1;have hr:=hp.vs.2 t;have h1:=h.pc t (by omega);unfold bu Bb ES;rw [h.up];simp only [tnn];refine .gdD ⟨by omega,by omega⟩ (.gdI (by omega) (.gdD ⟨by omega,by omega⟩ (.bifD (fun hle => .pure ⟨?_,nofun⟩) fun hle => .gdD ⟨h1.1,by omega⟩ (.pure ⟨?_,fun _=>rfl⟩))))
 ·rw [decide_eq_false (by omega)]
 ·rw [decide_eq_true (by omega)]
theorem JX (hp:PV p) (h:Iv p u):LN (bB ⟨u⟩) (· = yz u):=by
 have hl:=hp.vs.1;unfold bB;refine LN.bind (P:=(· = yz u)) ?_ fun v hv => .pure hv;refine LN.loop (fun s=>(0<=s.2/\s.2<=(p.length:Int))/\s.1=DI u s.2.toNat) (fun s=>((p.length:Int)-s.2).toNat) ⟨⟨Int.le_refl _,by simp only [];omega⟩,rfl⟩ fun s ⟨⟨h1,h2⟩,h3⟩ => ?_;unfold eQ;simp only [h.up];refine .bifD (fun hlt=>?_) fun hge => .pure ?_
 ·obtain ⟨l,i⟩:=s;simp only at h1 h2 h3 hlt;obtain ⟨n,rfl⟩:∃ n:Nat,i=n:=⟨i.toNat,by omega⟩;simp only [tnn] at h3;subst h3;have hln:=Cg (u:=u) n;refine LN.bind (P:=(· = DI u (n+1))) ?_ fun v hv => .gdI (by omega) (.pure ⟨⟨⟨by simp only [];omega,by simp only [];omega⟩,hv⟩,by simp only [];omega⟩);refine (IM hp h (by omega)).bind fun v ⟨e1,_⟩ => .bif (fun hb => .gd (au (by simp only [];omega) rfl) (.pure ?_)) fun hb => .pure ?_
  ·rw [vF,if_pos (by rw [<- e1,hb])]
  ·rw [vF,if_neg (by rw [<- e1,hb];decide)]
 ·rw [h3];unfold yz;rw [h.up,show s.2.toNat=p.length by omega]
theorem KQ (hp:PV p) (h:Iv p u):LN (bw ⟨u⟩) (· = (yz u).isEmpty):=by
 have hl:=hp.vs.1;unfold bw;refine LN.bind (P:=(· = (yz u).isEmpty)) ?_ fun v hv => .pure hv;unfold dD;refine LN.sum (PS:=fun _=>yz u=[]) (PW:=(· = (yz u).isEmpty)) ?_ fun _ hn => .pure (by rw [hn];rfl);refine LN.loop (fun i=>(0<=i/\i<=(p.length:Int))/\DI u i.toNat=[]) (fun i=>((p.length:Int)-i).toNat) ⟨⟨Int.le_refl _,by omega⟩,rfl⟩ fun i ⟨⟨h1,h2⟩,h3⟩ => ?_;unfold dX;simp only [h.up];refine .bifD (fun hlt=>?_) fun hge => .pure ?_
 ·obtain ⟨n,rfl⟩:∃ n:Nat,i=n:=⟨i.toNat,by omega⟩;simp only [tnn] at h3;refine (IM hp h (by omega)).bind fun v ⟨e1,_⟩ => .bif (fun hb => .pure ?_) fun hb => .gdI (by omega) (.pure ⟨⟨⟨by omega,by omega⟩,?_⟩,by omega⟩)
  ·have hm:(n:Int)∈yz u:=nA.2 ⟨n,by rw [h.up];omega,rfl,by rw [<- e1,hb]⟩
   cases e:yz u with
   | nil=>rw [e] at hm;cases hm
   | cons a l=>rfl
  ·rw [show ((n:Int)+1).toNat=n+1 by omega,vF,if_neg (by rw [<- e1,hb];decide),h3]
 ·simp only [];unfold yz;rw [h.up,<- show i.toNat=p.length by omega,h3]
theorem xz (n:Nat):wN u (n+1)=wN u n++(List.range 3).map fun g:Nat=>Z3b.get (Z33.get u.reg n) g:=by
 unfold wN;rw [show List.range (n+1)=List.range n++[n] from List.range_succ,List.flatMap_append];simp
theorem qX (n:Nat):(wN u n).length=3*n:=by
 induction n with
 | zero=>rfl
 | succ n ih=>rw [xz,lla,ih];simp;omega
theorem Ci (hp:PV p) (h:Iv p u):LN (aL u) (· = xy u):=by
 have hl:=hp.vs.1;unfold aL;refine LN.bind (P:=(· = wN u p.length)) ?_ fun v hv=>?_
 ·refine LN.loop (fun s=>(0<=s.2/\s.2<=(p.length:Int))/\s.1=wN u s.2.toNat) (fun s=>((p.length:Int)-s.2).toNat) ⟨⟨Int.le_refl _,by simp only [];omega⟩,rfl⟩ fun s ⟨⟨h1,h2⟩,h3⟩ => ?_;unfold bY;simp only [h.up];refine .bifD (fun hlt=>?_) fun hge => .pure ?_
  ·obtain ⟨l,i⟩:=s;simp only at h1 h2 h3 hlt;obtain ⟨n,rfl⟩:∃ n:Nat,i=n:=⟨i.toNat,by omega⟩;simp only [tnn] at h3;subst h3;have hln:=qX (u:=u) n;refine LN.bind (P:=(· = wN u (n+1))) ?_ fun v hv => .gdI (by omega) (.pure ⟨⟨⟨by simp only [];omega,by simp only [];omega⟩,hv⟩,by simp only [];omega⟩);refine .gdD ⟨by omega,by omega⟩ (LN.loop (fun s=>(0<=s.2/\s.2<=3)/\s.1=wN u n++(List.range s.2.toNat).map fun g:Nat=>Z3b.get (Z33.get u.reg n) g) (fun s=>((3:Int)-s.2).toNat) ⟨⟨Int.le_refl _,(by decide:(0:Int)<=3)⟩,by simp⟩ fun s ⟨⟨a1,a2⟩,a3⟩ => ?_);unfold bR;simp only [];refine .bifD (fun hlt=>?_) fun hge => .pure ?_
   ·obtain ⟨l,j⟩:=s;simp only at a1 a2 a3 hlt;obtain ⟨g,rfl⟩:∃ g:Nat,j=g:=⟨j.toNat,by omega⟩;simp only [tnn] at a3;subst a3;have hv:=h.rv n g (by omega) (by omega);refine .gdD ⟨by omega,hlt⟩ (.gdI (by first | omega | (simp only [];omega)) (.gd (au (by simp;omega) rfl) (.gdI (by omega) (.pure ⟨⟨⟨by simp only [];omega,by simp only [];omega⟩,?_⟩,by simp only [];omega⟩))));simp only [];rw [show ((g:Int)+1).toNat=g+1 by omega,List.range_succ,List.map_append,<- List.append_assoc]
    rfl
   ·rw [a3,xz,show s.2.toNat=3 by omega]
  ·rw [h3,show s.2.toNat=p.length by omega]
 ·subst hv;refine LN.bind (P:=(· = xy u)) ?_ fun v hv => .pure hv;have hln:=qX (u:=u) p.length;refine LN.loop (fun s=>(0<=s.2/\s.2<=3)/\s.1=wN u p.length++(List.range s.2.toNat).map fun g:Nat=>Z3b.get u.mem g) (fun s=>((3:Int)-s.2).toNat) ⟨⟨Int.le_refl _,(by decide:(0:Int)<=3)⟩,by simp⟩ fun s ⟨⟨a1,a2⟩,a3⟩ => ?_;unfold bS;refine .bifD (fun hlt=>?_) fun hge => .pure ?_
  ·obtain ⟨l,j⟩:=s;simp only at a1 a2 a3 hlt;obtain ⟨g,rfl⟩:∃ g:Nat,j=g:=⟨j.toNat,by omega⟩;simp only [tnn] at a3;subst a3;have hv:=h.mv g (by omega);refine .gdD ⟨by omega,hlt⟩ (.gdI (by first | omega | (simp only [];omega)) (.gd (au (by simp;omega) rfl) (.gdI (by omega) (.pure ⟨⟨⟨by simp only [];omega,by simp only [];omega⟩,?_⟩,by simp only [];omega⟩))));simp only [];rw [show ((g:Int)+1).toNat=g+1 by omega,List.range_succ,List.map_append,<- List.append_assoc]
   rfl
  ·rw [a3,show s.2.toNat=3 by omega];unfold xy Kz;rw [h.up]
theorem GJ (u:LH):LN (dL ⟨u⟩) (· = strOfNums (keyL u)):=by
 unfold dL iX;refine LN.bind (P:=(· = strOfNums (keyL u))) (.gd rfl ?_) fun v hv => .pure hv;refine LN.bind (P:=fun l=>l=[u.pc.x0,u.pc.x1,u.pc.x2,u.reg.x0.x0,u.reg.x0.x1,u.reg.x0.x2,u.reg.x1.x0,u.reg.x1.x1,u.reg.x1.x2,u.reg.x2.x0,u.reg.x2.x1,u.reg.x2.x2]) ?_ fun v hv=>?_
 ·refine LN.of (v:=[u.pc.x0,u.pc.x1,u.pc.x2,u.reg.x0.x0,u.reg.x0.x1,u.reg.x0.x2,u.reg.x1.x0,u.reg.x1.x1,u.reg.x1.x2,u.reg.x2.x0,u.reg.x2.x1,u.reg.x2.x2]) ?_ rfl
  exact qV (step:=fT u) (fun i=>match i with
   | 0=>([u.pc.x0,u.pc.x1,u.pc.x2],0)
   | 1=>([u.pc.x0,u.pc.x1,u.pc.x2,u.reg.x0.x0,u.reg.x0.x1,u.reg.x0.x2],1)
   | 2=>([u.pc.x0,u.pc.x1,u.pc.x2,u.reg.x0.x0,u.reg.x0.x1,u.reg.x0.x2,u.reg.x1.x0,u.reg.x1.x1,u.reg.x1.x2],2)
   | _=>([u.pc.x0,u.pc.x1,u.pc.x2,u.reg.x0.x0,u.reg.x0.x1,u.reg.x0.x2,u.reg.x1.x0,u.reg.x1.x1,u.reg.x1.x2,u.reg.x2.x0,u.reg.x2.x1,u.reg.x2.x2],3)) 3 (fun i hi=>match i,hi with
   | 0,_=>rfl
   | 1,_=>rfl
   | 2,_=>rfl) rfl
 ·subst hv;exact .gd rfl (.pure rfl)
theorem yA:∀ {l k:LI},(∀ x∈l,0<=x/\x<=255)->(∀ x∈k,0<=x/\x<=255)->strOfNums l=strOfNums k->l=k:=fun {l k} hl hk h=>by
 have h1:(l.map fun n=>UInt8.ofNat n.toNat)=k.map fun n=>UInt8.ofNat n.toNat:=by
  rw [<- strOfNums_data,<- strOfNums_data,h]
 have h2:(l.map fun n=>UInt8.ofNat n.toNat).map (fun b=>(b.toNat:Int))=(k.map fun n=>UInt8.ofNat n.toNat).map (fun b=>(b.toNat:Int)):=by rw [h1]
 have back:∀ l:LI,(∀ x∈l,0<=x/\x<=255)->(l.map fun n=>UInt8.ofNat n.toNat).map (fun b=>(b.toNat:Int))=l:=fun l hl=>by
  rw [List.map_map]
  conv=>rhs;rw [<- List.map_id l]
  refine List.map_congr_left fun x hx=>?_;have := hl x hx;simp only [Function.comp,UInt8.toNat_ofNat',id];omega
 rwa [back l hl,back k hk] at h2
theorem Iv.keyL (hp:PV p) (h:Iv p u):∃ d:List Nat,Go.Proofs.YtlmjnhnpahicmaaGreat.keyL u=d.map Int.ofNat/\d.length=15/\∀ x∈d.zip [8,8,8,4,4,4,4,4,4,4,4,4,4,4,4],x.1<x.2:=by
 have e:∀ x:Int,0<=x->x=Int.ofNat x.toNat:=fun x hx=>(Int.toNat_of_nonneg hx).symm;have hv:=hp.vs.2;have p0:=h.pc 0 (by decide);have p1:=h.pc 1 (by decide);have p2:=h.pc 2 (by decide);have v0:=hv 0;have v1:=hv 1;have v2:=hv 2;have r00:=h.rv 0 0 (by decide) (by decide);have r01:=h.rv 0 1 (by decide) (by decide);have r02:=h.rv 0 2 (by decide) (by decide);have r10:=h.rv 1 0 (by decide) (by decide);have r11:=h.rv 1 1 (by decide) (by decide);have r12:=h.rv 1 2 (by decide) (by decide);have r20:=h.rv 2 0 (by decide) (by decide);have r21:=h.rv 2 1 (by decide) (by decide);have r22:=h.rv 2 2 (by decide) (by decide);have m0:=h.mv 0 (by decide);have m1:=h.mv 1 (by decide);have m2:=h.mv 2 (by decide);change 0<=u.pc.x0/\u.pc.x0<=_ at p0;change 0<=u.pc.x1/\u.pc.x1<=_ at p1;change 0<=u.pc.x2/\u.pc.x2<=_ at p2;change 0<=u.reg.x0.x0/\u.reg.x0.x0<=_ at r00;change 0<=u.reg.x0.x1/\u.reg.x0.x1<=_ at r01;change 0<=u.reg.x0.x2/\u.reg.x0.x2<=_ at r02;change 0<=u.reg.x1.x0/\u.reg.x1.x0<=_ at r10;change 0<=u.reg.x1.x1/\u.reg.x1.x1<=_ at r11;change 0<=u.reg.x1.x2/\u.reg.x1.x2<=_ at r12;change 0<=u.reg.x2.x0/\u.reg.x2.x0<=_ at r20;change 0<=u.reg.x2.x1/\u.reg.x2.x1<=_ at r21;change 0<=u.reg.x2.x2/\u.reg.x2.x2<=_ at r22;change 0<=u.mem.x0/\u.mem.x0<=_ at m0;change 0<=u.mem.x1/\u.mem.x1<=_ at m1;change 0<=u.mem.x2/\u.mem.x2<=_ at m2;refine ⟨(Go.Proofs.YtlmjnhnpahicmaaGreat.keyL u).map Int.toNat,?_,rfl,?_⟩
 ·unfold Go.Proofs.YtlmjnhnpahicmaaGreat.keyL;simp only [List.map_cons,List.map_nil];rw [<- e _ p0.1,<- e _ p1.1,<- e _ p2.1,<- e _ r00.1,<- e _ r01.1,<- e _ r02.1,<- e _ r10.1,<- e _ r11.1,<- e _ r12.1,<- e _ r20.1,<- e _ r21.1,<- e _ r22.1,<- e _ m0.1,<- e _ m1.1,<- e _ m2.1]
 ·unfold Go.Proofs.YtlmjnhnpahicmaaGreat.keyL;simp only [List.map_cons,List.map_nil,List.zip_cons_cons,List.zip_nil_left,List.mem_cons,List.not_mem_nil,or_false,forall_eq_or_imp,forall_eq];refine ⟨?_,?_,?_,?_,?_,?_,?_,?_,?_,?_,?_,?_,?_,?_,?_⟩ <;> omega
theorem Cj {u v:LH} (hp:u.p=v.p) (h:keyL u=keyL v):u=v:=by
 obtain ⟨p,⟨a0,a1,a2⟩,⟨⟨b0,b1,b2⟩,⟨c0,c1,c2⟩,⟨d0,d1,d2⟩⟩,⟨e0,e1,e2⟩⟩:=u;obtain ⟨p',⟨a0',a1',a2'⟩,⟨⟨b0',b1',b2'⟩,⟨c0',c1',c2'⟩,⟨d0',d1',d2'⟩⟩,⟨e0',e1',e2'⟩⟩:=v;simp only [keyL,List.cons.injEq,and_true] at h;obtain ⟨rfl,rfl,rfl,rfl,rfl,rfl,rfl,rfl,rfl,rfl,rfl,rfl,rfl,rfl,rfl⟩:=h;simp only at hp;subst hp
 rfl
end
section
variable {p:List (List LD)} {u:LH}
theorem Iv.ins (hp:PV p) (h:Iv p u) {t:Nat} (ht:t<p.length) (hc:Bb u t=true):InR (ES u t):=by
 have hl:=hp.vs.1;have h1:=h.pc t (by omega);unfold Bb at hc;rw [h.up] at hc;have hc:=of_decide_eq_true hc;unfold ES;rw [h.up,tnn];exact hp.ins t _ ht (by omega)
theorem JY (hp:PV p) (h:Iv p u) {t:Nat} (ht:t<p.length) (hc:Bb u t=true):LN (bC ⟨u⟩ t) (· = ⟨Di u t (ES u t)⟩):=by
 have hl:=hp.vs.1;have hr7:=hp.vs.2 t;have h1:=h.pc t (by omega);have hx:=h.ins hp ht hc;unfold bC;refine (IM hp h ht).bind fun v ⟨e1,e2⟩ => ?_;have e3:=e2 (e1.trans hc);rw [<- e3] at hx ⊢;generalize v.1=x at hx ⊢;obtain ⟨x1,x2,x3,x4,x5,x6⟩:=hx;refine .gdD ⟨by omega,by omega⟩ (.gdY (by simp only [];omega) ?_);refine LN.bind (P:=(· = Dh u t x)) ?_ fun v4 hv4=>?_
 ·unfold dO Dh;refine .bif (fun ho => .gdD ⟨by omega,by omega⟩ (.gdD ⟨x3,by simp only [];omega⟩ (.pure ?_))) fun ho => .gdY (by simp only [];omega) (.pure ?_)
  ·rw [if_pos (by simpa using ho)]
  ·rw [if_neg (by simpa using ho)]
 subst hv4;refine LN.bind (P:=fun w=>(⟨⟨w.1,w.2.1,w.2.2.1⟩,⟨w.2.2.2.1,w.2.2.2.2.1,w.2.2.2.2.2.1⟩,⟨w.2.2.2.2.2.2.1,w.2.2.2.2.2.2.2.1,w.2.2.2.2.2.2.2.2⟩⟩:Z33)=if rdX x=true then Z33.set u.reg t (Z3b.set (Z33.get u.reg t) x.Reg (Z3b.get u.mem x.Loc)) else u.reg) ?_ fun w5 hw5=>?_
 ·refine (Cc _).bind fun b hb=>?_;have hb':b=rdX x:=hb;refine .bif (fun hc => .gdD ⟨x1,by omega⟩ (.gdD ⟨x3,by omega⟩ (.pure ?_))) fun hc => .pure ?_
  ·rw [if_pos (by rw [<- hb'];exact hc)]
  ·rw [if_neg (by rw [<- hb',hc];decide)]
 refine LN.bind (P:=fun w=>(⟨w.1,w.2.1,w.2.2⟩:Z3b)=if wrX x=true then Z3b.set u.mem x.Loc (Dh u t x) else u.mem) ?_ fun w10 hw10 => .pure ?_
 ·refine (vE _).bind fun b hb=>?_;have hb':b=wrX x:=hb;refine .bif (fun hc => .gdD ⟨x1,by omega⟩ (.pure ?_)) fun hc => .pure ?_
  ·rw [if_pos (by rw [<- hb'];exact hc)]
  ·rw [if_neg (by rw [<- hb',hc];decide)]
 ·unfold Di;rw [hw5,hw10]
theorem Iv.after (h:Iv p u) {t:Nat} (ht:t<3) (hc:Bb u t=true) {x:LD} (hx:InR x):Iv p (Di u t x):=by
 obtain ⟨x1,x2,x3,x4,x5,x6⟩:=hx;obtain ⟨l,hlx⟩:∃ l:Nat,x.Loc=l:=⟨x.Loc.toNat,by omega⟩;obtain ⟨g,hgx⟩:∃ g:Nat,x.Reg=g:=⟨x.Reg.toNat,by omega⟩;unfold Bb at hc;rw [h.up] at hc;have hc:=of_decide_eq_true hc;have hvv:0<=Dh u t x/\Dh u t x<=3:=by
  unfold Dh
  split
  ·rw [hgx];exact h.rv t g ht (by omega)
  ·omega
 unfold Di;refine ⟨h.up,fun i hi=>?_,fun t' g' ht' hg' => ?_,fun l' hl' => ?_⟩
 ·simp only [];rw [ny _ _ _ _ (by omega) (by omega)]
  by_cases e:i=t
  ·subst e;have := h.pc i hi;rw [if_pos rfl];omega
  ·rw [if_neg (by omega)];exact h.pc i hi
 ·simp only []
  split
  ·rw [zK _ _ _ _ (by omega) (by omega)]
   by_cases e:t'=t
   ·subst e;rw [if_pos rfl,hgx,ny _ _ _ _ (by omega) (by omega)]
    by_cases e2:g'=g
    ·subst e2;rw [if_pos rfl,hlx];exact h.mv l (by omega)
    ·rw [if_neg (by omega)];exact h.rv t' g' ht' hg'
   ·rw [if_neg (by omega)];exact h.rv t' g' ht' hg'
  ·exact h.rv t' g' ht' hg'
 ·simp only []
  split
  ·rw [hlx,ny _ _ _ _ (by omega) (by omega)]
   split
   ·exact hvv
   ·exact h.mv l' hl'
  ·exact h.mv l' hl'
def v0 (p:List (List LD)):LH:=⟨p,⟨0,0,0⟩,⟨⟨0,0,0⟩,⟨0,0,0⟩,⟨0,0,0⟩⟩,⟨0,0,0⟩⟩
theorem z3 (i:Int):Z3b.get ⟨0,0,0⟩ i=0:=by
 simp only [Z3b.get]
 split <;> (try split) <;> rfl
theorem z33 (i:Int):Z33.get ⟨⟨0,0,0⟩,⟨0,0,0⟩,⟨0,0,0⟩⟩ i=⟨0,0,0⟩:=by
 simp only [Z33.get]
 split <;> (try split) <;> rfl
theorem Iv.start (p:List (List LD)):Iv p (v0 p):=by
 refine ⟨rfl,fun t _=>?_,fun t g _ _=>?_,fun l _=>?_⟩
 ·unfold v0;simp only [z3];omega
 ·unfold v0;simp only [z33,z3];decide
 ·unfold v0;simp only [z3];decide
theorem mD (hp:PV p) {s0 s:LJ} (h0:Iv p s0.values) (h:Rea JB s0 s):Iv p s.values:=by
 induction h with
 | base=>exact h0
 | step _ hm ih=>
  obtain ⟨t,h1,rfl,h2⟩:=nA.1 hm;rw [ih.up] at h1;have hl:=hp.vs.1;exact ih.after (by omega) h2 (ih.ins hp h1 h2)
def bas:List Nat:=[8,8,8,4,4,4,4,4,4,4,4,4,4,4,4]
def dig (u:LH):List (Nat×Nat):=((keyL u).map Int.toNat).zip bas
theorem Bc (u:LH):(dig u).map (·.2)=bas:=rfl
theorem ET (u:LH):(dig u).map (·.1)=(keyL u).map Int.toNat:=rfl
theorem Cm:∀ l:List (Nat×Nat),Dg l=(l.map (·.2)).foldr (· * ·) 1
 | []=>rfl
 | (_,b)::l=>congrArg (b * ·) (Cm l)
theorem GK (u:LH):Dg (dig u)=8589934592:=by
 rw [Cm,Bc]
 decide
theorem digits (hp:PV p) (h:Iv p u):∀ x∈dig u,x.1<x.2:=by
 obtain ⟨d,h1,_,h2⟩:=h.keyL hp;unfold dig;rw [h1,List.map_map];have : d.map (Int.toNat ∘ Int.ofNat)=d:=by
  conv=>rhs;rw [<- List.map_id d]
  exact List.map_congr_left fun _ _=>rfl
 rw [this];exact h2
theorem IP (hp:PV p) {u v:LH} (hu:Iv p u) (hv:Iv p v) (h:qo (dig u)=qo (dig v)):(keyL u).map Int.toNat=(keyL v).map Int.toNat:=by
 rw [<- ET,<- ET,zJ (dig u) (dig v) ((Bc u).trans (Bc v).symm) (digits hp hu) (digits hp hv) h]
theorem Cn (hp:PV p) (h:Iv p u):∀ x∈keyL u,0<=x/\x<=255:=by
 obtain ⟨d,h1,h3,h2⟩:=h.keyL hp;rw [h1];intro x hx;obtain ⟨n,hn,rfl⟩:=List.mem_map.1 hx;obtain ⟨j,hj,rfl⟩:=List.getElem_of_mem hn;have hz:j<(d.zip [8,8,8,4,4,4,4,4,4,4,4,4,4,4,4]).length:=by simp;omega
 have h4:=h2 _ (List.getElem_mem hz);rw [List.getElem_zip] at h4;have h5:∀ b∈[8,8,8,4,4,4,4,4,4,4,4,4,4,4,4],b<=8:=by decide
 have h6:=h5 _ (List.getElem_mem (l:=[8,8,8,4,4,4,4,4,4,4,4,4,4,4,4]) (n:=j) (by simp;omega));simp only at h4
 constructor
 ·exact Int.natCast_nonneg _
 ·show ((d[j]:Nat):Int)<=255;omega
theorem GL (hp:PV p) {u v:LH} (hu:Iv p u) (hv:Iv p v) (h:(keyL u).map Int.toNat=(keyL v).map Int.toNat):keyL u=keyL v:=by
 have back:∀ l:LI,(∀ x∈l,0<=x/\x<=255)->(l.map Int.toNat).map Int.ofNat=l:=fun l hl=>by
  rw [List.map_map]
  conv=>rhs;rw [<- List.map_id l]
  refine List.map_congr_left fun x hx=>?_;exact Int.toNat_of_nonneg (hl x hx).1
 rw [<- back _ (Cn hp hu),<- back _ (Cn hp hv),h]
theorem IQ (hp:PV p) {s0:LJ} (h0:Iv p s0.values):Mok JB s0 8589934592 where
 key:=fun s t hs ht h=>by
  have h1:=mD hp h0 hs;have h2:=mD hp h0 ht;have := Cj (h1.up.trans h2.up.symm) (yA (Cn hp h1) (Cn hp h2) h)
  cases s;cases t
  simp only at this;rw [this]
 cnt:=fun V hn hV=>by
  have hI:∀ v∈V,Iv p v.values:=fun v hv=>mD hp h0 (hV v hv);refine GI (fun v=>qo (dig v.values)) _ V hn (fun v hv=>?_) fun s hs t ht h=>?_
  ·have := Cb _ (digits hp (hI v hv))
   rwa [GK] at this
  ·have h3:=IP hp (hI s hs) (hI t ht) h;have := Cj ((hI s hs).up.trans (hI t ht).up.symm) (GL hp (hI s hs) (hI t ht) h3)
   cases s;cases t
   simp only at this;rw [this]
theorem IR (hp:PV p) {s0:LJ} (h0:Iv p s0.values):Mrt bB bC dL bw (fun s=>aL s.values) JB s0 where
 mv:=fun s hs=>JX hp (mD hp h0 hs)
 af:=fun s m hs hm=>by
  have h1:=mD hp h0 hs;obtain ⟨t,h2,rfl,h3⟩:=nA.1 hm;rw [h1.up] at h2;exact JY hp h1 h2 h3
 ky:=fun s hs=>GJ s.values
 dn:=fun s hs=>KQ hp (mD hp h0 hs)
 oc:=fun s hs _=>Ci hp (mD hp h0 hs)
 len:=fun s hs=>by
  have h1:=Cg (u:=s.values) s.values.p.length;have h2:=(mD hp h0 hs).up;have h3:=hp.vs.1;rw [h2] at h1;show (yz s.values).length<=_;unfold yz;rw [h2];omega
theorem GM (u:LH):(xy u).length=3*u.p.length+3:=by
 unfold xy Kz;rw [lla,qX]
 rfl
def H5 (p:List (List LD)):LI->Prop:=Ky JB ⟨v0 p⟩
theorem EU (hp:PV p):LN (cV ⟨v0 p⟩) fun q=>q.1.Pairwise ltL/\∀ o,o∈q.1↔H5 p o:=by
 have h0:Iv p (⟨v0 p⟩:LJ).values:=Iv.start p;have e:cV ⟨v0 p⟩=KP bB bC dL bw (fun s=>aL s.values) aY ⟨v0 p⟩:=rfl;rw [e];have hQ:∀ l:LL,l.length<=8589934592->(∀ o∈l,H5 p o)->LN (aY l) (Sor l):=fun l hl ho=>xx (by omega) fun r hr=>by
  obtain ⟨s,h1,_,rfl⟩:=ho r hr;have h2:=(mD hp h0 h1).up;have h3:=hp.vs.1;show (xy s.values).length<=_;rw [GM,h2];omega
 refine (IL (IQ hp h0) (IR hp h0) (by decide) hQ).mono fun q ⟨l,h1,h2,_⟩=>⟨h1.lt,fun o=>(h1.mem o).trans (h2 o)⟩
theorem Dj (hp:PV p) (hv:aB p=some true):LN (eT p) fun q=>q.Pairwise ltL/\∀ o,o∈q↔H5 p o:=by
 unfold eT;rw [hv];refine LN.bind (P:=(· = true)) (.pure rfl) fun b hb => .bif (fun h=>absurd h (by rw [hb];decide)) fun _=>?_;exact LN.bind (P:=fun s:LJ=>s=⟨v0 p⟩) (.pure rfl) fun v hv=>LN.bind (P:=fun q:LL×Int=>q.1.Pairwise ltL/\∀ o,o∈q.1↔H5 p o) (hv ▸ EU hp) fun q hq => .pure hq
theorem Dk (hv:aB p=some false):eT p=some []:=by
 unfold eT;rw [hv]
 rfl
end
def evI (t k:Nat) (x:LD):List LG:=if x.Op=4 then [] else [⟨t,k,x.Loc,rdX x,wrX x⟩]
def evR (t:Nat) (row:List LD):Nat->List LG
 | 0=>[]
 | n+1=>evR t row n++evI t n (row.getD n default)
def ev0:List LG:=[⟨-1,0,0,false,true⟩,⟨-1,1,1,false,true⟩,⟨-1,2,2,false,true⟩]
def evP (p:List (List LD)):Nat->List LG
 | 0=>ev0
 | n+1=>evP p n++evR n (p.getD n default) (p.getD n default).length
def evs (p:List (List LD)):List LG:=evP p p.length
theorem EW (t k:Nat) (x:LD):(evI t k x).length<=1:=by unfold evI;split <;> simp
theorem yB (t:Nat) (row:List LD) (n:Nat):(evR t row n).length<=n:=by
 induction n with
 | zero=>exact Nat.le_refl _
 | succ n ih=>
  have := EW t n (row.getD n default);simp only [evR,lla];omega
theorem yC {p:List (List LD)} (h:Vs p) (n:Nat):(evP p n).length<=3+7*n:=by
 induction n with
 | zero=>exact Nat.le_refl _
 | succ n ih=>
  have h1:=yB n (p.getD n default) (p.getD n default).length;have h2:=h.2 n;simp only [evP,lla];omega
theorem H6 (x:LD):LN (cF x) (· = rdX x):=by
 unfold cF rdX;exact LN.bind (P:=(· = (x.Op==1||x.Op==5))) (.bif (fun h => .pure (by rw [h];rfl)) fun h => .pure (by rw [h];rfl)) fun v hv => .pure hv
theorem EY (x:LD):LN (bW x) (· = wrX x):=by
 unfold bW wrX;exact LN.bind (P:=(· = (x.Op==2||x.Op==3))) (.bif (fun h => .pure (by rw [h];rfl)) fun h => .pure (by rw [h];rfl)) fun v hv=>LN.bind (P:=(· = (x.Op==2||x.Op==3||x.Op==5))) (.bif (fun h => .pure (by rw [<- hv,h];rfl)) fun h => .pure (by rw [<- hv,h];rfl)) fun v hv => .pure hv
theorem IU {p:List (List LD)} (hp:Vs p):LN (kI p) (· = evs p):=by
 have hpl:=hp.1;unfold kI;refine LN.bind (P:=(· = ev0)) ?_ fun l hl=>LN.bind (P:=(· = evs p)) ?_ fun v hv => .pure hv
 ·refine LN.loop (fun s=>∃ n:Nat,n<=3/\s=(ev0.take n,(n:Int))) (fun s=>(3-s.2).toNat) ⟨0,by omega,rfl⟩ fun s ⟨n,h1,h2⟩ => ?_;subst h2;unfold kz;refine .bifD (fun h=>?_) fun h => .pure ?_
  ·match n,h1,h with
   | 0,_,_=>exact .gdC (by decide) rfl (.gdI (by decide) (.pure ⟨⟨1,by omega,rfl⟩,by decide⟩))
   | 1,_,_=>exact .gdC (by decide) rfl (.gdI (by decide) (.pure ⟨⟨2,by omega,rfl⟩,by decide⟩))
   | 2,_,_=>exact .gdC (by decide) rfl (.gdI (by decide) (.pure ⟨⟨3,by omega,rfl⟩,by decide⟩))
   | 3,_,h=>exact absurd h (by decide)
  ·have : n=3:=by simp only [] at h;omega
   subst this
   rfl
 ·subst hl;refine LN.loop (fun s=>∃ n:Nat,n<=p.length/\s=(evP p n,(n:Int))) (fun s=>((p.length:Int)-s.2).toNat) ⟨0,by omega,rfl⟩ fun s ⟨n,h1,h2⟩ => ?_;subst h2;unfold jK;refine .bifD (fun h=>?_) fun h => .pure ?_
  ·have hlen:=yC hp n;have hrow:=hp.2 n;simp only [] at h;refine LN.bind (P:=(· = evP p (n+1))) (.gdD ⟨by simp only [];omega,h⟩ ?_) fun v hv => .gdI (by simp only [];omega) (.pure ⟨⟨n+1,by omega,by rw [hv];rfl⟩,by simp only [];omega⟩);refine LN.loop (fun t=>∃ k:Nat,k<=(p.getD n default).length/\t=(evP p n++evR n (p.getD n default) k,(k:Int))) (fun t=>(((p.getD n default).length:Int)-t.2).toNat) ⟨0,by omega,by simp [evR]⟩ fun t ⟨k,k1,k2⟩ => ?_;subst k2;unfold jJ;simp only [tnn];refine .bifD (fun hk=>?_) fun hk => .pure ?_
   ·have hl2:=yB n (p.getD n default) k;refine LN.bind (P:=(· = evP p n++evR n (p.getD n default) (k+1))) (.gdD ⟨by omega,hk⟩ ?_) fun v hv => .gdI (by omega) (.pure ⟨⟨k+1,by omega,by rw [hv];rfl⟩,by simp only [];omega⟩);refine .bif (fun ho=>?_) fun ho => .pure ?_
    ·refine (Cc _).bind fun a ha=>(vE _).bind fun b hb => .gdC (by simp only [lla];omega) rfl (.pure ?_);have h4 : ¬ ((p.getD n default).getD k default).Op=4:=by simpa using ho
     subst ha hb;simp only [evR,evI,if_neg h4,List.append_assoc]
    ·have h4:((p.getD n default).getD k default).Op=4:=by simpa using ho
     simp only [evR,evI,if_pos h4,List.append_nil]
   ·have : k=(p.getD n default).length:=by omega
    subst this
    rfl
  ·have : n=p.length:=by simp only [] at h;omega
   subst this
   rfl
theorem Bd {p:List (List LD)} (hp:Vs p):LN (eu p) (· = evs p):=by
 have hpl:=hp.1;unfold eu;refine LN.bind (P:=(· = ev0)) ?_ fun l hl=>LN.bind (P:=(· = evs p)) ?_ fun v hv => .pure hv
 ·refine LN.loop (fun s=>∃ n:Nat,n<=3/\s=(ev0.take n,(n:Int))) (fun s=>(3-s.2).toNat) ⟨0,by omega,rfl⟩ fun s ⟨n,h1,h2⟩ => ?_;subst h2;unfold jb;refine .bifD (fun h=>?_) fun h => .pure ?_
  ·match n,h1,h with
   | 0,_,_=>exact .gdC (by decide) rfl (.gdI (by decide) (.pure ⟨⟨1,by omega,rfl⟩,by decide⟩))
   | 1,_,_=>exact .gdC (by decide) rfl (.gdI (by decide) (.pure ⟨⟨2,by omega,rfl⟩,by decide⟩))
   | 2,_,_=>exact .gdC (by decide) rfl (.gdI (by decide) (.pure ⟨⟨3,by omega,rfl⟩,by decide⟩))
   | 3,_,h=>exact absurd h (by decide)
  ·have : n=3:=by simp only [] at h;omega
   subst this
   rfl
 ·subst hl;refine LN.loop (fun s=>∃ n:Nat,n<=p.length/\s=(evP p n,(n:Int))) (fun s=>((p.length:Int)-s.2).toNat) ⟨0,by omega,rfl⟩ fun s ⟨n,h1,h2⟩ => ?_;subst h2;unfold iF;refine .bifD (fun h=>?_) fun h => .pure ?_
  ·have hlen:=yC hp n;have hrow:=hp.2 n;simp only [] at h;refine LN.bind (P:=(· = evP p (n+1))) ?_ fun v hv => .gdI (by simp only [];omega) (.pure ⟨⟨n+1,by omega,by rw [hv];rfl⟩,by simp only [];omega⟩);refine LN.loop (fun t=>∃ k:Nat,k<=(p.getD n default).length/\t=(evP p n++evR n (p.getD n default) k,(k:Int))) (fun t=>(((p.getD n default).length:Int)-t.2).toNat) ⟨0,by omega,by simp [evR]⟩ fun t ⟨k,k1,k2⟩ => ?_;subst k2;unfold iE;simp only [tnn];refine .gdD ⟨by omega,h⟩ (.bifD (fun hk=>?_) fun hk => .pure ?_)
   ·have hl2:=yB n (p.getD n default) k;refine LN.bind (P:=(· = evP p n++evR n (p.getD n default) (k+1))) (.gdD ⟨by omega,hk⟩ ?_) fun v hv => .gdI (by omega) (.pure ⟨⟨k+1,by omega,by rw [hv];rfl⟩,by simp only [];omega⟩);refine .bif (fun ho=>?_) fun ho => .pure ?_
    ·refine (H6 _).bind fun a ha=>(EY _).bind fun b hb => .gdC (by simp only [lla];omega) rfl (.pure ?_);have h4 : ¬ ((p.getD n default).getD k default).Op=4:=by simpa using ho
     subst ha hb;simp only [evR,evI,if_neg h4,List.append_assoc]
    ·have h4:((p.getD n default).getD k default).Op=4:=by simpa using ho
     simp only [evR,evI,if_pos h4,List.append_nil]
   ·have : k=(p.getD n default).length:=by omega
    subst this
    rfl
  ·have : n=p.length:=by simp only [] at h;omega
   subst this
   rfl
theorem KR {t:Nat} {row:List LD} {n:Nat} {e:LG} (h:e∈evR t row n):∃ k:Nat,k<n/\e.Thread=t/\e.Index=k:=by
 induction n with
 | zero=>simp [evR] at h
 | succ n ih=>
  simp only [evR,List.mem_append] at h;rcases h with h | h
  ·obtain ⟨k,h1,h2⟩:=ih h;exact ⟨k,by omega,h2⟩
  ·unfold evI at h
   split at h
   ·simp at h
   ·rw [List.mem_singleton] at h;subst h;exact ⟨n,by omega,rfl,rfl⟩
theorem bQ {l:LI} {i j:Nat} {v:Int} (hj:i<l.length):(l.set i v).getD j default=if j=i then v else l.getD j default:=by
 rw [gdq,List.getElem?_set]
 by_cases e:i=j
 ·subst e;rw [if_pos rfl,if_pos hj,if_pos rfl]
  rfl
 ·rw [if_neg e,if_neg (Ne.symm e),gdq]
theorem qY {l:LI} {i:Nat} (h:i<l.length):l.getD i default∈l:=by
 rw [gdq,geq h];exact List.getElem_mem _
theorem Co {l:LI} {P:Int->Prop} (h:∀ v∈l,P v) {i:Nat} {x:Int} (hx:P x):∀ v∈l.set i x,P v:=fun v hv=>by
 rcases List.mem_or_eq_of_mem_set hv with hv | rfl
 ·exact h v hv
 ·exact hx
structure Rel (p:List (List LD)) (u:LH) (z:LM):Prop where
 up:u.p=p
 al:z.at_.length=p.length
 a:∀ i:Nat,i<p.length->z.at_.getD i default=Z3b.get u.pc i
 al1:∀ i:Nat,i<p.length->0<=z.at_.getD i default/\z.at_.getD i default<=((p.getD i default).length:Int)
 rl:z.regs.length=3*p.length
 r:∀ t g:Nat,t<p.length->g<3->z.regs.getD (3*t+g) default=Z3b.get (Z33.get u.reg t) g
 rv:∀ v∈z.regs,0<=v/\v<=3
 ml:z.mem.length=3
 m:∀ l:Nat,l<3->z.mem.getD l default=Z3b.get u.mem l
 mv:∀ v∈z.mem,0<=v/\v<=3
 b:z.buf=[]
section
variable {p:List (List LD)} {u:LH} {z:LM}
theorem Rel.regv (h:Rel p u z) {t g:Nat} (ht:t<p.length) (hg:g<3):0<=Z3b.get (Z33.get u.reg t) g/\Z3b.get (Z33.get u.reg t) g<=3:=by
 rw [<- h.r t g ht hg];exact h.rv _ (qY (by rw [h.rl];omega))
theorem Rel.memv (h:Rel p u z) {l:Nat} (hl:l<3):0<=Z3b.get u.mem l/\Z3b.get u.mem l<=3:=by
 rw [<- h.m l hl];exact h.mv _ (qY (by rw [h.ml];omega))
theorem yD (hp:PV p) (h:Rel p u z) {t:Int} (ht:0<=t/\t<(p.length:Int)):LN (bu u t) fun v=>v.2=decide (z.at_.getD t.toNat default<((p.getD t.toNat default).length:Int))/\(v.2=true->v.1=(p.getD t.toNat default).getD (z.at_.getD t.toNat default).toNat default):=by
 have hl:=hp.vs.1;have hr:=hp.vs.2 t.toNat;have h1:=h.al1 t.toNat (by omega);have h2:=h.a t.toNat (by omega);rw [Int.toNat_of_nonneg ht.1] at h2;unfold bu;rw [h.up,<- h2];refine .gdD ⟨ht.1,by omega⟩ (.gdI (by omega) (.gdD ht (.bifD (fun hle => .pure ⟨?_,nofun⟩) fun hle => .gdD ⟨h1.1,by omega⟩ (.pure ⟨?_,fun _=>rfl⟩))))
 ·simp only [];rw [decide_eq_false (by omega)]
 ·simp only [];rw [decide_eq_true (by omega)]
theorem EZ (hp:PV p) (h:Rel p u z):LN (bB ⟨u⟩) fun l=>l.length<=3/\∀ m:Int,m∈l↔(0<=m/\m<(p.length:Int))/\z.at_.getD m.toNat default<((p.getD m.toNat default).length:Int):=by
 have hl:=hp.vs.1;unfold bB;refine LN.bind (P:=fun l=>l.length<=3/\∀ m:Int,m∈l↔(0<=m/\m<(p.length:Int))/\z.at_.getD m.toNat default<((p.getD m.toNat default).length:Int)) ?_ fun v hv => .pure hv;refine LN.loop (fun s=>0<=s.2/\s.2<=(p.length:Int)/\(s.1.length:Int)<=s.2/\∀ m:Int,m∈s.1↔(0<=m/\m<s.2)/\z.at_.getD m.toNat default<((p.getD m.toNat default).length:Int)) (fun s=>((p.length:Int)-s.2).toNat) ⟨Int.le_refl _,by simp only [];omega,by simp,fun m=>⟨nofun,fun ⟨⟨h1,h2⟩,_⟩=>absurd h2 (by simp only [];omega)⟩⟩ fun s ⟨h1,h2,h3,h4⟩ => ?_;unfold eQ;simp only [h.up];refine .bifD (fun hlt=>?_) fun hge => .pure ?_
 ·refine LN.bind (P:=fun l:LI=>(l.length:Int)<=s.2+1/\∀ m:Int,m∈l↔(0<=m/\m<s.2+1)/\z.at_.getD m.toNat default<((p.getD m.toNat default).length:Int)) ?_ fun v ⟨v1,v2⟩ => .gdI (by omega) (.pure ⟨⟨by simp only [];omega,by simp only [];omega,v1,v2⟩,by simp only [];omega⟩);refine (yD hp h ⟨h1,hlt⟩).bind fun v ⟨e1,_⟩ => .bif (fun hb => .gd (au (by omega) rfl) (.pure ⟨by rw [lla];simp;omega,fun m=>?_⟩)) fun hb => .pure ⟨by omega,fun m=>?_⟩
  ·rw [hb] at e1;have e1:=of_decide_eq_true e1.symm;rw [List.mem_append,h4,List.mem_singleton]
   constructor
   ·rintro (⟨⟨g1,g2⟩,g3⟩ | rfl)
    ·exact ⟨⟨g1,by omega⟩,g3⟩
    ·exact ⟨⟨h1,by omega⟩,e1⟩
   ·rintro ⟨⟨g1,g2⟩,g3⟩
    by_cases e:m=s.2
    ·exact .inr e
    ·exact .inl ⟨⟨g1,by omega⟩,g3⟩
  ·rw [hb] at e1;have e1:=of_decide_eq_false e1.symm;rw [h4]
   constructor
   ·rintro ⟨⟨g1,g2⟩,g3⟩;exact ⟨⟨g1,by omega⟩,g3⟩
   ·rintro ⟨⟨g1,g2⟩,g3⟩;refine ⟨⟨g1,?_⟩,g3⟩
    by_cases e:m=s.2
    ·subst e;exact absurd g3 e1
    ·omega
 ·have : s.2=(p.length:Int):=by omega
  rw [<- this];exact ⟨by omega,h4⟩
theorem tO (s:LI) (v:Int) (hs:s.length<=1048576):LN (bT s v) (· = decide (v∈s)):=by
 unfold bT;refine LN.bind (P:=fun r:Int=>0<=r↔v∈s) ?_ fun r hr => .pure (decide_eq_decide.2 hr);unfold fI;refine LN.sum (PS:=fun _=>v∉s) (PW:=fun r:Int=>0<=r↔v∈s) ?_ fun _ hn => .pure ⟨fun h=>absurd h (by decide),fun h=>absurd h hn⟩;refine LN.loop (fun i=>0<=i/\i<=(s.length:Int)/\∀ j:Nat,(j:Int)<i->s[j]? ≠ some v) (fun i=>((s.length:Int)-i).toNat) ⟨Int.le_refl _,by omega,fun j hj=>absurd hj (by omega)⟩ fun i ⟨h1,h2,h3⟩ => ?_;unfold gZ;refine .bifD (fun hlt => .gdD ⟨h1,hlt⟩ ?_) fun hge => .pure fun hm=>?_
 ·have hi:i.toNat<s.length:=by omega
  have e:s.getD i.toNat default=s[i.toNat]:=by rw [gdq,geq hi];rfl
  rw [e];refine .bif (fun hb => .pure ⟨fun _=>?_,fun _=>h1⟩) fun hb => .gdI (by omega) (.pure ⟨⟨by omega,by omega,fun j hj=>?_⟩,by omega⟩)
  ·have : v=s[i.toNat]:=by simpa using hb
   rw [this];exact List.getElem_mem _
  ·by_cases ej:j=i.toNat
   ·subst ej;rw [geq hi];intro he;have := osl he;rw [this] at hb;simp at hb
   ·exact h3 j (by omega)
 ·obtain ⟨j,hj,rfl⟩:=List.getElem_of_mem hm;exact h3 j (by omega) (geq hj)
def Gd (z:LM) (t:Int) (x:LD):Int:=if x.Op=3 then z.regs.getD (t*3+x.Reg).toNat default else x.Val
def Dl (z:LM) (t:Int) (x:LD):LM:=
 ⟨z.at_.set t.toNat (z.at_.getD t.toNat default+1),if rdX x=true then z.regs.set (t*3+x.Reg).toNat (z.mem.getD x.Loc.toNat default) else z.regs,if wrX x=true then z.mem.set x.Loc.toNat (Gd z t x) else z.mem,[]⟩
theorem E0 (hp:PV p) (h:Rel p u z) {t:Int} (ht:0<=t/\t<(p.length:Int)) (hlt:z.at_.getD t.toNat default<((p.getD t.toNat default).length:Int)) :
  LN (bC ⟨u⟩ t) (· = ⟨Di u t ((p.getD t.toNat default).getD (z.at_.getD t.toNat default).toNat default)⟩):=by
 have hl:=hp.vs.1;have h1:=h.al1 t.toNat (by omega);have h2:=h.a t.toNat (by omega);have hr7:=hp.vs.2 t.toNat;rw [Int.toNat_of_nonneg ht.1] at h2;have hx:=hp.ins t.toNat (z.at_.getD t.toNat default).toNat (by omega) (by omega);unfold bC;refine (yD hp h ht).bind fun v ⟨e1,e2⟩ => ?_;have e3:=e2 (e1.trans (decide_eq_true hlt));rw [<- e3] at hx ⊢;generalize v.1=x at hx ⊢;obtain ⟨x1,x2,x3,x4,x5,x6⟩:=hx;refine .gdD ⟨ht.1,by omega⟩ (.gdY (by simp only [];omega) ?_);have hrg:=fun g hg=>h.regv (t:=t.toNat) (g:=g) (by omega) hg;rw [Int.toNat_of_nonneg ht.1] at hrg;refine LN.bind (P:=(· = Dh u t x)) ?_ fun v4 hv4=>?_
 ·unfold dO Dh;refine .bif (fun ho => .gdD ⟨ht.1,by omega⟩ (.gdD ⟨x3,by simp only [];omega⟩ (.pure ?_))) fun ho => .gdY (by simp only [];omega) (.pure ?_)
  ·rw [if_pos (by simpa using ho)]
  ·rw [if_neg (by simpa using ho)]
 subst hv4;have hr:LN (bif rdX x then
   gd (decide (0<=x.Loc/\x.Loc<3)) <|
   gd (decide (0<=x.Reg/\x.Reg<3)) <|
   some (Z33.set u.reg t (Z3b.set (Z33.get u.reg t) x.Reg (Z3b.get u.mem x.Loc)))
  else some u.reg) (· = if rdX x=true then Z33.set u.reg t (Z3b.set (Z33.get u.reg t) x.Reg (Z3b.get u.mem x.Loc)) else u.reg):=
  .bif (fun hb => .gdD ⟨x1,by omega⟩ (.gdD ⟨x3,by omega⟩ (.pure (by rw [if_pos hb])))) fun hb => .pure (by rw [if_neg (by simp [hb])])
 refine LN.bind (P:=fun w=>(⟨⟨w.1,w.2.1,w.2.2.1⟩,⟨w.2.2.2.1,w.2.2.2.2.1,w.2.2.2.2.2.1⟩,⟨w.2.2.2.2.2.2.1,w.2.2.2.2.2.2.2.1,w.2.2.2.2.2.2.2.2⟩⟩:Z33)=if rdX x=true then Z33.set u.reg t (Z3b.set (Z33.get u.reg t) x.Reg (Z3b.get u.mem x.Loc)) else u.reg) ?_ fun w5 hw5=>?_
 ·refine (Cc _).bind fun b hb=>?_;have hb':b=rdX x:=hb;refine .bif (fun hc => .gdD ⟨x1,by omega⟩ (.gdD ⟨x3,by omega⟩ (.pure ?_))) fun hc => .pure ?_
  ·rw [if_pos (by rw [<- hb'];exact hc)]
  ·rw [if_neg (by rw [<- hb',hc];decide)]
 refine LN.bind (P:=fun w=>(⟨w.1,w.2.1,w.2.2⟩:Z3b)=if wrX x=true then Z3b.set u.mem x.Loc (Dh u t x) else u.mem) ?_ fun w10 hw10 => .pure ?_
 ·refine (vE _).bind fun b hb=>?_;have hb':b=wrX x:=hb;refine .bif (fun hc => .gdD ⟨x1,by omega⟩ (.pure ?_)) fun hc => .pure ?_
  ·rw [if_pos (by rw [<- hb'];exact hc)]
  ·rw [if_neg (by rw [<- hb',hc];decide)]
 ·unfold Di;rw [hw5,hw10]
theorem GN (h:Rel p u z) (hl:p.length<=3):LN (nu z) (· = z):=by
 have ha:=h.al;have hr:=h.rl;have hm:=h.ml;unfold nu;refine .gd (au (by simp;omega) rfl) (.gd (au (by simp;omega) rfl) (.gd (au (by simp;omega) rfl) ?_));refine LN.bind (P:=fun _=>True) ?_ fun _ _ => .pure ?_
 ·refine LN.loop (fun _=>True) (fun _=>0) trivial fun s _=>?_;unfold nM;refine .bifD (fun h0=>?_) fun _ => .pure trivial;rw [h.b] at h0;exact absurd h0 (by simp)
 ·have hb:=h.b
  cases z
  simp only at hb;subst hb
  rfl
theorem JZ (hp:PV p) (h:Rel p u z) {t:Int} (ht:0<=t/\t<(p.length:Int)) (hlt:z.at_.getD t.toNat default<((p.getD t.toNat default).length:Int)) :
  LN (qm p z t) (· = Dl z t ((p.getD t.toNat default).getD (z.at_.getD t.toNat default).toNat default)):=by
 have hl:=hp.vs.1;have h1:=h.al1 t.toNat (by omega);have hr7:=hp.vs.2 t.toNat;have hx:=hp.ins t.toNat (z.at_.getD t.toNat default).toNat (by omega) (by omega);unfold qm;generalize (p.getD t.toNat default).getD (z.at_.getD t.toNat default).toNat default=x at hx ⊢;obtain ⟨x1,x2,x3,x4,x5,x6⟩:=hx;have hreg:lN t x.Reg=some (t*3+x.Reg):=by
  unfold lN;rw [iS (BM (by omega)),iS (BM (by omega))]
 refine (GN h hl).bind fun v1 e=>?_;subst e;refine .gdD ht (.gdD (by rw [h.al];exact ht) (.gdD ⟨h1.1,hlt⟩ (.gdI (by omega) (.gdD (by rw [h.al];exact ht) ?_))));refine LN.bind (P:=(· = if rdX x=true then v1.regs.set (t*3+x.Reg).toNat (v1.mem.getD x.Loc.toNat default) else v1.regs)) ?_ fun w5 hw5=>?_
 ·refine (H6 _).bind fun b hb=>?_;have hb':b=rdX x:=hb;refine .bif (fun hc=>(LN.of (P:=(· = t*3+x.Reg)) hreg rfl).bind fun v hv=>?_) fun hc => .pure ?_
  ·subst hv;exact .gdD ⟨x1,by rw [h.ml];omega⟩ (.gdD ⟨by omega,by rw [h.rl];omega⟩ (.pure (by rw [if_pos (by rw [<- hb'];exact hc)])))
  ·rw [if_neg (by rw [<- hb',hc];decide)]
 subst hw5;refine LN.bind (P:=(· = if wrX x=true then v1.mem.set x.Loc.toNat (Gd v1 t x) else v1.mem)) ?_ fun w10 hw10 => .pure (by rw [hw10];rfl);refine (EY _).bind fun b hb=>?_;have hb':b=wrX x:=hb;refine .bif (fun hc=>?_) fun hc => .pure ?_
 ·refine LN.bind (P:=(· = Gd v1 t x)) ?_ fun v hv => .gdD ⟨x1,by rw [h.ml];omega⟩ (.pure (by rw [if_pos (by rw [<- hb'];exact hc),hv]));unfold qb Gd;refine .bif (fun ho=>(LN.of (P:=(· = t*3+x.Reg)) hreg rfl).bind fun v hv=>?_) fun ho => .pure ?_
  ·subst hv;exact .gdD ⟨by omega,by rw [h.rl];omega⟩ (.pure (by rw [if_pos (by simpa using ho)]))
  ·rw [if_neg (by simpa using ho)]
 ·rw [if_neg (by rw [<- hb',hc];decide)]
theorem Rel.after (hp:PV p) (h:Rel p u z) {t:Int} (ht:0<=t/\t<(p.length:Int)) (hlt:z.at_.getD t.toNat default<((p.getD t.toNat default).length:Int)) {x:LD} (hx:InR x):Rel p (Di u t x) (Dl z t x):=by
 have hl:=hp.vs.1;obtain ⟨n,rfl⟩:∃ n:Nat,t=n:=⟨t.toNat,by omega⟩;simp only [tnn] at hlt;have hn:n<p.length:=by omega
 obtain ⟨x1,x2,x3,x4,x5,x6⟩:=hx;obtain ⟨l,hlx⟩:∃ l:Nat,x.Loc=l:=⟨x.Loc.toNat,by omega⟩;obtain ⟨g,hgx⟩:∃ g:Nat,x.Reg=g:=⟨x.Reg.toNat,by omega⟩;have e3:((n:Int)*3+(g:Int)).toNat=3*n+g:=by omega
 have hval:Dh u n x=Gd z n x:=by
  unfold Dh Gd
  split
  ·rw [hgx,e3,h.r n g hn (by omega)]
  ·rfl
 have hvv:0<=Gd z n x/\Gd z n x<=3:=by
  rw [<- hval];unfold Dh
  split
  ·rw [hgx];exact h.regv hn (by omega)
  ·omega
 unfold Di Dl;simp only [tnn];refine ⟨h.up,by simp only [List.length_set];exact h.al,fun i hi=>?_,fun i hi=>?_,?_,fun t' g' ht' hg' => ?_,?_,?_,fun l' hl' => ?_,?_,rfl⟩
 ·simp only [];rw [bQ (by rw [h.al];exact hn),ny _ _ _ _ (by omega) (by omega),h.a i hi,h.a n hn]
  by_cases e:i=n
  ·rw [if_pos e,if_pos (by omega)]
  ·rw [if_neg e,if_neg (by omega)]
 ·simp only [];rw [bQ (by rw [h.al];exact hn)]
  by_cases e:i=n
  ·subst e;have := h.al1 i hi;rw [if_pos rfl];omega
  ·rw [if_neg e];exact h.al1 i hi
 ·simp only []
  split
  ·rw [List.length_set];exact h.rl
  ·exact h.rl
 ·simp only []
  split
  ·rw [hlx,hgx,e3,tnn,bQ (by rw [h.rl];omega),zK _ _ _ _ (by omega) (by omega)]
   by_cases e:t'=n
   ·subst e;rw [if_pos rfl,ny _ _ _ _ (by omega) (by omega)]
    by_cases e2:g'=g
    ·subst e2;rw [if_pos rfl,if_pos rfl,h.m l (by omega)]
    ·rw [if_neg (by omega),if_neg (by omega)];exact h.r t' g' ht' hg'
   ·rw [if_neg (by omega),if_neg (by omega)];exact h.r t' g' ht' hg'
  ·exact h.r t' g' ht' hg'
 ·simp only []
  split
  ·refine Co h.rv ?_;rw [hlx,tnn,h.m l (by omega)];exact h.memv (by omega)
  ·exact h.rv
 ·simp only []
  split
  ·rw [List.length_set];exact h.ml
  ·exact h.ml
 ·simp only []
  split
  ·rw [hlx,tnn,bQ (by rw [h.ml];omega),ny _ _ _ _ (by omega) (by omega),hval]
   by_cases e:l'=l
   ·rw [if_pos e,if_pos (by omega)]
   ·rw [if_neg e,if_neg (by omega)];exact h.m l' hl'
  ·exact h.m l' hl'
 ·simp only []
  split
  ·exact Co h.mv hvv
  ·exact h.mv
theorem E5 (hp:PV p):LN (fG p (0:Int)) (Rel p ⟨p,⟨0,0,0⟩,⟨⟨0,0,0⟩,⟨0,0,0⟩,⟨0,0,0⟩⟩,⟨0,0,0⟩⟩):=by
 have hl:=hp.vs.1;have z3:∀ i:Int,Z3b.get ⟨0,0,0⟩ i=0:=fun i=>by
  simp only [Z3b.get]
  split <;> (try split) <;> rfl
 have z33:∀ i:Int,Z33.get ⟨⟨0,0,0⟩,⟨0,0,0⟩,⟨0,0,0⟩⟩ i=⟨0,0,0⟩:=fun i=>by
  simp only [Z33.get]
  split <;> (try split) <;> rfl
 have zr:∀ n i:Nat,(List.replicate n (default:Int)).getD i default=0:=fun n i=>by
  rw [gdq,List.getElem?_replicate]
  split <;> rfl
 unfold fG;refine .gdD (by omega) (.gdI (by omega) (.gdD (by omega) (.gdD (by decide) (.gdD (by decide) (.pure ⟨rfl,by simp,fun i hi=>?_,fun i hi=>?_,by simp;omega,fun t g ht hg=>?_,fun v hv=>?_,by simp,fun l hl=>?_,fun v hv=>?_,by simp⟩)))))
 ·simp only [zr,z3]
 ·simp only [zr];omega
 ·simp only [zr,z33,z3]
 ·rw [List.eq_of_mem_replicate hv];decide
 ·simp only [zr,z3]
 ·rw [List.eq_of_mem_replicate hv];decide
def Good (p:List (List LD)) (s:LI) (n:Nat):Prop:=∀ j,j<n->(0<=s.getD j default/\s.getD j default<(p.length:Int))/\(s.take j).count (s.getD j default)<(p.getD (s.getD j default).toNat default).length
theorem pJ {s:LI} {i:Nat} (h:i<s.length) (v:Int):(s.take (i+1)).count v=(s.take i).count v+if s.getD i default=v then 1 else 0:=by
 have e:s.getD i default=s[i]:=by rw [gdq,geq h];rfl
 rw [<- List.take_append_getElem h,List.count_append,List.count_singleton,e];simp only [beq_iff_eq]
theorem GQ (hp:PV p) {s:LI} {i:Nat} (hs:s.length<=1048576) (hi:i<s.length) (h:Rel p u z) :
  (¬ ((0<=s.getD i default/\s.getD i default<(p.length:Int))/\z.at_.getD (s.getD i default).toNat default<((p.getD (s.getD i default).toNat default).length:Int))->ak s ((i:Int),⟨u⟩)=some (.inr (.inr (none,false)))/\aN p s (z.at_,z.regs,z.mem,z.buf,(i:Int))=some (.inr (.inr ([],false)))) /\
  (((0<=s.getD i default/\s.getD i default<(p.length:Int))/\z.at_.getD (s.getD i default).toNat default<((p.getD (s.getD i default).toNat default).length:Int))->∃ u' z',ak s ((i:Int),⟨u⟩)=some (.inl (((i+1:Nat):Int),⟨u'⟩))/\aN p s (z.at_,z.regs,z.mem,z.buf,(i:Int))=some (.inl (z'.at_,z'.regs,z'.mem,z'.buf,((i+1:Nat):Int)))/\Rel p u' z'/\z'.at_=z.at_.set (s.getD i default).toNat (z.at_.getD (s.getD i default).toNat default+1)/\z'=Dl z (s.getD i default) ((p.getD (s.getD i default).toNat default).getD (z.at_.getD (s.getD i default).toNat default).toNat default)):=by
 have hl:=hp.vs.1;have hc:(i:Int)<(s.length:Int):=by omega
 generalize hm:s.getD i default=m;have hcond:LN (bif decide (m<(0:Int)) then some true
   else bif decide ((p.length:Int)<=m) then some true
   else gd (decide (0<=m/\m<(z.at_.length:Int)))<|gd (decide (0<=m/\m<(p.length:Int))) <|
    some ((z.at_.getD m.toNat default)==((p.getD m.toNat default).length:Int))) (· = !decide ((0<=m/\m<(p.length:Int))/\z.at_.getD m.toNat default<((p.getD m.toNat default).length:Int))):=by
  refine .bifD (fun h1 => .pure (by rw [decide_eq_false (by omega)];rfl)) fun h1 => .bifD (fun h2 => .pure (by rw [decide_eq_false (by omega)];rfl)) fun h2 => .gdD ⟨by omega,by rw [h.al];omega⟩ (.gdD ⟨by omega,by omega⟩ (.pure ?_));have := h.al1 m.toNat (by omega)
  by_cases e:z.at_.getD m.toNat default=((p.getD m.toNat default).length:Int)
  ·rw [decide_eq_false (by omega),e];simp
  ·rw [decide_eq_true (by omega)];simpa using e
 have hmv:=EZ hp h
 constructor
 ·intro hbad;have hb:=decide_eq_false hbad
  constructor
  ·refine LN.eq ?_;unfold ak;simp only [tnn,hm];refine .bifD (fun _ => .gdD ⟨by omega,hc⟩ (hmv.bind fun l ⟨hll,hl'⟩ => ?_)) fun hn=>absurd hc hn;refine (tO l m (by omega)).bind fun b hb' => ?_;subst hb';refine .bif (fun _ => .pure rfl) fun hn=>?_;have := (hl' m).1 (by simpa using hn);exact absurd this hbad
  ·refine LN.eq ?_;unfold aN;simp only [tnn,hm];refine .bifD (fun _=>?_) fun hn=>absurd hc hn;refine LN.sumR (.gdD ⟨by omega,hc⟩ (.sumR (hcond.bind fun b hb' => ?_)));rw [hb] at hb';subst hb';exact .pure rfl
 ·intro hok;have hb:=decide_eq_true hok;have hx:=hp.ins m.toNat (z.at_.getD m.toNat default).toNat (by omega) (by have := h.al1 m.toNat (by omega);omega);refine ⟨_,_,?_,?_,h.after hp hok.1 hok.2 hx,rfl,rfl⟩
  ·refine LN.eq ?_;unfold ak;simp only [tnn,hm];refine .bifD (fun _ => .gdD ⟨by omega,hc⟩ (hmv.bind fun l ⟨hll,hl'⟩ => ?_)) fun hn=>absurd hc hn;refine (tO l m (by omega)).bind fun b hb' => ?_;subst hb';refine .bif (fun hn=>?_) fun _=>(E0 hp h hok.1 hok.2).bind fun v hv => .gdI (by omega) (.pure (by rw [hv];rfl));have := (hl' m).2 hok;simp [this] at hn
  ·refine LN.eq ?_;unfold aN;simp only [tnn,hm];refine .bifD (fun _=>?_) fun hn=>absurd hc hn;refine LN.sumL (s:=((Dl z m ((p.getD m.toNat default).getD (z.at_.getD m.toNat default).toNat default)).at_,(Dl z m ((p.getD m.toNat default).getD (z.at_.getD m.toNat default).toNat default)).regs,(Dl z m ((p.getD m.toNat default).getD (z.at_.getD m.toNat default).toNat default)).mem,(Dl z m ((p.getD m.toNat default).getD (z.at_.getD m.toNat default).toNat default)).buf)) (.gdD ⟨by omega,hc⟩ (.sumL (s:=()) (hcond.bind fun b hb' => ?_) ((JZ hp h hok.1 hok.2).bind fun v hv=>by subst hv;exact .pure rfl))) (.gdI (by omega) (.pure rfl));rw [hb] at hb';subst hb';exact .pure rfl
end
section
variable {p:List (List LD)} {u:LH} {z:LM}
def zR (p:List (List LD)) (s:LI) (z0:LM):Nat->LM
 | 0=>z0
 | i+1=>Dl (zR p s z0 i) (s.getD i default) ((p.getD (s.getD i default).toNat default).getD ((zR p s z0 i).at_.getD (s.getD i default).toNat default).toNat default)
theorem Ll (hp:PV p) {s:LI} (z0:LM) (hs:s.length<=1048576):∀ (n i:Nat) (u:LH) (z:LM),i+n=s.length->z=zR p s z0 i->Rel p u z->(∀ t:Nat,t<p.length->z.at_.getD t default=((s.take i).count (t:Int):Int))->Good p s i ->
  (loopO (ak s) ((i:Int),⟨u⟩)=some (.inr (none,false))/\loopO (aN p s) (z.at_,z.regs,z.mem,z.buf,(i:Int))=some (.inr ([],false)) /\ ¬ Good p s s.length) \/
  (∃ u' z',loopO (ak s) ((i:Int),⟨u⟩)=some (.inl ⟨u'⟩)/\loopO (aN p s) (z.at_,z.regs,z.mem,z.buf,(i:Int))=some (.inl (z'.at_,z'.regs,z'.mem,z'.buf))/\Rel p u' z'/\Good p s s.length/\(∀ t:Nat,t<p.length->z'.at_.getD t default=(s.count (t:Int):Int))/\z'=zR p s z0 s.length):=by
 intro n
 induction n with
 | zero=>
  intro i u z hi hz h hc hg;have e:i=s.length:=by omega
  subst e;refine .inr ⟨u,z,?_,?_,h,hg,by simpa using hc,hz⟩
  ·rw [eO];unfold ak;simp only [decide_eq_false (Int.lt_irrefl (s.length:Int))]
   rfl
  ·rw [eO];unfold aN;simp only [decide_eq_false (Int.lt_irrefl (s.length:Int))]
   rfl
 | succ n ih=>
  intro i u z hi hz h hc hg;have hi':i<s.length:=by omega
  obtain ⟨h1,h2⟩:=GQ hp hs hi' h
  by_cases hok:(0<=s.getD i default/\s.getD i default<(p.length:Int))/\z.at_.getD (s.getD i default).toNat default<((p.getD (s.getD i default).toNat default).length:Int)
  ·obtain ⟨u',z',e1,e2,h',ha,hza⟩:=h2 hok;have hn:(s.getD i default).toNat<p.length:=by omega
   have key:=hc _ hn;have em:(((s.getD i default).toNat:Nat):Int)=s.getD i default:=Int.toNat_of_nonneg hok.1.1;rw [em] at key;have := ih (i+1) u' z' (by omega) (by rw [hza,hz];rfl) h' (fun t ht=>?_) (fun j hj=>?_)
   ·rcases this with ⟨g1,g2,g5⟩ | ⟨u2,z2,g1,g2,g3,g4,g5⟩
    ·exact .inl ⟨by rw [eO,e1];exact g1,by rw [eO,e2];exact g2,g5⟩
    ·exact .inr ⟨u2,z2,by rw [eO,e1];exact g1,by rw [eO,e2];exact g2,g3,g4,g5⟩
   ·rw [ha,bQ (by rw [h.al];exact hn),pJ hi',key]
    by_cases e:t=(s.getD i default).toNat
    ·have e':s.getD i default=(t:Int):=by omega
     rw [if_pos e,if_pos e',e'];omega
    ·have e' : ¬ s.getD i default=(t:Int):=by omega
     rw [if_neg e,if_neg e',hc t ht]
     rfl
   ·by_cases e:j=i
    ·subst e;exact ⟨hok.1,by rw [key] at hok;omega⟩
    ·exact hg j (by omega)
  ·obtain ⟨e1,e2⟩:=h1 hok;refine .inl ⟨by rw [eO,e1];rfl,by rw [eO,e2];rfl,fun hG=>hok ?_⟩;obtain ⟨q1,q2⟩:=hG i hi';refine ⟨q1,?_⟩;have em:(((s.getD i default).toNat:Nat):Int)=s.getD i default:=Int.toNat_of_nonneg q1.1;have key:=hc (s.getD i default).toNat (by omega);rw [em] at key;rw [key];omega
def Open (p:List (List LD)) (z:LM):Prop:=∃ t:Nat,t<p.length/\z.at_.getD t default<((p.getD t default).length:Int)
theorem E8 (hp:PV p) (h:Rel p u z):LN (kK p z) fun d=>d=true ↔ ¬ Open p z:=by
 have hl:=hp.vs.1;unfold kK;refine LN.sum (PS:=fun _ => ¬ Open p z) (PW:=fun d:Bool=>d=true ↔ ¬ Open p z) ?_ fun _ hn => .pure ⟨fun _=>hn,fun _=>rfl⟩;refine LN.loop (fun i=>0<=i/\i<=(p.length:Int)/\∀ t:Nat,(t:Int)<i -> ¬ z.at_.getD t default<((p.getD t default).length:Int)) (fun i=>((p.length:Int)-i).toNat) ⟨Int.le_refl _,by omega,fun t ht=>absurd ht (by omega)⟩ fun i ⟨h1,h2,h3⟩ => ?_;unfold nN;refine .bifD (fun h0 => .gdD ⟨h1,by rw [h.al];exact h0⟩ (.gdD ⟨h1,h0⟩ ?_)) fun hge => .pure ?_
 ·refine .bifD (fun he => .pure ⟨nofun,fun hn=>absurd ⟨i.toNat,by omega,he⟩ hn⟩) fun he => .gdI (by omega) (.pure ⟨⟨by omega,by omega,fun t ht=>?_⟩,by omega⟩)
  by_cases e:t=i.toNat
  ·subst e;exact he
  ·exact h3 t (by omega)
 ·rintro ⟨t,ht,hlt⟩;exact h3 t (by omega) hlt
theorem E9 (hp:PV p) (h:Rel p u z):LN (bw ⟨u⟩) fun d=>d=true ↔ ¬ Open p z:=by
 have hl:=hp.vs.1;unfold bw dD;refine LN.bind (P:=fun d:Bool=>d=true ↔ ¬ Open p z) ?_ fun v hv => .pure hv;refine LN.sum (PS:=fun _ => ¬ Open p z) (PW:=fun d:Bool=>d=true ↔ ¬ Open p z) ?_ fun _ hn => .pure ⟨fun _=>hn,fun _=>rfl⟩;refine LN.loop (fun i=>0<=i/\i<=(p.length:Int)/\∀ t:Nat,(t:Int)<i -> ¬ z.at_.getD t default<((p.getD t default).length:Int)) (fun i=>((p.length:Int)-i).toNat) ⟨Int.le_refl _,by omega,fun t ht=>absurd ht (by omega)⟩ fun i ⟨h1,h2,h3⟩ => ?_;unfold dX;simp only [h.up];refine .bifD (fun h0=>(yD hp h ⟨h1,h0⟩).bind fun v ⟨e1,_⟩ => ?_) fun hge => .pure ?_
 ·refine .bif (fun hb => .pure ⟨nofun,fun hn=>absurd ⟨i.toNat,by omega,of_decide_eq_true (e1.symm.trans hb)⟩ hn⟩) fun hb => .gdI (by omega) (.pure ⟨⟨by omega,by omega,fun t ht=>?_⟩,by omega⟩)
  ·by_cases e:t=i.toNat
   ·subst e;rw [hb] at e1;exact of_decide_eq_false e1.symm
   ·exact h3 t (by omega)
 ·rintro ⟨t,ht,hlt⟩;exact h3 t (by omega) hlt
theorem IV (hp:p.length<=3) (h:Rel p u z) {n:Nat} (hn:n<p.length) (base:LI) (hb:base.length<=1000) {step:(List Int×Int)->Option ((List Int×Int) ⊕ LI)} (hs:∀ s:List Int×Int,step s=bif decide (s.2<(3:Int)) then
  gd (decide (0<=s.2/\s.2<3))<|gd (LB .i64 (Z3b.get (Z33.get u.reg (n:Int)) s.2))<|gd (aS (s.1.length+1) 8)<|gd (LB .i64 (s.2+(1:Int))) <|
  some (.inl ((s.1++[(Z3b.get (Z33.get u.reg (n:Int)) s.2)]),(s.2+(1:Int)))) else some (.inr s.1)):LN (loopO step (base,(0:Int))) (· = base++(z.regs.drop (3*n)).take 3):=by
 refine LN.loop (fun s=>∃ k:Nat,k<=3/\s=(base++(z.regs.drop (3*n)).take k,(k:Int))) (fun s=>(3-s.2).toNat) ⟨0,by omega,by simp⟩ fun s ⟨k,h1,h2⟩ => ?_;subst h2;rw [hs];refine .bifD (fun hk=>?_) fun hk => .pure ?_
 ·simp only [] at hk;have hv:=h.regv hn (g:=k) (by omega);have hr:=h.r n k hn (by omega);refine .gdD ⟨by simp only [];omega,hk⟩ (.gdI (by simp only [];omega) (.gd (au ?_ rfl) (.gdI (by simp only [];omega) (.pure ⟨⟨k+1,by omega,?_⟩,by simp only [];omega⟩))))
  ·simp only [lla,List.length_take,List.length_drop];omega
  ·simp only [];rw [<- hr,List.append_assoc];have hkl:3*n+k<z.regs.length:=by rw [h.rl];omega
   have hd:(z.regs.drop (3*n)).take (k+1)=(z.regs.drop (3*n)).take k++[z.regs.getD (3*n+k) default]:=by
    rw [<- List.take_append_getElem (by rw [List.length_drop];omega),List.getElem_drop,gdq,geq hkl]
    rfl
   rw [hd]
   rfl
 ·simp only [] at hk;have : k=3:=by omega
  subst this
  rfl
theorem tP (hp:PV p) (h:Rel p u z):LN (aL u) (· = z.regs++z.mem):=by
 have hl:=hp.vs.1;unfold aL;refine LN.bind (P:=(· = z.regs)) ?_ fun v hv=>?_
 ·refine LN.loop (fun s=>∃ n:Nat,n<=p.length/\s=(z.regs.take (3*n),(n:Int))) (fun s=>((p.length:Int)-s.2).toNat) ⟨0,by omega,by simp⟩ fun s ⟨n,h1,h2⟩ => ?_;subst h2;unfold bY;simp only [h.up];refine .bifD (fun hk=>?_) fun hk => .pure ?_
  ·refine LN.bind (P:=(· = z.regs.take (3*n)++(z.regs.drop (3*n)).take 3)) (.gdD ⟨by omega,by omega⟩ (IV hl h (n:=n) (by omega) _ (by rw [List.length_take];omega) fun s=>by unfold bR;rfl)) fun v hv => .gdI (by omega) (.pure ⟨⟨n+1,by omega,?_⟩,by simp only [];omega⟩);subst hv;rw [show 3*(n+1)=3*n+3 by omega,List.take_add]
   rfl
  ·have : n=p.length:=by omega
   subst this;exact List.take_of_length_le (by rw [h.rl];exact Nat.le_refl _)
 ·subst hv;refine LN.bind (P:=(· = z.regs++z.mem)) ?_ fun v hv => .pure hv;refine LN.loop (fun s=>∃ k:Nat,k<=3/\s=(z.regs++z.mem.take k,(k:Int))) (fun s=>(3-s.2).toNat) ⟨0,by omega,by simp⟩ fun s ⟨k,h1,h2⟩ => ?_;subst h2;unfold bS;have hrl:=h.rl;have hml:=h.ml;refine .bifD (fun hk=>?_) fun hk => .pure ?_
  ·simp only [] at hk;have hv:=h.memv (l:=k) (by omega);have hm:=h.m k (by omega);refine .gdD ⟨by simp only [];omega,hk⟩ (.gdI (by simp only [];omega) (.gd (au (by simp only [lla,List.length_take];omega) rfl) (.gdI (by simp only [];omega) (.pure ⟨⟨k+1,by omega,?_⟩,by simp only [];omega⟩))));simp only [];rw [<- hm,List.append_assoc];have hd:z.mem.take (k+1)=z.mem.take k++[z.mem.getD k default]:=by
    rw [<- List.take_append_getElem (by omega),gdq,geq (by omega)]
    rfl
   rw [hd]
   rfl
  ·simp only [] at hk;have : k=3:=by omega
   subst this;simp only [];rw [List.take_of_length_le (by omega)]
theorem zL (hp:PV p) (h:Rel p u z):LN (iw z) (· = z.regs++z.mem):=by
 have hl:=hp.vs.1;have hrl:=h.rl;have hml:=h.ml;unfold iw;exact .gd (au (by simp;omega) rfl) (.gd (au (by simp;omega) rfl) (.pure rfl))
def u0 (p:List (List LD)):LH:=⟨p,⟨0,0,0⟩,⟨⟨0,0,0⟩,⟨0,0,0⟩,⟨0,0,0⟩⟩,⟨0,0,0⟩⟩
theorem J0 {s:LI} (hI:aB p=some true) (g1:loopO (ak s) ((0:Int),⟨u0 p⟩)=some (.inr (none,false))):LN (aQ p s) (· = ([],false)):=by
 unfold aQ;refine (LN.of (P:=(· = true)) hI rfl).bind fun v hv => .bif (fun h=>by subst hv;simp at h) fun _=>?_;refine LN.bind (P:=(· = ⟨u0 p⟩)) (.pure rfl) fun v3 h3=>?_;subst h3;refine LN.bind (P:=(· = ([],false))) ?_ fun v hv => .pure (by rw [hv]);unfold bU;refine LN.bind (P:=(· = (none,false))) (by unfold cz;exact .sumR (.of g1 rfl)) fun v hv=>?_;subst hv;exact LN.bind (P:=(· = true)) (.bif (fun _ => .pure rfl) fun h=>by simp at h) fun b hb => .bif (fun _ => .pure rfl) fun h=>by subst hb;cases h
theorem IW {s:LI} {u':LH} {d:Bool} {o:LI} (hI:aB p=some true) (g1:loopO (ak s) ((0:Int),⟨u0 p⟩)=some (.inl ⟨u'⟩)) (hd:bw ⟨u'⟩=some d) (ho:aL u'=some o) :
  LN (aQ p s) (· = bif d then (o,true) else ([],false)):=by
 unfold aQ;refine (LN.of (P:=(· = true)) hI rfl).bind fun v hv => .bif (fun h=>by subst hv;simp at h) fun _=>?_;refine LN.bind (P:=(· = ⟨u0 p⟩)) (.pure rfl) fun v3 h3=>?_;subst h3;refine LN.bind (P:=(· = bif d then (o,true) else ([],false))) ?_ fun v hv => .pure (by rw [hv]);unfold bU;refine LN.bind (P:=(· = (some ⟨u'⟩,true))) (by unfold cz;exact .sumL (.of g1 rfl) (.pure rfl)) fun v hv=>?_;subst hv;refine LN.bind (P:=(· = !d)) (.bif (fun h=>by simp at h) fun _ => .gd rfl ((LN.of (P:=(· = d)) hd rfl).bind fun v hv => .pure (by rw [hv]))) fun b hb=>?_;subst hb
 cases d with
 | true=>exact .gd rfl ((LN.of (P:=(· = o)) ho rfl).bind fun v hv => .pure (by rw [hv];rfl))
 | false=>exact .pure rfl
theorem J1 {s:LI} {z0:LM} (hI:aC p=some true) (h0:fG p 0=some z0) (g1:loopO (aN p s) (z0.at_,z0.regs,z0.mem,z0.buf,(0:Int))=some (.inr ([],false))):LN (cf p s) (· = ([],false)):=by
 unfold cf;refine (LN.of (P:=(· = true)) hI rfl).bind fun v hv => .bif (fun h=>by subst hv;simp at h) fun _=>?_;refine (LN.of (P:=(· = z0)) h0 rfl).bind fun v3 h3=>?_;subst h3;exact .sumR (.of g1 rfl)
theorem IX {s:LI} {z0 z':LM} {d:Bool} {o:LI} (hI:aC p=some true) (h0:fG p 0=some z0) (g1:loopO (aN p s) (z0.at_,z0.regs,z0.mem,z0.buf,(0:Int))=some (.inl (z'.at_,z'.regs,z'.mem,z'.buf))) (hd:kK p z'=some d) (ho:iw z'=some o) :
  LN (cf p s) (· = bif d then (o,true) else ([],false)):=by
 unfold cf;refine (LN.of (P:=(· = true)) hI rfl).bind fun v hv => .bif (fun h=>by subst hv;simp at h) fun _=>?_;refine (LN.of (P:=(· = z0)) h0 rfl).bind fun v3 h3=>?_;subst h3;refine .sumL (.of g1 rfl) ((LN.of (P:=(· = d)) hd rfl).bind fun b hb=>?_);subst hb
 cases b with
 | true=>exact (LN.of (P:=(· = o)) ho rfl).bind fun v hv => .pure (by rw [hv];rfl)
 | false=>exact .pure rfl
def Whole (p:List (List LD)) (s:LI):Prop:=bq (p.map fun r=>r.map iV)=true/\Good p s s.length/\∀ t:Nat,t<p.length->s.count (t:Int)=(p.getD t default).length
theorem yE (p:List (List LD)) {s:LI} (hsz:p.length<=1048576/\total p<=1048576) (hs:s.length<=1048576) :
  ∃ o b,aQ p s=some (o,b)/\cf p s=some (o,b)/\(b=true↔Whole p s)/\(b=true->∃ z0,fG p 0=some z0/\Rel p (u0 p) z0/\o=(zR p s z0 s.length).regs++(zR p s z0 s.length).mem):=by
 have hI:aB p=some (bq (p.map fun r=>r.map iV)):=iS (decide_eq_true hsz);have hS:aC p=some (bq (p.map fun r=>r.map iV)):=iS (decide_eq_true hsz)
 cases hv:bq (p.map fun r=>r.map iV) with
 | false=>
  unfold aQ cf;rw [hI,hS,hv];exact ⟨[],false,rfl,rfl,⟨nofun,fun h=>by have := h.1;rw [hv] at this;cases this⟩,nofun⟩
 | true=>
  rw [hv] at hI hS;have hp:=PV.of hv;obtain ⟨z0,e0,h0⟩:=E5 hp;have hr:=Ll hp z0 hs s.length 0 _ z0 (by omega) rfl h0 (fun t ht=>by
   rw [h0.a t ht];simp only [Z3b.get,List.take_zero,List.count_nil]
   split <;> (try split) <;> rfl) (fun j hj=>absurd hj (by omega))
  rcases hr with ⟨g1,g2,g5⟩ | ⟨u',z',g1,g2,g3,g4,g5,g6⟩
  ·exact ⟨[],false,(J0 hI g1).eq,(J1 hS e0 g2).eq,⟨nofun,fun h=>absurd h.2.1 g5⟩,nofun⟩
  ·obtain ⟨d,d1,d2⟩:=E8 hp g3;obtain ⟨d',d1',d2'⟩:=E9 hp g3;have ed:d'=d:=Bool.eq_iff_iff.2 (d2'.trans d2.symm);subst ed;have k1:=(IW hI g1 d1' (tP hp g3).eq).eq;have k2:=(IX hS e0 g2 d1 (zL hp g3).eq).eq;have hw:d'=true↔Whole p s:=by
    rw [d2];refine ⟨fun h=>⟨hv,g4,fun t ht=>?_⟩,fun h ⟨t,ht,hlt⟩ => ?_⟩
    ·have h1:=(g3.al1 t ht).2;have h2:=g5 t ht;have h3 : ¬ z'.at_.getD t default<((p.getD t default).length:Int):=fun hlt=>h ⟨t,ht,hlt⟩;omega
    ·have h2:=g5 t ht;have h3:=h.2.2 t ht;omega
   cases d' with
   | true=>exact ⟨_,true,k1,k2,hw,fun _=>⟨z0,e0,h0,by rw [g6]⟩⟩
   | false=>exact ⟨[],false,k1,k2,hw,nofun⟩
end
section
variable {α β W:Type} [Inhabited α]
end
instance:DecidableEq LD:=fun a b=>decidable_of_iff (a.Op=b.Op/\a.Loc=b.Loc/\a.Reg=b.Reg/\a.Val=b.Val) ⟨fun ⟨h1,h2,h3,h4⟩=>by cases a;cases b;simp only at h1 h2 h3 h4;subst h1 h2 h3 h4;rfl,fun h=>by subst h;exact ⟨rfl,rfl,rfl,rfl⟩⟩
section
variable {p:List (List LD)}
def base (p:List (List LD)) (t k:Nat):Nat:=(evP p t).length+(evR t (p.getD t default) k).length
def num (p:List (List LD)) (t k:Nat):Int:=if ((p.getD t default).getD k default).Op=4 then -1 else (base p t k:Int)
theorem IY (t:Nat) (row:List LD):∀ {n m:Nat},n<=m->evR t row n <+: evR t row m:=by
 intro n m h
 induction h with
 | refl=>exact List.prefix_refl _
 | step _ ih=>exact ih.trans (List.prefix_append _ _)
theorem vG (p:List (List LD)):∀ {n m:Nat},n<=m->evP p n <+: evP p m:=by
 intro n m h
 induction h with
 | refl=>exact List.prefix_refl _
 | step _ ih=>exact ih.trans (List.prefix_append _ _)
theorem Cq {l m:List LG} (h:l <+: m) {i:Nat} (hi:i<l.length):m.getD i default=l.getD i default/\i<m.length:=by
 obtain ⟨r,rfl⟩:=h;refine ⟨?_,by rw [lla];omega⟩;rw [gdq,gdq,gal hi]
theorem H7 {t k:Nat} (ht:t<p.length) (hk:k<(p.getD t default).length) (ho : ¬ ((p.getD t default).getD k default).Op=4) :
  (evs p).getD (base p t k) default=⟨t,k,((p.getD t default).getD k default).Loc,rdX ((p.getD t default).getD k default),wrX ((p.getD t default).getD k default)⟩/\base p t k<(evs p).length:=by
 have h1:evP p t++(evR t (p.getD t default) k++[⟨t,k,((p.getD t default).getD k default).Loc,rdX ((p.getD t default).getD k default),wrX ((p.getD t default).getD k default)⟩]) <+: evs p:=by
  refine List.IsPrefix.trans ?_ (vG p (show t+1<=p.length by omega));refine (List.prefix_append_right_inj _).2 ?_;refine List.IsPrefix.trans ?_ (IY t (p.getD t default) (show k+1<=(p.getD t default).length by omega));show _ <+: evR t (p.getD t default) k++evI t k ((p.getD t default).getD k default);unfold evI;rw [if_neg ho];exact List.prefix_refl _
 obtain ⟨e1,e2⟩:=Cq h1 (i:=base p t k) (by simp only [base,lla,List.length_singleton];omega);refine ⟨e1.trans ?_,e2⟩;rw [gdq,base,gar (by omega),Nat.add_sub_cancel_left,gar (by omega),Nat.sub_self]
 rfl
def sK (p:List (List LD)) (t k:Nat):LI:=if ((p.getD t default).getD k default).Op=4 then [] else [(base p t k:Int)]
def LO (s:LI) (j:Nat):Nat:=(s.getD j default).toNat
def LP (s:LI) (j:Nat):Nat:=(s.take j).count (s.getD j default)
def iI (p:List (List LD)) (s:LI):Nat->LI
 | 0=>[]
 | n+1=>iI p s n++sK p (LO s n) (LP s n)
theorem jO {p:List (List LD)} (h:Vs p):(evs p).length<=24:=by
 have h1:=yC h p.length;have h2:=h.1;unfold evs;omega
end
section
variable {p:List (List LD)}
theorem yF (l:LL) (i:Nat):l.getD i default=l.getD i []:=rfl
theorem qZ {l:LL} {i j:Nat} {v:LI} (hi:i<l.length):(l.set i v).getD j []=if j=i then v else l.getD j []:=by
 rw [gdq,List.getElem?_set]
 by_cases e:i=j
 ·subst e;rw [if_pos rfl,if_pos hi,if_pos rfl]
  rfl
 ·rw [if_neg e,if_neg (Ne.symm e),gdq]
def yG (p:List (List LD)) (t k:Nat):LI:=(List.range k).map (num p t)
theorem Fa (t k:Nat):yG p t (k+1)=yG p t k++[num p t k]:=by
 unfold yG;rw [List.range_succ,List.map_append]
 rfl
theorem vH (hp:PV p):LN (jR p) fun l=>l.length=p.length/\∀ t:Nat,t<p.length->l.getD t []=yG p t (p.getD t default).length:=by
 have hl:=hp.vs.1;unfold jR;refine .gdD (by omega) ?_;refine LN.bind (P:=fun l=>l.length=p.length/\∀ t:Nat,t<p.length->l.getD t []=yG p t (p.getD t default).length) ?_ fun v hv => .pure hv;refine LN.loop (fun z=>∃ n:Nat,n<=p.length/\z.2.1=(n:Int)/\z.2.2=((evP p n).length:Int)/\z.1.length=p.length/\∀ t:Nat,t<p.length->z.1.getD t []=if t<n then yG p t (p.getD t default).length else []) (fun z=>((p.length:Int)-z.2.1).toNat) ⟨0,by omega,rfl,rfl,by simp,fun t ht=>?_⟩ fun z ⟨n,h1,h2,h3,h4,h5⟩ => ?_
 ·simp only [];rw [if_neg (by omega),gdq,List.getElem?_replicate]
  split <;> rfl
 ·obtain ⟨l,i,c⟩:=z;simp only at h2 h3 h4 h5;subst h2 h3;unfold ja;refine .bifD (fun hk=>?_) fun hk => .pure ?_
  ·simp only [] at hk;have hn:n<p.length:=by omega
   have hrow:=hp.vs.2 n;have hlen:=yC hp.vs n;refine LN.bind (P:=fun y=>y.2=((evP p (n+1)).length:Int)/\y.1.length=p.length/\∀ t:Nat,t<p.length->y.1.getD t []=if t<n+1 then yG p t (p.getD t default).length else []) (.gdD ⟨by simp only [];omega,hk⟩ ?_) fun v ⟨v1,v2,v3⟩ => .gdI (by simp only [];omega) (.pure ⟨⟨n+1,by omega,rfl,v1,v2,v3⟩,by simp only [];omega⟩);refine LN.loop (fun y=>∃ k:Nat,k<=(p.getD n default).length/\y.2.1=(k:Int)/\y.2.2=(base p n k:Int)/\y.1.length=p.length/\∀ t:Nat,t<p.length->y.1.getD t []=if t<n then yG p t (p.getD t default).length else if t=n then yG p t k else []) (fun y=>(((p.getD n default).length:Int)-y.2.1).toNat) ⟨0,by omega,rfl,by simp [base,evR],h4,fun t ht=>?_⟩ fun y ⟨k,k1,k2,k3,k4,k5⟩ => ?_
   ·rw [h5 t ht]
    by_cases e:t<n
    ·rw [if_pos e,if_pos e]
    ·rw [if_neg e,if_neg e]
     split <;> rfl
   ·obtain ⟨l',i',c'⟩:=y;simp only at k2 k3 k4 k5;subst k2 k3;unfold i9;simp only [tnn];refine .bifD (fun hkk=>?_) fun hkk => .pure ?_
    ·have hR:=yB n (p.getD n default) k;have hb:base p n k<=31:=by unfold base;omega
     have hrn:=k5 n hn;rw [if_neg (Nat.lt_irrefl n),if_pos rfl] at hrn;have hrl:(yG p n k).length=k:=by simp [yG]
     have hfin:∀ (v:Int),v=num p n k->∀ t:Nat,t<p.length->(l'.set n (yG p n k++[v])).getD t []=if t<n then yG p t (p.getD t default).length else if t=n then yG p t (k+1) else []:=fun v hv t ht=>by
      rw [qZ (by omega)]
      by_cases e:t=n
      ·subst e;rw [if_pos rfl,if_neg (Nat.lt_irrefl t),if_pos rfl,Fa,hv]
      ·rw [if_neg e,k5 t ht]
       by_cases e2:t<n
       ·rw [if_pos e2,if_pos e2]
       ·rw [if_neg e2,if_neg e2,if_neg e,if_neg e]
     refine LN.bind (P:=fun y=>y.2=(base p n (k+1):Int)/\y.1.length=p.length/\∀ t:Nat,t<p.length->y.1.getD t []=if t<n then yG p t (p.getD t default).length else if t=n then yG p t (k+1) else []) (.gdD ⟨by omega,hkk⟩ (.bif (fun ho=>?_) fun ho=>?_)) fun v ⟨v1,v2,v3⟩ => .gdI (by omega) (.pure ⟨⟨k+1,by omega,rfl,v1,v2,v3⟩,by simp only [];omega⟩)
     ·have ho:((p.getD n default).getD k default).Op=4:=by simpa using ho
      refine .gdD ⟨by omega,by omega⟩ (.gd (au (by rw [hrn,hrl];omega) rfl) (.pure ⟨?_,by simp only [List.length_set];exact k4,?_⟩))
      ·simp only [base,evR,evI,if_pos ho,List.append_nil]
      ·rw [hrn];exact hfin _ (by rw [num,if_pos ho])
     ·have ho : ¬ ((p.getD n default).getD k default).Op=4:=by simpa using ho
      refine .gdD ⟨by omega,by omega⟩ (.gd (au (by rw [hrn,hrl];omega) rfl) (.gdI (by omega) (.pure ⟨?_,by simp only [List.length_set];exact k4,?_⟩)))
      ·simp only [base,evR,evI,if_neg ho,lla,List.length_singleton];omega
      ·rw [hrn];exact hfin _ (by rw [num,if_neg ho])
    ·have : k=(p.getD n default).length:=by omega
     subst this;refine ⟨?_,k4,fun t ht=>?_⟩
     ·simp only [base,evP,lla]
     ·simp only [];rw [k5 t ht]
      by_cases e:t=n
      ·subst e;rw [if_neg (Nat.lt_irrefl t),if_pos rfl,if_pos (by omega)]
      ·by_cases e2:t<n
       ·rw [if_pos e2,if_pos (by omega)]
       ·rw [if_neg e2,if_neg e,if_neg (by omega)]
  ·simp only [] at hk;have : n=p.length:=by omega
   subst this;refine ⟨h4,fun t ht=>?_⟩;rw [h5 t ht,if_pos ht]
abbrev XS:=List Int×LL
def stX (p:List (List LD)) (st:XS) (n:Int):XS:=
  (if ((evs p).getD n.toNat default).Reads=true then st.1.set n.toNat ((st.2.getD ((evs p).getD n.toNat default).Loc.toNat []).getD (((st.2.getD ((evs p).getD n.toNat default).Loc.toNat []).length:Int)-1).toNat default) else st.1,
   st.2.set ((evs p).getD n.toNat default).Loc.toNat (if ((evs p).getD n.toNat default).Writes=true then st.2.getD ((evs p).getD n.toNat default).Loc.toNat []++[n] else st.2.getD ((evs p).getD n.toNat default).Loc.toNat []))
def x0 (p:List (List LD)):XS:=(List.replicate (evs p).length (-1),[[0],[1],[2]])
def rf (p:List (List LD)) (l:LI):XS:=l.foldl (stX p) (x0 p)
theorem vI (l:LI) (n:Int):rf p (l++[n])=stX p (rf p l) n:=by
 unfold rf;rw [List.foldl_append]
 rfl
def OkN (p:List (List LD)) (n:Int):Prop:=(0<=n/\n<((evs p).length:Int))/\0<=((evs p).getD n.toNat default).Loc/\((evs p).getD n.toNat default).Loc<=2
structure InX (p:List (List LD)) (m:Nat) (st:XS):Prop where
 f:st.1.length=(evs p).length
 o:st.2.length=3
 r:∀ i:Nat,i<3->1<=(st.2.getD i []).length/\(st.2.getD i []).length<=m+1
theorem InX.x0:InX p 0 (x0 p):=⟨by simp [YtlmjnhnpahicmaaGreat.x0],rfl,fun i hi=>by
 match i,hi with
 | 0,_=>exact ⟨Nat.le_refl 1,Nat.le_refl 1⟩
 | 1,_=>exact ⟨Nat.le_refl 1,Nat.le_refl 1⟩
 | 2,_=>exact ⟨Nat.le_refl 1,Nat.le_refl 1⟩⟩
theorem InX.step {m:Nat} {st:XS} {n:Int} (h:InX p m st) (hn:OkN p n):InX p (m+1) (stX p st n):=by
 obtain ⟨_,h2,h3⟩:=hn;unfold stX;refine ⟨?_,by simp only [List.length_set];exact h.o,fun i hi=>?_⟩
 ·simp only []
  split
  ·rw [List.length_set];exact h.f
  ·exact h.f
 ·simp only [];rw [qZ (by rw [h.o];omega)];have hr:=h.r ((evs p).getD n.toNat default).Loc.toNat (by omega);have hi':=h.r i hi
  split
  ·split
   ·simp only [lla,List.length_singleton];omega
   ·omega
  ·omega
theorem InX.runs:∀ {l:LI} {m:Nat} {st:XS},InX p m st->(∀ n∈l,OkN p n)->InX p (m+l.length) (l.foldl (stX p) st)
 | [],_,_,h,_=>h
 | n::l,m,st,h,k=>by
  have := InX.runs (h.step (k n (List.mem_cons_self))) fun x hx=>k x (List.mem_cons_of_mem _ hx);rw [List.length_cons,show m+(l.length+1)=m+1+l.length by omega];exact this
theorem InX.run {l:LI} (h:∀ n∈l,OkN p n):InX p l.length (rf p l):=by
 have := InX.runs InX.x0 h
 rwa [Nat.zero_add] at this
theorem step_ok (hp:PV p) {t k:Nat} (ht:t<p.length) (hk:k<(p.getD t default).length):∀ n∈sK p t k,OkN p n:=by
 intro n hn;unfold sK at hn
 split at hn
 ·simp at hn
 ·rename_i ho;rw [List.mem_singleton] at hn;subst hn;obtain ⟨e1,e2⟩:=H7 ht hk ho;have hx:=hp.ins t k ht hk;refine ⟨by omega,?_⟩;rw [tnn,e1];exact ⟨hx.1,hx.2.1⟩
theorem Be {s:LI} (hg:Good p s s.length) {j:Nat} (hj:j<s.length):LO s j<p.length/\((LO s j:Nat):Int)=s.getD j default/\LP s j<(p.getD (LO s j) default).length:=by
 obtain ⟨g1,g2⟩:=hg j hj;unfold LO LP;exact ⟨by omega,by omega,g2⟩
theorem Cr (hp:PV p) {s:LI} (hg:Good p s s.length):∀ {n:Nat},n<=s.length->∀ m∈iI p s n,OkN p m:=by
 intro n
 induction n with
 | zero=>intro _ m hm;simp [iI] at hm
 | succ n ih=>
  intro hn m hm;simp only [iI,List.mem_append] at hm;rcases hm with hm | hm
  ·exact ih (by omega) m hm
  ·obtain ⟨h1,_,h3⟩:=Be hg (j:=n) (by omega);exact step_ok hp h1 h3 m hm
theorem Fb (a:Z3i) (q i v:Int) (hq:0<=q/\q<=2) (hi:0<=i/\i<=2):Z3i.get (Z3i.set a q v) i=if i=q then v else Z3i.get a i:=by
 obtain ⟨x,y,z⟩:=a;have h1:q=0\/q=1\/q=2:=by omega
 have h2:i=0\/i=1\/i=2:=by omega
 rcases h1 with rfl | rfl | rfl <;> rcases h2 with rfl | rfl | rfl <;> rfl
end
def same (a b:LF):Bool:=decide (a.From=b.From)&&decide (a.Order=b.Order)
end
end Go.Proofs.YtlmjnhnpahicmaaGreat
