/-
 Contracts and words, several texts joined. No conditions.
-/
import Derived.Test.YtlgfihlflchhgaaGH
import Derived.Test.YtlgfihlflchhgaaHo
import Derived.Test.YtlgfihlflchhgaaSMd
import Derived.Test.YtlgfihlflchhgaaBrVd
import Derived.Test.YtlgfihlflchhgaaDq
import Derived.Test.YtlgfihlflchhgaaPs
import Derived.Test.YtlgfihlflchhgaaS34d
namespace Go.Proofs.Ytlgfihlflchhgaa
open Go.RowKit
set_option maxRecDepth 100000
structure Mac (σ:Type) where
 mv:σ->List Int
 af:σ->Int->σ
 ky:σ->ByteArray
 dn:σ->Bool
 oc:σ->List Int
section
variable {σ:Type} (M:Mac σ)
inductive Rea (s0:σ):σ->Prop
 | base:Rea s0 s0
 | step {s:σ} {m:Int} (h:Rea s0 s) (hm:m∈M.mv s):Rea s0 (M.af s m)
def Outs (s0:σ) (o:List Int):Prop:=∃ s,Rea M s0 s/\M.dn s=true/\M.oc s=o
structure Mok (s0:σ) (N:Nat):Prop where
 key:∀ s t,Rea M s0 s->Rea M s0 t->M.ky s=M.ky t->s=t
 cnt:∀ V:List σ,V.Nodup->(∀ v∈V,Rea M s0 v)->V.length<=N
variable {M} {s0:σ} {N:Nat}
def kys (M:Mac σ) (V:List σ):List (ByteArray×Bool):=V.map fun v=>(M.ky v,true)
theorem midx_kys (V:List σ) (k:ByteArray):(∃ j,midx (kys M V) k=some j)↔∃ v∈V,M.ky v=k:=by
 unfold midx kys
 rw [List.map_map]
 cases h:List.findIdx? (fun x=>decide (x=k)) (V.map ((fun x:ByteArray×Bool=>x.1) ∘ fun v=>(M.ky v,true))) with
 | none=>
  rw [List.findIdx?_eq_none_iff] at h
  refine ⟨fun ⟨j,hj⟩=>(by cases hj),fun ⟨v,hv,e⟩ => ?_⟩
  have := h (M.ky v) (List.mem_map.2 ⟨v,hv,rfl⟩)
  rw [e] at this
  simp at this
 | some j=>
  refine ⟨fun _ => ?_,fun _=>⟨j,rfl⟩⟩
  obtain ⟨h1,h2,_⟩:=List.findIdx?_eq_some_iff_getElem.1 h
  have hj:j<V.length:=by simpa using h1
  refine ⟨V[j],List.getElem_mem hj,?_⟩
  simpa using h2
theorem seen_iff (V:List σ) (k:ByteArray):((mget (kys M V) k).getD false)=true↔∃ v∈V,M.ky v=k:=by
 rw [<- midx_kys]
 unfold mget
 cases h:midx (kys M V) k with
 | none=>simp
 | some j=>
  obtain ⟨hj,v,hv⟩:=midx_lt h
  rw [Option.bind_some,hv]
  have : (k,v)∈kys M V:=List.mem_of_getElem? hv
  unfold kys at this
  obtain ⟨u,_,e⟩:=List.mem_map.1 this
  injection e with _ e
  subst e
  simp
theorem put_new {V:List σ} {s:σ} (h : ¬ ∃ v∈V,M.ky v=M.ky s):mput (kys M V) (M.ky s) true=kys M (V++[s]):=by
 unfold mput
 cases hm:midx (kys M V) (M.ky s) with
 | some j=>exact absurd ((midx_kys V _).1 ⟨j,hm⟩) h
 | none=>simp [kys]
def Done (M:Mac σ) (V:List σ) (outs:List (List Int)) (v:σ):Prop:=(∀ m∈M.mv v,M.af v m∈V)/\(M.dn v=true->M.oc v∈outs)
structure Srch (M:Mac σ) (s0:σ) (V stack:List σ) (outs:List (List Int)) (cur:Option (σ×Nat)):Prop where
 rea:∀ v∈V,Rea M s0 v
 base:s0∈V
 nd:V.Nodup
 sub:∀ v∈stack,v∈V
 all:∀ v∈V,v∈stack\/(∃ n,cur=some (v,n))\/Done M V outs v
 out:∀ o∈outs,∃ v∈V,M.dn v=true/\M.oc v=o
 len:outs.length+stack.length<=V.length
 cur_:∀ s n,cur=some (s,n)->s∈V/\(M.dn s=true->M.oc s∈outs)/\∀ j,j<n->∀ m,(M.mv s)[j]? = some m->M.af s m∈V
theorem Srch.start:Srch M s0 [s0] [s0] [] none where
 rea:=fun v hv=>by rw [List.mem_singleton.1 hv];exact .base
 base:=List.mem_singleton.2 rfl
 nd:=by simp
 sub:=fun v hv=>hv
 all:=fun v hv => .inl hv
 out:=nofun
 len:=by simp
 cur_:=nofun
theorem Srch.pop {V stack:List σ} {s:σ} {outs:List (List Int)} (h:Srch M s0 V (stack++[s]) outs none) {outs':List (List Int)} (ho:outs'=if M.dn s then outs++[M.oc s] else outs):Srch M s0 V stack outs' (some (s,0)) where
 rea:=h.rea
 base:=h.base
 nd:=h.nd
 sub:=fun v hv=>h.sub v (List.mem_append_left _ hv)
 all:=fun v hv=>by
  rcases h.all v hv with h1 | ⟨n,h1⟩ | ⟨h1,h2⟩
  ·rcases List.mem_append.1 h1 with h1 | h1
   ·exact .inl h1
   ·rw [List.mem_singleton.1 h1]
    exact .inr (.inl ⟨0,rfl⟩)
  ·cases h1
  ·refine .inr (.inr ⟨h1,fun hd => ?_⟩)
   rw [ho]
   split
   ·exact List.mem_append_left _ (h2 hd)
   ·exact h2 hd
 out:=fun o hm=>by
  rw [ho] at hm
  split at hm
  ·rename_i hd
   rcases List.mem_append.1 hm with hm | hm
   ·exact h.out o hm
   ·rw [List.mem_singleton.1 hm]
    exact ⟨s,h.sub s (List.mem_append_right _ (List.mem_singleton.2 rfl)),hd,rfl⟩
  ·exact h.out o hm
 len:=by
  have := h.len
  rw [List.length_append,List.length_singleton] at this
  rw [ho]
  split
  ·rw [List.length_append,List.length_singleton];omega
  ·omega
 cur_:=fun t n e=>by
  injection e with e
  injection e with e1 e2
  subst e1 e2
  refine ⟨h.sub s (List.mem_append_right _ (List.mem_singleton.2 rfl)),fun hd => ?_,fun j hj=>absurd hj (by omega)⟩
  rw [ho,if_pos hd]
  exact List.mem_append_right _ (List.mem_singleton.2 rfl)
theorem Srch.old {V stack:List σ} {s:σ} {outs:List (List Int)} {n:Nat} {m:Int} (h:Srch M s0 V stack outs (some (s,n))) (hm:(M.mv s)[n]? = some m) (hv:M.af s m∈V):Srch M s0 V stack outs (some (s,n+1)) where
 rea:=h.rea
 base:=h.base
 nd:=h.nd
 sub:=h.sub
 all:=fun v hv=>by
  rcases h.all v hv with h1 | ⟨k,h1⟩ | h1
  ·exact .inl h1
  ·injection h1 with h1
   injection h1 with h1 _
   subst h1
   exact .inr (.inl ⟨n+1,rfl⟩)
  ·exact .inr (.inr h1)
 out:=h.out
 len:=h.len
 cur_:=fun t k e=>by
  injection e with e
  injection e with e1 e2
  subst e1 e2
  obtain ⟨g1,g2,g3⟩:=h.cur_ s n rfl
  refine ⟨g1,g2,fun j hj m' hm' => ?_⟩
  rcases Nat.lt_or_ge j n with h' | h'
  ·exact g3 j h' m' hm'
  ·obtain rfl:j=n:=by omega
   rw [hm] at hm'
   obtain rfl:=Option.some.inj hm'
   exact hv
theorem Srch.new {V stack:List σ} {s:σ} {outs:List (List Int)} {n:Nat} {m:Int} (h:Srch M s0 V stack outs (some (s,n))) (hm:(M.mv s)[n]? = some m) (hv:M.af s m∉V):Srch M s0 (V++[M.af s m]) (stack++[M.af s m]) outs (some (s,n+1)) where
 rea:=fun v hv=>by
  rcases List.mem_append.1 hv with hv | hv
  ·exact h.rea v hv
  ·rw [List.mem_singleton.1 hv]
   exact .step (h.rea s (h.cur_ s n rfl).1) (List.mem_of_getElem? hm)
 base:=List.mem_append_left _ h.base
 nd:=by
  rw [List.nodup_append]
  exact ⟨h.nd,by simp,fun a ha b hb e=>hv (by rw [<- List.mem_singleton.1 hb,<- e];exact ha)⟩
 sub:=fun v hv=>by
  rcases List.mem_append.1 hv with hv | hv
  ·exact List.mem_append_left _ (h.sub v hv)
  ·exact List.mem_append_right _ hv
 all:=fun v hv=>by
  rcases List.mem_append.1 hv with hv | hv
  ·rcases h.all v hv with h1 | ⟨k,h1⟩ | ⟨h1,h2⟩
   ·exact .inl (List.mem_append_left _ h1)
   ·injection h1 with h1
    injection h1 with h1 _
    subst h1
    exact .inr (.inl ⟨n+1,rfl⟩)
   ·exact .inr (.inr ⟨fun m hm=>List.mem_append_left _ (h1 m hm),h2⟩)
  ·exact .inl (List.mem_append_right _ hv)
 out:=fun o ho=>by
  obtain ⟨v,g1,g2⟩:=h.out o ho
  exact ⟨v,List.mem_append_left _ g1,g2⟩
 len:=by
  have := h.len
  simp only [List.length_append,List.length_singleton]
  omega
 cur_:=fun t k e=>by
  injection e with e
  injection e with e1 e2
  subst e1 e2
  obtain ⟨g1,g2,g3⟩:=h.cur_ s n rfl
  refine ⟨List.mem_append_left _ g1,g2,fun j hj m' hm' => ?_⟩
  rcases Nat.lt_or_ge j n with h' | h'
  ·exact List.mem_append_left _ (g3 j h' m' hm')
  ·obtain rfl:j=n:=by omega
   rw [hm] at hm'
   obtain rfl:=Option.some.inj hm'
   exact List.mem_append_right _ (List.mem_singleton.2 rfl)
theorem Srch.fin {V stack:List σ} {s:σ} {outs:List (List Int)} {n:Nat} (h:Srch M s0 V stack outs (some (s,n))) (hn:(M.mv s).length<=n):Srch M s0 V stack outs none where
 rea:=h.rea
 base:=h.base
 nd:=h.nd
 sub:=h.sub
 all:=fun v hv=>by
  rcases h.all v hv with h1 | ⟨k,h1⟩ | h1
  ·exact .inl h1
  ·injection h1 with h1
   injection h1 with h1 _
   subst h1
   obtain ⟨_,g2,g3⟩:=h.cur_ s n rfl
   refine .inr (.inr ⟨fun m hm => ?_,g2⟩)
   obtain ⟨j,hj⟩:=List.getElem?_of_mem hm
   exact g3 j (by have := (List.getElem?_eq_some_iff.1 hj).1;omega) m hj
  ·exact .inr (.inr h1)
 out:=h.out
 len:=h.len
 cur_:=nofun
theorem Srch.ends {V:List σ} {outs:List (List Int)} (h:Srch M s0 V [] outs none):(∀ o,o∈outs↔Outs M s0 o)/\∀ v,v∈V↔Rea M s0 v:=by
 have all:∀ v,Rea M s0 v->v∈V:=fun v hv=>by
  induction hv with
  | base=>exact h.base
  | step _ hm ih=>
   rcases h.all _ ih with h1 | ⟨_,h1⟩ | h1
   ·cases h1
   ·cases h1
   ·exact h1.1 _ hm
 refine ⟨fun o=>⟨fun ho => ?_,fun ⟨s,h1,h2,h3⟩ => ?_⟩,fun v=>⟨h.rea v,all v⟩⟩
 ·obtain ⟨v,g1,g2,g3⟩:=h.out o ho
  exact ⟨v,h.rea v g1,g2,g3⟩
 ·rcases h.all s (all s h1) with h4 | ⟨_,h4⟩ | h4
  ·cases h4
  ·cases h4
  ·rw [<- h3]
   exact h4.2 h2
end
section
variable {σ:Type} [Inhabited σ] (mv:σ->Option (List Int)) (af:σ->Int->Option σ) (ky:σ->Option ByteArray) (dn:σ->Option Bool) (oc:σ->Option (List Int)) (srt:List (List Int)->Option (List (List Int)))
noncomputable def rchI (s9:(List (ByteArray×Bool))×(List (List Int))×(List σ)) (s19:(List (List Int))) (v27:(List Int)):((List (ByteArray×Bool))×(List σ)×Int)->Option (((List (ByteArray×Bool))×(List σ)×Int) ⊕ (((List (ByteArray×Bool))×(List (List Int))×(List σ)) ⊕ ((List (ByteArray×Bool))×(List (List Int))))):=fun s31=>
 bif decide (s31.2.2<(v27.length:Int)) then
  Option.bind (
   gd (decide (0<=s31.2.2/\s31.2.2<(v27.length:Int))) <|
   Option.bind (af (s9.2.2.getD (((s9.2.2.length:Int)-(1:Int)).toNat) default) (v27.getD s31.2.2.toNat default)) fun v37=>
   Option.bind (ky v37) fun v38=>
   bif !((mget s31.1 v38).getD false) then
    gd (capOK (s31.2.1.length+1) 16) <|
    some ((mput s31.1 v38 true),(s31.2.1++[v37]))
   else
    some (s31.1,s31.2.1)
  ) fun s35=>
  gd (inK .i64 (s31.2.2+(1:Int))) <|
  some (.inl (s35.1,s35.2,(s31.2.2+(1:Int))))
 else
  some (.inr (.inl (s31.1,s19,s31.2.1)))
noncomputable def rchO:((List (ByteArray×Bool))×(List (List Int))×(List σ))->Option (((List (ByteArray×Bool))×(List (List Int))×(List σ)) ⊕ ((List (ByteArray×Bool))×(List (List Int)))):=fun s9=>
 bif decide ((0:Int)<(s9.2.2.length:Int)) then
  gd (inK .i64 ((s9.2.2.length:Int)-(1:Int))) <|
  gd (decide (0<=((s9.2.2.length:Int)-(1:Int))/\((s9.2.2.length:Int)-(1:Int))<(s9.2.2.length:Int))) <|
  gd (decide (0<=(0:Int)/\(0:Int)<=((s9.2.2.length:Int)-(1:Int))/\((s9.2.2.length:Int)-(1:Int))<=(s9.2.2.length:Int))) <|
  Option.bind (
   Option.bind (dn (s9.2.2.getD (((s9.2.2.length:Int)-(1:Int)).toNat) default)) fun v20=>
   bif v20 then
    Option.bind (oc (s9.2.2.getD (((s9.2.2.length:Int)-(1:Int)).toNat) default)) fun v22=>
    gd (capOK (s9.2.1.length+1) 24) <|
    some (s9.2.1++[v22])
   else
    some s9.2.1
  ) fun s19=>
  Option.bind (mv (s9.2.2.getD (((s9.2.2.length:Int)-(1:Int)).toNat) default)) fun v27=>
  loopO (rchI af ky s9 s19 v27) (s9.1,((s9.2.2.drop (0:Int).toNat).take (((s9.2.2.length:Int)-(1:Int)).toNat-(0:Int).toNat)),(0:Int))
 else
  some (.inr (s9.1,s9.2.1))
noncomputable def rchF (start:σ):Option ((List (List Int))×Int):=
 Option.bind (ky start) fun v1=>
 Option.bind (
  loopO (rchO mv af ky dn oc) ((mput ([]:List (ByteArray×Bool)) v1 true),([]:List (List Int)),([start]:List σ))
 ) fun s2=>
 Option.bind (srt s2.2) fun v46=>
 some (v46,(s2.1.length:Int))
variable {mv af ky dn oc srt} {M:Mac σ} {s0:σ} {N:Nat}
structure Mrt (mv:σ->Option (List Int)) (af:σ->Int->Option σ) (ky:σ->Option ByteArray) (dn:σ->Option Bool) (oc:σ->Option (List Int)) (M:Mac σ) (s0:σ):Prop where
 mv:∀ s,Rea M s0 s->Ret (mv s) (· = M.mv s)
 af:∀ s m,Rea M s0 s->m∈M.mv s->Ret (af s m) (· = M.af s m)
 ky:∀ s,Rea M s0 s->Ret (ky s) (· = M.ky s)
 dn:∀ s,Rea M s0 s->Ret (dn s) (· = M.dn s)
 oc:∀ s,Rea M s0 s->M.dn s=true->Ret (oc s) (· = M.oc s)
 len:∀ s,Rea M s0 s->(M.mv s).length<=1048576
theorem capR {n m:Nat} (hn:n<=1099511627776) (hm:Nat.ble m 32=true):capOK n m=true:=by
 have h1:=Nat.le_of_ble_eq_true hm
 have h2:n*m<=1099511627776*32:=Nat.mul_le_mul hn h1
 exact decide_eq_true ⟨by omega,by omega⟩
theorem rchI_ret (K:Mok M s0 N) (R:Mrt mv af ky dn oc M s0) (hN:N<1099511627776) {V stk:List σ} {s:σ} {outs outs':List (List Int)} (h:Srch M s0 V stk outs' (some (s,0))) :
  Ret (loopO (rchI af ky (kys M V,outs,stk++[s]) outs' (M.mv s)) (kys M V,stk,(0:Int))) fun z=>∃ V' stk',z = .inl (kys M V',outs',stk')/\Srch M s0 V' stk' outs' none/\V.length<=V'.length/\2*V.length+stk'.length<=2*V'.length+stk.length:=by
 have hsV:=(h.cur_ s 0 rfl).1
 have hs:=h.rea s hsV
 have hcur:(stk++[s]).getD ((((stk++[s]).length:Int)-1).toNat) default=s:=by
  rw [List.length_append,List.length_singleton,show (((stk.length+1:Nat):Int)-1).toNat=stk.length by omega,List.getD_eq_getElem?_getD,List.getElem?_append_right (Nat.le_refl _)]
  simp
 have hlen:=R.len s hs
 refine Ret.loop (fun z=>∃ V',z.1=kys M V'/\(0<=z.2.2/\z.2.2<=((M.mv s).length:Int))/\Srch M s0 V' z.2.1 outs' (some (s,z.2.2.toNat))/\V.length<=V'.length/\2*V.length+z.2.1.length<=2*V'.length+stk.length) (fun z=>(((M.mv s).length:Int)-z.2.2).toNat) ⟨V,rfl,⟨Int.le_refl _,by simp⟩,h,Nat.le_refl _,Nat.le_refl _⟩ fun z ⟨V',h1,h2,h3,h4,h5⟩ => ?_
 unfold rchI
 simp only [hcur]
 refine .bifD (fun hlt => ?_) fun hge => .pure ⟨V',z.2.1,by rw [h1],h3.fin (by omega),h4,h5⟩
 have hj:z.2.2.toNat<(M.mv s).length:=by omega
 have hm:(M.mv s)[z.2.2.toNat]? = some ((M.mv s).getD z.2.2.toNat default):=by simp [List.getElem?_eq_getElem hj]
 have hmm:=List.mem_of_getElem? hm
 have hi1:(z.2.2+1).toNat=z.2.2.toNat+1:=by omega
 have hV':=K.cnt V' h3.nd h3.rea
 have hl:=h3.len
 refine Ret.bind (P:=fun w=>∃ V2,w.1=kys M V2/\Srch M s0 V2 w.2 outs' (some (s,z.2.2.toNat+1))/\V.length<=V2.length/\2*V.length+w.2.length<=2*V2.length+stk.length) ?_ fun w ⟨V2,w1,w2,w3,w4⟩ => .gdI (by omega) (.pure ⟨⟨V2,w1,⟨by simp only [];omega,by simp only [];omega⟩,by simp only [hi1];exact w2,w3,w4⟩,by simp only [];omega⟩)
 refine .gdD ⟨h2.1,hlt⟩ ((R.af s _ hs hmm).bind fun v37 e37 => ?_)
 subst e37
 refine (R.ky _ (.step hs hmm)).bind fun v38 e38 => ?_
 subst e38
 refine .bif (fun hb => .gd (capR (by omega) rfl) (.pure ?_)) fun hb => .pure ?_
 ·have hn : ¬ ∃ v∈V',M.ky v=M.ky (M.af s ((M.mv s).getD z.2.2.toNat default)):=fun hh=>by
   rw [h1,(seen_iff V' _).2 hh] at hb
   cases hb
  refine ⟨V'++[M.af s ((M.mv s).getD z.2.2.toNat default)],?_,h3.new hm fun hv=>hn ⟨_,hv,rfl⟩,?_,?_⟩
  ·simp only [h1]
   exact put_new hn
  ·simp;omega
  ·simp;omega
 ·have hy:∃ v∈V',M.ky v=M.ky (M.af s ((M.mv s).getD z.2.2.toNat default)):=by
   rw [<- seen_iff,<- h1]
   simpa using hb
  obtain ⟨v,hv,e⟩:=hy
  have := K.key v _ (h3.rea v hv) (.step hs hmm) e
  refine ⟨V',h1,h3.old hm (this ▸ hv),h4,h5⟩
theorem rch_ret (K:Mok M s0 N) (R:Mrt mv af ky dn oc M s0) (hN:N<1099511627776) {Q:List (List Int)->List (List Int)->Prop} (hs:∀ l:List (List Int),l.length<=N->(∀ o∈l,Outs M s0 o)->Ret (srt l) (Q l)) :
  Ret (rchF mv af ky dn oc srt s0) fun q=>∃ l,Q l q.1/\(∀ o,o∈l↔Outs M s0 o)/\∃ V:List σ,V.Nodup/\(∀ v,v∈V↔Rea M s0 v)/\q.2=(V.length:Int):=by
 unfold rchF
 refine (R.ky s0 .base).bind fun v1 e1 => ?_
 subst e1
 refine Ret.bind (P:=fun w=>∃ V,w.1=kys M V/\Srch M s0 V [] w.2 none) ?_ fun w ⟨V,w1,w2⟩ => ?_
 ·refine Ret.loop (fun z=>∃ V,z.1=kys M V/\Srch M s0 V z.2.2 z.2.1 none) (fun z=>2*(N-z.1.length)+z.2.2.length) ⟨[s0],rfl,.start⟩ fun z ⟨V,h1,h2⟩ => ?_
  have hV:=K.cnt V h2.nd h2.rea
  have hl:=h2.len
  obtain ⟨kk,outs,stk⟩:=z
  simp only at h1 h2 hl
  subst h1
  unfold rchO
  simp only []
  refine .bifD (fun hlt => ?_) fun hge => ?_
  ·obtain ⟨stk',s,rfl⟩:∃ stk' s,stk=stk'++[s]:=⟨_,_,(List.dropLast_concat_getLast (by rintro rfl;simp at hlt)).symm⟩
   have hcur:(stk'++[s]).getD ((((stk'++[s]).length:Int)-1).toNat) default=s:=by
    rw [List.length_append,List.length_singleton,show (((stk'.length+1:Nat):Int)-1).toNat=stk'.length by omega,List.getD_eq_getElem?_getD,List.getElem?_append_right (Nat.le_refl _)]
    simp
   have hcut:((stk'++[s]).drop (0:Int).toNat).take ((((stk'++[s]).length:Int)-1).toNat-(0:Int).toNat)=stk':=by
    rw [List.length_append,List.length_singleton,show (((stk'.length+1:Nat):Int)-1).toNat-(0:Int).toNat=stk'.length by omega]
    simp
   have hre:=h2.rea s (h2.sub s (List.mem_append_right _ (List.mem_singleton.2 rfl)))
   rw [List.length_append,List.length_singleton] at hl
   refine .gdI (by simp;omega) (.gdD ⟨by simp,by omega⟩ (.gdD ⟨Int.le_refl _,by simp,by omega⟩ ?_))
   rw [hcur,hcut]
   refine Ret.bind (P:=fun o=>o=if M.dn s then outs++[M.oc s] else outs) ?_ fun o ho => ?_
   ·refine (R.dn s hre).bind fun b hb => ?_
    subst hb
    refine .bif (fun hb=>(R.oc s hre hb).bind fun o ho => .gd (capR (by omega) rfl) (.pure ?_)) fun hb => .pure ?_
    ·rw [if_pos hb,ho]
    ·rw [if_neg (by rw [hb];decide)]
   ·have h3:=h2.pop ho
    refine (R.mv s hre).bind fun v27 e27 => ?_
    subst e27
    refine (rchI_ret K R hN (outs:=outs) h3).mono fun z ⟨V',stk2,e,g1,g2,g3⟩ => ?_
    subst e
    have hV2:=K.cnt V' g1.nd g1.rea
    refine ⟨⟨V',rfl,g1⟩,?_⟩
    simp only [kys,List.length_map,List.length_append,List.length_singleton]
    omega
  ·refine .pure ⟨V,rfl,?_⟩
   have : stk=[]:=List.eq_nil_of_length_eq_zero (by omega)
   subst this
   exact h2
 ·have hV:=K.cnt V w2.nd w2.rea
  have hl:=w2.len
  refine (hs w.2 (by omega) fun o ho=>(w2.ends.1 o).1 ho).bind fun q hq => .pure ⟨w.2,hq,w2.ends.1,V,w2.nd,w2.ends.2,?_⟩
  rw [w1]
  simp [kys]
end
end Go.Proofs.Ytlgfihlflchhgaa
namespace Go.Proofs.Ytlgfihlflchhgaa
theorem nodup_le {σ:Type} (f:σ->Nat) (m:Nat):∀ (V:List σ),V.Nodup->(∀ v∈V,f v<m)->(∀ u∈V,∀ v∈V,f u=f v->u=v)->V.length<=m:=fun V hn hl hi=>by
 have h1:(V.map f).Nodup:=by
  rw [List.nodup_iff_pairwise_ne] at hn ⊢
  rw [List.pairwise_map]
  exact hn.imp_of_mem fun {a b} ha hb hne e=>hne (hi a ha b hb e)
 have := List.Nodup.length_le_of_subset h1 (l₂:=List.range m) fun x hx=>by
  obtain ⟨v,hv,rfl⟩:=List.mem_map.1 hx
  exact List.mem_range.2 (hl v hv)
 simpa using this
def codeN:List (Nat×Nat)->Nat
 | []=>0
 | (d,b)::l=>d+b*codeN l
def prodN:List (Nat×Nat)->Nat
 | []=>1
 | (_,b)::l=>b*prodN l
theorem codeN_lt:∀ (l:List (Nat×Nat)),(∀ x∈l,x.1<x.2)->codeN l<prodN l
 | [],_=>Nat.one_pos
 | (d,b)::l,h=>by
  have h1:d<b:=h _ List.mem_cons_self
  have h2:=codeN_lt l fun x hx=>h x (List.mem_cons_of_mem _ hx)
  show d+b*codeN l<b*prodN l
  have h3:b*(codeN l+1)<=b*prodN l:=Nat.mul_le_mul_left _ h2
  rw [Nat.mul_add,Nat.mul_one] at h3
  omega
theorem codeN_inj:∀ (l k:List (Nat×Nat)),l.map (·.2)=k.map (·.2)->(∀ x∈l,x.1<x.2)->(∀ x∈k,x.1<x.2)->codeN l=codeN k->l=k
 | [],[],_,_,_,_=>rfl
 | [],_::_,h,_,_,_=>by cases h
 | _::_,[],h,_,_,_=>by cases h
 | (d,b)::l,(d',b')::k,h,hl,hk,e=>by
  injection h with hb ht
  simp only at hb
  subst hb
  have h1:d<b:=hl _ List.mem_cons_self
  have h2:d'<b:=hk _ List.mem_cons_self
  have e:d+b*codeN l=d'+b*codeN k:=e
  have hd:d=d':=by
   have := congrArg (· % b) e
   simp only [Nat.add_mul_mod_self_left,Nat.mod_eq_of_lt h1,Nat.mod_eq_of_lt h2] at this
   exact this
  subst hd
  have hc:codeN l=codeN k:=Nat.eq_of_mul_eq_mul_left (by omega) (by omega:b*codeN l=b*codeN k)
  rw [codeN_inj l k ht (fun x hx=>hl x (List.mem_cons_of_mem _ hx)) (fun x hx=>hk x (List.mem_cons_of_mem _ hx)) hc]
end Go.Proofs.Ytlgfihlflchhgaa
namespace Go.Proofs.Ytlgfihlflchhgaa
open Go.RowKit
set_option maxRecDepth 100000
def rdX (x:ZIn):Bool:=x.Op==1||x.Op==5
def wrX (x:ZIn):Bool:=x.Op==2||x.Op==3||x.Op==5
theorem ireads (x:ZIn):Ret (F_impl_Instr_reads x) (· = rdX x):=by
 unfold F_impl_Instr_reads rdX
 exact Ret.bind (P:=(· = (x.Op==1||x.Op==5))) (.bif (fun h => .pure (by rw [h];rfl)) fun h => .pure (by rw [h];rfl)) fun v hv => .pure hv
theorem iwrites (x:ZIn):Ret (F_impl_Instr_writes x) (· = wrX x):=by
 unfold F_impl_Instr_writes wrX
 exact Ret.bind (P:=(· = (x.Op==2||x.Op==3))) (.bif (fun h => .pure (by rw [h];rfl)) fun h => .pure (by rw [h];rfl)) fun v hv=>Ret.bind (P:=(· = (x.Op==2||x.Op==3||x.Op==5))) (.bif (fun h => .pure (by rw [<- hv,h];rfl)) fun h => .pure (by rw [<- hv,h];rfl)) fun v hv => .pure hv
def Vs (p:List (List ZIn)):Prop:=p.length<=3/\∀ n,(p.getD n default).length<=7
theorem Vs.of {p:List (List ZIn)} (h:validB (p.map fun r=>r.map toIns)=true):Vs p/\∀ t k:Nat,t<p.length->k<(p.getD t default).length->insOk (toIns ((p.getD t default).getD k default))=true:=by
 simp only [validB,shapeB,Bool.and_eq_true,decide_eq_true_eq,List.all_eq_true,rowOk] at h
 have hl:p.length<=3:=by simpa using h.1.1.1.1
 have hr:=h.1.1.1.2
 refine ⟨⟨hl,fun n => ?_⟩,fun t k ht hk => ?_⟩
 ·by_cases hn:n<p.length
  ·have e:p.getD n default=p[n]:=by simp [hn]
   rw [e]
   have := (hr (p[n].map toIns) (List.mem_map.2 ⟨p[n],List.getElem_mem hn,rfl⟩)).1
   simpa using this
  ·rw [List.getD_eq_getElem?_getD,List.getElem?_eq_none (by omega)]
   exact Nat.zero_le _
 ·have e:p.getD t default=p[t]:=by simp [ht]
  rw [e] at hk ⊢
  have h1:=(hr (p[t].map toIns) (List.mem_map.2 ⟨p[t],List.getElem_mem ht,rfl⟩)).2
  have e2:p[t].getD k default=p[t][k]:=by simp [hk]
  rw [e2]
  exact h1 _ (List.mem_map.2 ⟨_,List.getElem_mem hk,rfl⟩)
def InR (x:ZIn):Prop:=0<=x.Loc/\x.Loc<=2/\0<=x.Reg/\x.Reg<=2/\0<=x.Val/\x.Val<=3
theorem insOk_fld {x:ZIn} (h:insOk (toIns x)=true):InR x:=by
 obtain ⟨o,l,r,v⟩:=x
 unfold InR
 simp only
 unfold insOk toIns at h
 simp only [inB] at h
 split at h
 ·simp only [Bool.and_eq_true,decide_eq_true_eq,beq_iff_eq] at h;omega
 ·split at h
  ·simp only [Bool.and_eq_true,decide_eq_true_eq,beq_iff_eq] at h;omega
  ·split at h
   ·simp only [Bool.and_eq_true,decide_eq_true_eq,beq_iff_eq] at h;omega
   ·split at h
    ·simp only [Bool.and_eq_true,decide_eq_true_eq] at h;omega
    ·cases h
structure PV (p:List (List ZIn)):Prop where
 vs:Vs p
 pos:0<p.length
 ins:∀ t k:Nat,t<p.length->k<(p.getD t default).length->InR ((p.getD t default).getD k default)
theorem PV.of {p:List (List ZIn)} (h:validB (p.map fun r=>r.map toIns)=true):PV p:=by
 have h1:=Vs.of h
 refine ⟨h1.1,?_,fun t k ht hk=>insOk_fld (h1.2 t k ht hk)⟩
 simp only [validB,Bool.and_eq_true,decide_eq_true_eq,List.length_map] at h
 exact h.1.2
theorem capOK_le {n m:Nat} (hn:n<=4000000) (hm:Nat.ble m 1000=true):capOK n m=true:=by
 have h1:=Nat.le_of_ble_eq_true hm
 have h2:n*m<=4000000*1000:=Nat.mul_le_mul hn h1
 exact decide_eq_true ⟨by omega,by omega⟩
theorem get_set3 (a:Z3b) (q i v:Int) (hq:0<=q/\q<=2) (hi:0<=i/\i<=2):Z3b.get (Z3b.set a q v) i=if i=q then v else Z3b.get a i:=by
 obtain ⟨x,y,z⟩:=a
 have h1:q=0\/q=1\/q=2:=by omega
 have h2:i=0\/i=1\/i=2:=by omega
 rcases h1 with rfl | rfl | rfl <;> rcases h2 with rfl | rfl | rfl <;> rfl
theorem get_set33 (a:Z33) (q i:Int) (v:Z3b) (hq:0<=q/\q<=2) (hi:0<=i/\i<=2):Z33.get (Z33.set a q v) i=if i=q then v else Z33.get a i:=by
 obtain ⟨x,y,z⟩:=a
 have h1:q=0\/q=1\/q=2:=by omega
 have h2:i=0\/i=1\/i=2:=by omega
 rcases h1 with rfl | rfl | rfl <;> rcases h2 with rfl | rfl | rfl <;> rfl
def valI (u:ZVa) (t:Int) (x:ZIn):Int:=if x.Op=3 then Z3b.get (Z33.get u.reg t) x.Reg else x.Val
def aftI (u:ZVa) (t:Int) (x:ZIn):ZVa:=
 ⟨u.p,Z3b.set u.pc t (Z3b.get u.pc t+1),if rdX x=true then Z33.set u.reg t (Z3b.set (Z33.get u.reg t) x.Reg (Z3b.get u.mem x.Loc)) else u.reg,if wrX x=true then Z3b.set u.mem x.Loc (valI u t x) else u.mem⟩
end Go.Proofs.Ytlgfihlflchhgaa
namespace Go.Proofs.Ytlgfihlflchhgaa
open Go.RowKit
set_option maxRecDepth 100000
def ltL (x y:List Int):Prop:=cmpL x y<0
theorem leL_iff {x y:List Int}:leL x y=true↔ltL x y\/x=y:=by
 unfold leL ltL
 rw [decide_eq_true_eq]
 rcases cmpL_tri x y with h | h | h
 ·exact ⟨fun _ => .inl h,fun _=>by have := cmpL_neg x y;omega⟩
 ·exact ⟨fun _ => .inr h,fun _=>by rw [h,cmpL_refl];decide⟩
 ·refine ⟨fun g=>absurd h g,fun g => ?_⟩
  rcases g with g | g
  ·have := cmpL_neg x y;omega
  ·rw [g,cmpL_refl] at h;exact absurd h (by decide)
theorem ltL_ne {x y:List Int} (h:ltL x y):x≠y:=by
 rintro rfl
 unfold ltL at h
 rw [cmpL_refl] at h
 exact absurd h (by decide)
structure Sor (l q:List (List Int)):Prop where
 lt:q.Pairwise ltL
 mem:∀ o,o∈q↔o∈l
 len:q.length<=l.length
theorem sor_next {l c:List (List Int)} {n:Nat} (hs:l.Pairwise fun x y=>leL x y=true) (h:c.Pairwise ltL) (hm:∀ o,o∈c↔o∈l.take n) (h0:0<n) (hn:n<l.length) (hne:l.getD n default≠l.getD (n-1) default) :
  (c++[l.getD n default]).Pairwise ltL/\∀ o,o∈c++[l.getD n default]↔o∈l.take (n+1):=by
 have e1:l.getD n default=l[n]:=by simp [hn]
 have e2:l.getD (n-1) default=l[n-1]:=by simp [List.getD,show n-1<l.length by omega]
 rw [e1] at hne ⊢
 rw [e2] at hne
 have hp:=List.pairwise_iff_getElem.1 hs
 refine ⟨List.pairwise_append.2 ⟨h,by simp,fun y hy x hx => ?_⟩,fun o => ?_⟩
 ·rw [List.mem_singleton.1 hx]
  obtain ⟨j,hj,rfl⟩:=List.getElem_of_mem ((hm y).1 hy)
  have hjn:j<n:=Nat.lt_of_lt_of_le (show j<min n l.length by simpa using hj) (Nat.min_le_left _ _)
  rw [List.getElem_take]
  rcases leL_iff.1 (hp j n (by omega) hn hjn) with g | g
  ·exact g
  ·exfalso
   apply hne
   by_cases hj1:j=n-1
   ·subst hj1;exact g.symm
   ·exact leL_anti _ _ (g ▸ hp j (n-1) (by omega) (by omega) (by omega)) (hp (n-1) n (by omega) hn (by omega))
 ·rw [List.mem_append,hm,List.take_add_one,List.mem_append,List.getElem?_eq_getElem hn]
  simp
theorem sor_same {l:List (List Int)} {n:Nat} (h0:0<n) (hn:n<l.length) (he:l.getD n default=l.getD (n-1) default) (o:List Int):o∈l.take (n+1)↔o∈l.take n:=by
 have e1:l.getD n default=l[n]:=by simp [hn]
 have e2:l.getD (n-1) default=l[n-1]:=by simp [List.getD,show n-1<l.length by omega]
 rw [e1,e2] at he
 rw [List.take_add_one,List.mem_append,List.getElem?_eq_getElem hn]
 refine ⟨fun h=>h.elim id fun h => ?_,.inl⟩
 have : o=l[n-1]:=by simpa [he] using h
 rw [this]
 exact List.mem_iff_getElem.2 ⟨n-1,by simp;omega,by simp⟩
theorem equal_ret (a b:List Int) (ha:a.length<=1048576):Ret (F_slices_Equal_int_int a b) (· = decide (a=b)):=by
 unfold F_slices_Equal_int_int
 refine .bif (fun h => .pure ?_) fun h => ?_
 ·have h:a.length≠b.length:=by
   intro e
   rw [e] at h
   simp at h
  rw [decide_eq_false (fun e=>h (by rw [e]))]
 ·have h:a.length=b.length:=by
   have : (a.length:Int)=(b.length:Int):=by simpa using h
   omega
  refine Ret.sum (PS:=fun _=>a=b) (PW:=fun v=>v=decide (a=b)) ?_ fun _ he => .pure (by rw [decide_eq_true he])
  refine Ret.loop (fun i=>0<=i/\i<=(a.length:Int)/\∀ j:Nat,(j:Int)<i->a[j]? = b[j]?) (fun i=>((a.length:Int)-i).toNat) ⟨Int.le_refl _,by omega,fun j hj=>absurd hj (by omega)⟩ fun i ⟨h1,h2,h3⟩ => ?_
  unfold F_slices_Equal_int_int_L6
  refine .bifD (fun hlt => .gdD ⟨h1,hlt⟩ (.gdD ⟨h1,by omega⟩ ?_)) fun hge => .pure ?_
  ·have hi:i.toNat<a.length:=by omega
   have hib:i.toNat<b.length:=by omega
   have ea:a.getD i.toNat default=a[i.toNat]:=by simp [hi]
   have eb:b.getD i.toNat default=b[i.toNat]:=by simp [hib]
   rw [ea,eb]
   refine .bif (fun hb => .pure ?_) fun hb => .gdI (by omega) (.pure ⟨⟨by omega,by omega,fun j hj => ?_⟩,by omega⟩)
   ·simp only [bne_iff_ne] at hb
    have : a≠b:=fun e=>hb (by simp [e])
    simp only []
    rw [decide_eq_false this]
   ·by_cases ej:j=i.toNat
    ·subst ej
     rw [List.getElem?_eq_getElem hi,List.getElem?_eq_getElem hib]
     have : a[i.toNat]=b[i.toNat]:=by simpa using hb
     rw [this]
    ·exact h3 j (by omega)
  ·simp only []
   apply List.ext_getElem?
   intro j
   rcases Nat.lt_or_ge j a.length with g | g
   ·exact h3 j (by omega)
   ·rw [List.getElem?_eq_none g,List.getElem?_eq_none (by omega)]
theorem eqo_ret (a b:List Int) (ha:a.length<=1048576):Ret (F_impl_sortedOutcomes_1 a b) (· = decide (a=b)):=by
 unfold F_impl_sortedOutcomes_1
 exact (equal_ret a b ha).bind fun v hv => .pure hv
theorem compact_ret {l:List (List Int)} (hs:l.Pairwise fun x y=>leL x y=true) (hl:l.length<=1099511627776) (hr:∀ r∈l,r.length<=1048576):Ret (F_slices_CompactFunc_int_int__impl_sortedOutcomes_1 l) (Sor l):=by
 have hrD:∀ n,(l.getD n default).length<=1048576:=fun n=>by
  by_cases hn:n<l.length
  ·have : l.getD n default=l[n]:=by simp [hn]
   rw [this]
   exact hr _ (List.getElem_mem hn)
  ·rw [List.getD_eq_getElem?_getD,List.getElem?_eq_none (by omega)]
   exact Nat.zero_le _
 unfold F_slices_CompactFunc_int_int__impl_sortedOutcomes_1
 refine .bifD (fun h => .pure ⟨?_,fun _=>Iff.rfl,Nat.le_refl _⟩) fun h => ?_
 ·match l,h with
  | [],_=>exact .nil
  | [x],_=>simp
  | _::_::_,h=>simp at h;omega
 have h2:2<=l.length:=by omega
 refine Ret.sum (PS:=fun q=>Sor l q) (PW:=fun q=>Sor l q) ?_ fun q hq => .pure hq
 refine Ret.loop (fun s=>s.1=l/\1<=s.2/\s.2<=(l.length:Int)/\(l.take s.2.toNat).Pairwise ltL) (fun s=>((l.length:Int)-s.2).toNat) ⟨rfl,Int.le_refl _,by simp only [];omega,?_⟩ fun s ⟨e,h1,h3,h4⟩ => ?_
 ·match l,h2 with
  | x::_,_=>simp
 obtain ⟨c,k⟩:=s
 simp only at e h1 h3 h4
 subst e
 unfold F_slices_CompactFunc_int_int__impl_sortedOutcomes_1_L9
 simp only []
 refine .bifD (fun hlt => ?_) fun hge => .pure ?_
 rotate_left
 ·have : k.toNat=c.length:=by omega
  rw [this,List.take_length] at h4
  exact ⟨h4,fun _=>Iff.rfl,Nat.le_refl _⟩
 have hk1:(k-1).toNat=k.toNat-1:=by omega
 refine Ret.sum (PS:=fun _=>c.getD k.toNat default≠c.getD (k.toNat-1) default) ?_ fun _ hne => .gdI (by omega) (.pure ⟨⟨rfl,by simp only [];omega,by simp only [];omega,?_⟩,by simp only [];omega⟩)
 rotate_left
 ·have := (sor_next hs h4 (fun _=>Iff.rfl) (by omega) (by omega) hne).1
  simp only []
  rw [show (k+1).toNat=k.toNat+1 by omega,List.take_add_one,List.getElem?_eq_getElem (by omega)]
  rw [show c.getD k.toNat default=c[k.toNat]'(by omega) by simp [show k.toNat<c.length by omega]] at this
  simpa using this
 refine .gdD ⟨by omega,hlt⟩ (.gdI (by omega) (.gdD ⟨by omega,by omega⟩ ((eqo_ret _ _ (hrD _)).bind fun v hv => ?_)))
 subst hv
 rw [hk1]
 refine .bifD (fun he => ?_) fun hne => .pure hne
 refine .gdD ⟨by omega,by omega,Int.le_refl _⟩ ?_
 refine Ret.bind (P:=fun z=>(k<=z.2/\z.2<=(c.length:Int))/\z.1.length=c.length/\(z.1.take z.2.toNat).Pairwise ltL/\∀ o,o∈z.1.take z.2.toNat↔o∈c) ?_ fun z ⟨⟨z1,z2⟩,z3,z4,z5⟩ => .gdD ⟨by omega,by omega,Int.le_refl _⟩ (.gdD ⟨Int.le_refl _,by omega,by omega⟩ (.pure ?_))
 rotate_left
 ·have e1:(((cpy z.1 (0+z.2.toNat) (List.replicate ((z.1.length:Int).toNat-z.2.toNat) (default:List Int)) ((z.1.length:Int).toNat-z.2.toNat)).drop (0:Int).toNat).take (z.2.toNat-(0:Int).toNat))=z.1.take z.2.toNat:=by
   simp only [cpy,Nat.zero_add,show (0:Int).toNat=0 from rfl,List.drop_zero,Nat.sub_zero]
   rw [if_pos (by omega),List.append_assoc,List.take_append_of_le_length (by rw [List.length_take];omega),List.take_take,Nat.min_self]
  simp only []
  rw [e1]
  exact ⟨z4,z5,by simp;omega⟩
 refine Ret.loop (fun s=>(1<=s.2.1/\k+s.2.1<=(c.length:Int))/\(k<=s.2.2/\s.2.2<=k+s.2.1-1)/\s.1.length=c.length/\(∀ j:Nat,k+s.2.1-1<=(j:Int)->s.1[j]? = c[j]?)/\(s.1.take s.2.2.toNat).Pairwise ltL/\∀ o,o∈s.1.take s.2.2.toNat↔o∈c.take (k+s.2.1).toNat) (fun s=>((c.length:Int)-k-s.2.1).toNat) ⟨⟨Int.le_refl _,by simp only [];omega⟩,⟨Int.le_refl _,by simp only [];omega⟩,rfl,fun _ _=>rfl,h4,fun o => ?_⟩ fun s ⟨⟨a1,a2⟩,⟨a3,a4⟩,a5,a6,a7,a8⟩ => ?_
 ·simp only []
  rw [show (k+1).toNat=k.toNat+1 by omega]
  exact (sor_same (by omega) (by omega) he o).symm
 obtain ⟨d,k2,kk⟩:=s
 simp only at a1 a2 a3 a4 a5 a6 a7 a8
 unfold F_slices_CompactFunc_int_int__impl_sortedOutcomes_1_L26
 simp only []
 have hz:((((c.length:Int).toNat-k.toNat:Nat)):Int)=(c.length:Int)-k:=by omega
 rw [hz]
 refine .bifD (fun hlt2 => ?_) fun hge => .pure ⟨⟨a3,by simp only [];omega⟩,a5,a7,fun o => ?_⟩
 rotate_left
 ·rw [a8,show (k+k2).toNat=c.length by omega,List.take_length]
 have g1:d.getD (0+k.toNat+k2.toNat) default=c.getD (k+k2).toNat default:=by
  rw [List.getD_eq_getElem?_getD,List.getD_eq_getElem?_getD,a6 _ (by omega),show 0+k.toNat+k2.toNat=(k+k2).toNat by omega]
 have g2:d.getD (0+k.toNat+(k2-1).toNat) default=c.getD ((k+k2).toNat-1) default:=by
  rw [List.getD_eq_getElem?_getD,List.getD_eq_getElem?_getD,a6 _ (by omega),show 0+k.toNat+(k2-1).toNat=(k+k2).toNat-1 by omega]
 have hn1:(k+(k2+1)).toNat=(k+k2).toNat+1:=by omega
 refine Ret.bind (P:=fun z=>(k<=z.2/\z.2<=k+k2)/\z.1.length=c.length/\(∀ j:Nat,k+k2<=(j:Int)->z.1[j]? = c[j]?)/\(z.1.take z.2.toNat).Pairwise ltL/\∀ o,o∈z.1.take z.2.toNat↔o∈c.take ((k+k2).toNat+1)) ?_ fun z ⟨⟨z1,z2⟩,z3,z4,z5,z6⟩ => .gdI (by omega) (.pure ⟨⟨⟨by simp only [];omega,by simp only [];omega⟩,⟨z1,by simp only [];omega⟩,z3,fun j hj=>z4 j (by simp only [] at hj;omega),z5,by simp only [hn1];exact z6⟩,by simp only [];omega⟩)
 refine .gdD ⟨⟨by omega,by omega⟩,by omega⟩ (.gdI (by omega) (.gdD ⟨⟨by omega,by omega⟩,by omega⟩ ?_))
 rw [g1,g2]
 refine (eqo_ret _ _ (hrD _)).bind fun v hv => ?_
 subst hv
 rw [<- decide_not]
 refine .bifD (fun hne => ?_) fun he2 => .pure ⟨⟨a3,by simp only [];omega⟩,a5,fun j hj=>a6 j (by omega),a7,fun o => ?_⟩
 ·have hkl:kk.toNat<d.length:=by omega
  refine .gdD ⟨by omega,by omega⟩ (.gdI (by omega) (.pure ⟨⟨by simp only [];omega,by simp only [];omega⟩,by simp [a5],fun j hj => ?_,?_⟩))
  ·simp only []
   rw [List.getElem?_set_ne (by omega)]
   exact a6 j (by omega)
  ·have e:(d.set kk.toNat (c.getD (k+k2).toNat default)).take (kk+1).toNat=d.take kk.toNat++[c.getD (k+k2).toNat default]:=by
    rw [show (kk+1).toNat=kk.toNat+1 by omega,List.take_add_one,List.getElem?_set_self hkl,List.take_set_of_le (Nat.le_refl _)]
    rfl
   simp only []
   rw [e]
   exact sor_next hs a7 a8 (by omega) (by omega) hne
 ·simp only []
  rw [a8]
  exact (sor_same (by omega) (by omega) (Decidable.not_not.1 he2) o).symm
theorem sorted_ret {l:List (List Int)} (hl:l.length<=1099511627776) (hr:∀ r∈l,r.length<=1048576):Ret (F_impl_sortedOutcomes l) (Sor l):=by
 unfold F_impl_sortedOutcomes
 refine Ret.bind (P:=(· = srtL l)) ?_ fun v hv => ?_
 ·unfold F_slices_SortFunc
  exact .gdD (by omega) (.pure rfl)
 subst hv
 have hp:=srtL_perm l
 refine (compact_ret (srtL_sorted l) (by rw [hp.length_eq];exact hl) (fun r h=>hr r (hp.mem_iff.1 h))).bind fun v ⟨v1,v2,v3⟩ => .pure ⟨v1,fun o=>(v2 o).trans hp.mem_iff,by rw [<- hp.length_eq];exact v3⟩
end Go.Proofs.Ytlgfihlflchhgaa
namespace Go.Proofs.Ytlgfihlflchhgaa
open Go.RowKit
set_option maxRecDepth 100000
structure Iv (p:List (List ZIn)) (u:ZVa):Prop where
 up:u.p=p
 pc:∀ t:Nat,t<3->0<=Z3b.get u.pc t/\Z3b.get u.pc t<=((p.getD t default).length:Int)
 rv:∀ t g:Nat,t<3->g<3->0<=Z3b.get (Z33.get u.reg t) g/\Z3b.get (Z33.get u.reg t) g<=3
 mv:∀ l:Nat,l<3->0<=Z3b.get u.mem l/\Z3b.get u.mem l<=3
def canI (u:ZVa) (t:Nat):Bool:=decide (Z3b.get u.pc t<((u.p.getD t default).length:Int))
def movN (u:ZVa) (n:Nat):List Int:=((List.range n).filter (canI u)).map Int.ofNat
def movI (u:ZVa):List Int:=movN u u.p.length
def insI (u:ZVa) (t:Int):ZIn:=(u.p.getD t.toNat default).getD (Z3b.get u.pc t).toNat default
def regsN (u:ZVa) (n:Nat):List Int:=(List.range n).flatMap fun t:Nat=>(List.range 3).map fun g:Nat=>Z3b.get (Z33.get u.reg t) g
def memL (u:ZVa):List Int:=(List.range 3).map fun l:Nat=>Z3b.get u.mem l
def outI (u:ZVa):List Int:=regsN u u.p.length++memL u
def keyL (u:ZVa):List Int:=[u.pc.x0,u.pc.x1,u.pc.x2,u.reg.x0.x0,u.reg.x0.x1,u.reg.x0.x2,u.reg.x1.x0,u.reg.x1.x1,u.reg.x1.x2,u.reg.x2.x0,u.reg.x2.x1,u.reg.x2.x2,u.mem.x0,u.mem.x1,u.mem.x2]
def seqM:Mac ZSq where
 mv s:=movI s.values
 af s t:=⟨aftI s.values t (insI s.values t)⟩
 ky s:=strOfNums (keyL s.values)
 dn s:=(movI s.values).isEmpty
 oc s:=outI s.values
section
variable {p:List (List ZIn)} {u:ZVa}
theorem movN_mem {n:Nat} {m:Int}:m∈movN u n↔∃ t:Nat,t<n/\m=t/\canI u t=true:=by
 unfold movN
 rw [List.mem_map]
 constructor
 ·rintro ⟨t,ht,rfl⟩
  rw [List.mem_filter,List.mem_range] at ht
  exact ⟨t,ht.1,rfl,ht.2⟩
 ·rintro ⟨t,h1,rfl,h2⟩
  exact ⟨t,List.mem_filter.2 ⟨List.mem_range.2 h1,h2⟩,rfl⟩
theorem movN_succ (n:Nat):movN u (n+1)=if canI u n=true then movN u n++[(n:Int)] else movN u n:=by
 unfold movN
 rw [List.range_succ,List.filter_append,List.map_append]
 split
 ·rename_i h
  rw [List.filter_cons_of_pos h]
  rfl
 ·rename_i h
  rw [List.filter_cons_of_neg h]
  simp
theorem movN_len (n:Nat):(movN u n).length<=n:=by
 unfold movN
 rw [List.length_map]
 exact Nat.le_trans (List.length_filter_le _ _) (by simp)
theorem nextI (hp:PV p) (h:Iv p u) {t:Nat} (ht:t<p.length):Ret (F_impl_values_next u t) fun v=>v.2=canI u t/\(v.2=true->v.1=insI u t):=by
 have hl:=hp.vs.1
 have hr:=hp.vs.2 t
 have h1:=h.pc t (by omega)
 unfold F_impl_values_next canI insI
 rw [h.up]
 simp only [Int.toNat_natCast]
 refine .gdD ⟨by omega,by omega⟩ (.gdI (by omega) (.gdD ⟨by omega,by omega⟩ (.bifD (fun hle => .pure ⟨?_,nofun⟩) fun hle => .gdD ⟨h1.1,by omega⟩ (.pure ⟨?_,fun _=>rfl⟩))))
 ·rw [decide_eq_false (by omega)]
 ·rw [decide_eq_true (by omega)]
theorem movesI (hp:PV p) (h:Iv p u):Ret (F_impl_seq_moves ⟨u⟩) (· = movI u):=by
 have hl:=hp.vs.1
 unfold F_impl_seq_moves
 refine Ret.bind (P:=(· = movI u)) ?_ fun v hv => .pure hv
 refine Ret.loop (fun s=>(0<=s.2/\s.2<=(p.length:Int))/\s.1=movN u s.2.toNat) (fun s=>((p.length:Int)-s.2).toNat) ⟨⟨Int.le_refl _,by simp only [];omega⟩,rfl⟩ fun s ⟨⟨h1,h2⟩,h3⟩ => ?_
 unfold F_impl_seq_moves_L8
 simp only [h.up]
 refine .bifD (fun hlt => ?_) fun hge => .pure ?_
 ·obtain ⟨l,i⟩:=s
  simp only at h1 h2 h3 hlt
  obtain ⟨n,rfl⟩:∃ n:Nat,i=n:=⟨i.toNat,by omega⟩
  simp only [Int.toNat_natCast] at h3
  subst h3
  have hln:=movN_len (u:=u) n
  refine Ret.bind (P:=(· = movN u (n+1))) ?_ fun v hv => .gdI (by omega) (.pure ⟨⟨⟨by simp only [];omega,by simp only [];omega⟩,hv⟩,by simp only [];omega⟩)
  refine (nextI hp h (by omega)).bind fun v ⟨e1,_⟩ => .bif (fun hb => .gd (capOK_le (by simp only [];omega) rfl) (.pure ?_)) fun hb => .pure ?_
  ·rw [movN_succ,if_pos (by rw [<- e1,hb])]
  ·rw [movN_succ,if_neg (by rw [<- e1,hb];decide)]
 ·rw [h3]
  unfold movI
  rw [h.up,show s.2.toNat=p.length by omega]
theorem doneI (hp:PV p) (h:Iv p u):Ret (F_impl_seq_done ⟨u⟩) (· = (movI u).isEmpty):=by
 have hl:=hp.vs.1
 unfold F_impl_seq_done
 refine Ret.bind (P:=(· = (movI u).isEmpty)) ?_ fun v hv => .pure hv
 unfold F_impl_values_allDone
 refine Ret.sum (PS:=fun _=>movI u=[]) (PW:=(· = (movI u).isEmpty)) ?_ fun _ hn => .pure (by rw [hn];rfl)
 refine Ret.loop (fun i=>(0<=i/\i<=(p.length:Int))/\movN u i.toNat=[]) (fun i=>((p.length:Int)-i).toNat) ⟨⟨Int.le_refl _,by omega⟩,rfl⟩ fun i ⟨⟨h1,h2⟩,h3⟩ => ?_
 unfold F_impl_values_allDone_L5
 simp only [h.up]
 refine .bifD (fun hlt => ?_) fun hge => .pure ?_
 ·obtain ⟨n,rfl⟩:∃ n:Nat,i=n:=⟨i.toNat,by omega⟩
  simp only [Int.toNat_natCast] at h3
  refine (nextI hp h (by omega)).bind fun v ⟨e1,_⟩ => .bif (fun hb => .pure ?_) fun hb => .gdI (by omega) (.pure ⟨⟨⟨by omega,by omega⟩,?_⟩,by omega⟩)
  ·have hm:(n:Int)∈movI u:=movN_mem.2 ⟨n,by rw [h.up];omega,rfl,by rw [<- e1,hb]⟩
   cases e:movI u with
   | nil=>rw [e] at hm;cases hm
   | cons a l=>rfl
  ·rw [show ((n:Int)+1).toNat=n+1 by omega,movN_succ,if_neg (by rw [<- e1,hb];decide),h3]
 ·simp only []
  unfold movI
  rw [h.up,<- show i.toNat=p.length by omega,h3]
theorem regsN_succ (n:Nat):regsN u (n+1)=regsN u n++(List.range 3).map fun g:Nat=>Z3b.get (Z33.get u.reg n) g:=by
 unfold regsN
 rw [show List.range (n+1)=List.range n++[n] from List.range_succ,List.flatMap_append]
 simp
theorem regsN_len (n:Nat):(regsN u n).length=3*n:=by
 induction n with
 | zero=>rfl
 | succ n ih=>rw [regsN_succ,List.length_append,ih];simp;omega
theorem outI_ret (hp:PV p) (h:Iv p u):Ret (F_impl_values_outcome u) (· = outI u):=by
 have hl:=hp.vs.1
 unfold F_impl_values_outcome
 refine Ret.bind (P:=(· = regsN u p.length)) ?_ fun v hv => ?_
 ·refine Ret.loop (fun s=>(0<=s.2/\s.2<=(p.length:Int))/\s.1=regsN u s.2.toNat) (fun s=>((p.length:Int)-s.2).toNat) ⟨⟨Int.le_refl _,by simp only [];omega⟩,rfl⟩ fun s ⟨⟨h1,h2⟩,h3⟩ => ?_
  unfold F_impl_values_outcome_L8
  simp only [h.up]
  refine .bifD (fun hlt => ?_) fun hge => .pure ?_
  ·obtain ⟨l,i⟩:=s
   simp only at h1 h2 h3 hlt
   obtain ⟨n,rfl⟩:∃ n:Nat,i=n:=⟨i.toNat,by omega⟩
   simp only [Int.toNat_natCast] at h3
   subst h3
   have hln:=regsN_len (u:=u) n
   refine Ret.bind (P:=(· = regsN u (n+1))) ?_ fun v hv => .gdI (by omega) (.pure ⟨⟨⟨by simp only [];omega,by simp only [];omega⟩,hv⟩,by simp only [];omega⟩)
   refine .gdD ⟨by omega,by omega⟩ (Ret.loop (fun s=>(0<=s.2/\s.2<=3)/\s.1=regsN u n++(List.range s.2.toNat).map fun g:Nat=>Z3b.get (Z33.get u.reg n) g) (fun s=>((3:Int)-s.2).toNat) ⟨⟨Int.le_refl _,(by decide:(0:Int)<=3)⟩,by simp⟩ fun s ⟨⟨a1,a2⟩,a3⟩ => ?_)
   unfold F_impl_values_outcome_L21
   simp only []
   refine .bifD (fun hlt => ?_) fun hge => .pure ?_
   ·obtain ⟨l,j⟩:=s
    simp only at a1 a2 a3 hlt
    obtain ⟨g,rfl⟩:∃ g:Nat,j=g:=⟨j.toNat,by omega⟩
    simp only [Int.toNat_natCast] at a3
    subst a3
    have hv:=h.rv n g (by omega) (by omega)
    refine .gdD ⟨by omega,hlt⟩ (.gdI (by first | omega | (simp only [];omega)) (.gd (capOK_le (by simp;omega) rfl) (.gdI (by omega) (.pure ⟨⟨⟨by simp only [];omega,by simp only [];omega⟩,?_⟩,by simp only [];omega⟩))))
    simp only []
    rw [show ((g:Int)+1).toNat=g+1 by omega,List.range_succ,List.map_append,<- List.append_assoc]
    rfl
   ·rw [a3,regsN_succ,show s.2.toNat=3 by omega]
  ·rw [h3,show s.2.toNat=p.length by omega]
 ·subst hv
  refine Ret.bind (P:=(· = outI u)) ?_ fun v hv => .pure hv
  have hln:=regsN_len (u:=u) p.length
  refine Ret.loop (fun s=>(0<=s.2/\s.2<=3)/\s.1=regsN u p.length++(List.range s.2.toNat).map fun g:Nat=>Z3b.get u.mem g) (fun s=>((3:Int)-s.2).toNat) ⟨⟨Int.le_refl _,(by decide:(0:Int)<=3)⟩,by simp⟩ fun s ⟨⟨a1,a2⟩,a3⟩ => ?_
  unfold F_impl_values_outcome_L44
  refine .bifD (fun hlt => ?_) fun hge => .pure ?_
  ·obtain ⟨l,j⟩:=s
   simp only at a1 a2 a3 hlt
   obtain ⟨g,rfl⟩:∃ g:Nat,j=g:=⟨j.toNat,by omega⟩
   simp only [Int.toNat_natCast] at a3
   subst a3
   have hv:=h.mv g (by omega)
   refine .gdD ⟨by omega,hlt⟩ (.gdI (by first | omega | (simp only [];omega)) (.gd (capOK_le (by simp;omega) rfl) (.gdI (by omega) (.pure ⟨⟨⟨by simp only [];omega,by simp only [];omega⟩,?_⟩,by simp only [];omega⟩))))
   simp only []
   rw [show ((g:Int)+1).toNat=g+1 by omega,List.range_succ,List.map_append,<- List.append_assoc]
   rfl
  ·rw [a3,show s.2.toNat=3 by omega]
   unfold outI memL
   rw [h.up]
theorem keyI_ret (u:ZVa):Ret (F_impl_seq_key ⟨u⟩) (· = strOfNums (keyL u)):=by
 unfold F_impl_seq_key F_impl_values_text
 refine Ret.bind (P:=(· = strOfNums (keyL u))) (.gd rfl ?_) fun v hv => .pure hv
 refine Ret.bind (P:=fun l=>l=[u.pc.x0,u.pc.x1,u.pc.x2,u.reg.x0.x0,u.reg.x0.x1,u.reg.x0.x2,u.reg.x1.x0,u.reg.x1.x1,u.reg.x1.x2,u.reg.x2.x0,u.reg.x2.x1,u.reg.x2.x2]) ?_ fun v hv => ?_
 ·refine Ret.of (v:=[u.pc.x0,u.pc.x1,u.pc.x2,u.reg.x0.x0,u.reg.x0.x1,u.reg.x0.x2,u.reg.x1.x0,u.reg.x1.x1,u.reg.x1.x2,u.reg.x2.x0,u.reg.x2.x1,u.reg.x2.x2]) ?_ rfl
  exact loopO_run (step:=F_impl_values_text_L7 u) (fun i=>match i with
   | 0=>([u.pc.x0,u.pc.x1,u.pc.x2],0)
   | 1=>([u.pc.x0,u.pc.x1,u.pc.x2,u.reg.x0.x0,u.reg.x0.x1,u.reg.x0.x2],1)
   | 2=>([u.pc.x0,u.pc.x1,u.pc.x2,u.reg.x0.x0,u.reg.x0.x1,u.reg.x0.x2,u.reg.x1.x0,u.reg.x1.x1,u.reg.x1.x2],2)
   | _=>([u.pc.x0,u.pc.x1,u.pc.x2,u.reg.x0.x0,u.reg.x0.x1,u.reg.x0.x2,u.reg.x1.x0,u.reg.x1.x1,u.reg.x1.x2,u.reg.x2.x0,u.reg.x2.x1,u.reg.x2.x2],3)) 3 (fun i hi=>match i,hi with
   | 0,_=>rfl
   | 1,_=>rfl
   | 2,_=>rfl) rfl
 ·subst hv
  exact .gd rfl (.pure rfl)
theorem strOfNums_inj:∀ {l k:List Int},(∀ x∈l,0<=x/\x<=255)->(∀ x∈k,0<=x/\x<=255)->strOfNums l=strOfNums k->l=k:=fun {l k} hl hk h=>by
 have h1:(l.map fun n=>UInt8.ofNat n.toNat)=k.map fun n=>UInt8.ofNat n.toNat:=by
  rw [<- strOfNums_data,<- strOfNums_data,h]
 have h2:(l.map fun n=>UInt8.ofNat n.toNat).map (fun b=>(b.toNat:Int))=(k.map fun n=>UInt8.ofNat n.toNat).map (fun b=>(b.toNat:Int)):=by rw [h1]
 have back:∀ l:List Int,(∀ x∈l,0<=x/\x<=255)->(l.map fun n=>UInt8.ofNat n.toNat).map (fun b=>(b.toNat:Int))=l:=fun l hl=>by
  rw [List.map_map]
  conv=>rhs;rw [<- List.map_id l]
  refine List.map_congr_left fun x hx => ?_
  have := hl x hx
  simp only [Function.comp,UInt8.toNat_ofNat',id]
  omega
 rwa [back l hl,back k hk] at h2
theorem Iv.keyL (hp:PV p) (h:Iv p u):∃ d:List Nat,Go.Proofs.Ytlgfihlflchhgaa.keyL u=d.map Int.ofNat/\d.length=15/\∀ x∈d.zip [8,8,8,4,4,4,4,4,4,4,4,4,4,4,4],x.1<x.2:=by
 have e:∀ x:Int,0<=x->x=Int.ofNat x.toNat:=fun x hx=>(Int.toNat_of_nonneg hx).symm
 have hv:=hp.vs.2
 have p0:=h.pc 0 (by decide);have p1:=h.pc 1 (by decide);have p2:=h.pc 2 (by decide)
 have v0:=hv 0;have v1:=hv 1;have v2:=hv 2
 have r00:=h.rv 0 0 (by decide) (by decide);have r01:=h.rv 0 1 (by decide) (by decide);have r02:=h.rv 0 2 (by decide) (by decide)
 have r10:=h.rv 1 0 (by decide) (by decide);have r11:=h.rv 1 1 (by decide) (by decide);have r12:=h.rv 1 2 (by decide) (by decide)
 have r20:=h.rv 2 0 (by decide) (by decide);have r21:=h.rv 2 1 (by decide) (by decide);have r22:=h.rv 2 2 (by decide) (by decide)
 have m0:=h.mv 0 (by decide);have m1:=h.mv 1 (by decide);have m2:=h.mv 2 (by decide)
 change 0<=u.pc.x0/\u.pc.x0<=_ at p0
 change 0<=u.pc.x1/\u.pc.x1<=_ at p1
 change 0<=u.pc.x2/\u.pc.x2<=_ at p2
 change 0<=u.reg.x0.x0/\u.reg.x0.x0<=_ at r00
 change 0<=u.reg.x0.x1/\u.reg.x0.x1<=_ at r01
 change 0<=u.reg.x0.x2/\u.reg.x0.x2<=_ at r02
 change 0<=u.reg.x1.x0/\u.reg.x1.x0<=_ at r10
 change 0<=u.reg.x1.x1/\u.reg.x1.x1<=_ at r11
 change 0<=u.reg.x1.x2/\u.reg.x1.x2<=_ at r12
 change 0<=u.reg.x2.x0/\u.reg.x2.x0<=_ at r20
 change 0<=u.reg.x2.x1/\u.reg.x2.x1<=_ at r21
 change 0<=u.reg.x2.x2/\u.reg.x2.x2<=_ at r22
 change 0<=u.mem.x0/\u.mem.x0<=_ at m0
 change 0<=u.mem.x1/\u.mem.x1<=_ at m1
 change 0<=u.mem.x2/\u.mem.x2<=_ at m2
 refine ⟨(Go.Proofs.Ytlgfihlflchhgaa.keyL u).map Int.toNat,?_,rfl,?_⟩
 ·unfold Go.Proofs.Ytlgfihlflchhgaa.keyL
  simp only [List.map_cons,List.map_nil]
  rw [<- e _ p0.1,<- e _ p1.1,<- e _ p2.1,<- e _ r00.1,<- e _ r01.1,<- e _ r02.1,<- e _ r10.1,<- e _ r11.1,<- e _ r12.1,<- e _ r20.1,<- e _ r21.1,<- e _ r22.1,<- e _ m0.1,<- e _ m1.1,<- e _ m2.1]
 ·unfold Go.Proofs.Ytlgfihlflchhgaa.keyL
  simp only [List.map_cons,List.map_nil,List.zip_cons_cons,List.zip_nil_left,List.mem_cons,List.not_mem_nil,or_false,forall_eq_or_imp,forall_eq]
  refine ⟨?_,?_,?_,?_,?_,?_,?_,?_,?_,?_,?_,?_,?_,?_,?_⟩ <;> omega
theorem keyL_inj {u v:ZVa} (hp:u.p=v.p) (h:keyL u=keyL v):u=v:=by
 obtain ⟨p,⟨a0,a1,a2⟩,⟨⟨b0,b1,b2⟩,⟨c0,c1,c2⟩,⟨d0,d1,d2⟩⟩,⟨e0,e1,e2⟩⟩:=u
 obtain ⟨p',⟨a0',a1',a2'⟩,⟨⟨b0',b1',b2'⟩,⟨c0',c1',c2'⟩,⟨d0',d1',d2'⟩⟩,⟨e0',e1',e2'⟩⟩:=v
 simp only [keyL,List.cons.injEq,and_true] at h
 obtain ⟨rfl,rfl,rfl,rfl,rfl,rfl,rfl,rfl,rfl,rfl,rfl,rfl,rfl,rfl,rfl⟩:=h
 simp only at hp
 subst hp
 rfl
end
end Go.Proofs.Ytlgfihlflchhgaa
namespace Go.Proofs.Ytlgfihlflchhgaa
open Go.RowKit
set_option maxRecDepth 100000
section
variable {p:List (List ZIn)} {u:ZVa}
theorem Iv.ins (hp:PV p) (h:Iv p u) {t:Nat} (ht:t<p.length) (hc:canI u t=true):InR (insI u t):=by
 have hl:=hp.vs.1
 have h1:=h.pc t (by omega)
 unfold canI at hc
 rw [h.up] at hc
 have hc:=of_decide_eq_true hc
 unfold insI
 rw [h.up,Int.toNat_natCast]
 exact hp.ins t _ ht (by omega)
theorem afterI (hp:PV p) (h:Iv p u) {t:Nat} (ht:t<p.length) (hc:canI u t=true):Ret (F_impl_seq_after ⟨u⟩ t) (· = ⟨aftI u t (insI u t)⟩):=by
 have hl:=hp.vs.1
 have hr7:=hp.vs.2 t
 have h1:=h.pc t (by omega)
 have hx:=h.ins hp ht hc
 unfold F_impl_seq_after
 refine (nextI hp h ht).bind fun v ⟨e1,e2⟩ => ?_
 have e3:=e2 (e1.trans hc)
 rw [<- e3] at hx ⊢
 generalize v.1=x at hx ⊢
 obtain ⟨x1,x2,x3,x4,x5,x6⟩:=hx
 refine .gdD ⟨by omega,by omega⟩ (.gdY (by simp only [];omega) ?_)
 refine Ret.bind (P:=(· = valI u t x)) ?_ fun v4 hv4 => ?_
 ·unfold F_impl_values_stored valI
  refine .bif (fun ho => .gdD ⟨by omega,by omega⟩ (.gdD ⟨x3,by simp only [];omega⟩ (.pure ?_))) fun ho => .gdY (by simp only [];omega) (.pure ?_)
  ·rw [if_pos (by simpa using ho)]
  ·rw [if_neg (by simpa using ho)]
 subst hv4
 refine Ret.bind (P:=fun w=>(⟨⟨w.1,w.2.1,w.2.2.1⟩,⟨w.2.2.2.1,w.2.2.2.2.1,w.2.2.2.2.2.1⟩,⟨w.2.2.2.2.2.2.1,w.2.2.2.2.2.2.2.1,w.2.2.2.2.2.2.2.2⟩⟩:Z33)=if rdX x=true then Z33.set u.reg t (Z3b.set (Z33.get u.reg t) x.Reg (Z3b.get u.mem x.Loc)) else u.reg) ?_ fun w5 hw5 => ?_
 ·refine (ireads _).bind fun b hb => ?_
  have hb':b=rdX x:=hb
  refine .bif (fun hc => .gdD ⟨x1,by omega⟩ (.gdD ⟨x3,by omega⟩ (.pure ?_))) fun hc => .pure ?_
  ·rw [if_pos (by rw [<- hb'];exact hc)]
  ·rw [if_neg (by rw [<- hb',hc];decide)]
 refine Ret.bind (P:=fun w=>(⟨w.1,w.2.1,w.2.2⟩:Z3b)=if wrX x=true then Z3b.set u.mem x.Loc (valI u t x) else u.mem) ?_ fun w10 hw10 => .pure ?_
 ·refine (iwrites _).bind fun b hb => ?_
  have hb':b=wrX x:=hb
  refine .bif (fun hc => .gdD ⟨x1,by omega⟩ (.pure ?_)) fun hc => .pure ?_
  ·rw [if_pos (by rw [<- hb'];exact hc)]
  ·rw [if_neg (by rw [<- hb',hc];decide)]
 ·unfold aftI
  rw [hw5,hw10]
theorem Iv.after (h:Iv p u) {t:Nat} (ht:t<3) (hc:canI u t=true) {x:ZIn} (hx:InR x):Iv p (aftI u t x):=by
 obtain ⟨x1,x2,x3,x4,x5,x6⟩:=hx
 obtain ⟨l,hlx⟩:∃ l:Nat,x.Loc=l:=⟨x.Loc.toNat,by omega⟩
 obtain ⟨g,hgx⟩:∃ g:Nat,x.Reg=g:=⟨x.Reg.toNat,by omega⟩
 unfold canI at hc
 rw [h.up] at hc
 have hc:=of_decide_eq_true hc
 have hvv:0<=valI u t x/\valI u t x<=3:=by
  unfold valI
  split
  ·rw [hgx]
   exact h.rv t g ht (by omega)
  ·omega
 unfold aftI
 refine ⟨h.up,fun i hi => ?_,fun t' g' ht' hg' => ?_,fun l' hl' => ?_⟩
 ·simp only []
  rw [get_set3 _ _ _ _ (by omega) (by omega)]
  by_cases e:i=t
  ·subst e
   have := h.pc i hi
   rw [if_pos rfl]
   omega
  ·rw [if_neg (by omega)]
   exact h.pc i hi
 ·simp only []
  split
  ·rw [get_set33 _ _ _ _ (by omega) (by omega)]
   by_cases e:t'=t
   ·subst e
    rw [if_pos rfl,hgx,get_set3 _ _ _ _ (by omega) (by omega)]
    by_cases e2:g'=g
    ·subst e2
     rw [if_pos rfl,hlx]
     exact h.mv l (by omega)
    ·rw [if_neg (by omega)]
     exact h.rv t' g' ht' hg'
   ·rw [if_neg (by omega)]
    exact h.rv t' g' ht' hg'
  ·exact h.rv t' g' ht' hg'
 ·simp only []
  split
  ·rw [hlx,get_set3 _ _ _ _ (by omega) (by omega)]
   split
   ·exact hvv
   ·exact h.mv l' hl'
  ·exact h.mv l' hl'
def v0 (p:List (List ZIn)):ZVa:=⟨p,⟨0,0,0⟩,⟨⟨0,0,0⟩,⟨0,0,0⟩,⟨0,0,0⟩⟩,⟨0,0,0⟩⟩
theorem z3 (i:Int):Z3b.get ⟨0,0,0⟩ i=0:=by
 simp only [Z3b.get]
 split <;> (try split) <;> rfl
theorem z33 (i:Int):Z33.get ⟨⟨0,0,0⟩,⟨0,0,0⟩,⟨0,0,0⟩⟩ i=⟨0,0,0⟩:=by
 simp only [Z33.get]
 split <;> (try split) <;> rfl
theorem Iv.start (p:List (List ZIn)):Iv p (v0 p):=by
 refine ⟨rfl,fun t _ => ?_,fun t g _ _ => ?_,fun l _ => ?_⟩
 ·unfold v0;simp only [z3];omega
 ·unfold v0;simp only [z33,z3];decide
 ·unfold v0;simp only [z3];decide
theorem seq_iv (hp:PV p) {s0 s:ZSq} (h0:Iv p s0.values) (h:Rea seqM s0 s):Iv p s.values:=by
 induction h with
 | base=>exact h0
 | step _ hm ih=>
  obtain ⟨t,h1,rfl,h2⟩:=movN_mem.1 hm
  rw [ih.up] at h1
  have hl:=hp.vs.1
  exact ih.after (by omega) h2 (ih.ins hp h1 h2)
def bas:List Nat:=[8,8,8,4,4,4,4,4,4,4,4,4,4,4,4]
def dig (u:ZVa):List (Nat×Nat):=((keyL u).map Int.toNat).zip bas
theorem dig_snd (u:ZVa):(dig u).map (·.2)=bas:=rfl
theorem dig_fst (u:ZVa):(dig u).map (·.1)=(keyL u).map Int.toNat:=rfl
theorem prodN_eq:∀ l:List (Nat×Nat),prodN l=(l.map (·.2)).foldr (· * ·) 1
 | []=>rfl
 | (_,b)::l=>congrArg (b * ·) (prodN_eq l)
theorem dig_prod (u:ZVa):prodN (dig u)=8589934592:=by
 rw [prodN_eq,dig_snd]
 decide
theorem digits (hp:PV p) (h:Iv p u):∀ x∈dig u,x.1<x.2:=by
 obtain ⟨d,h1,_,h2⟩:=h.keyL hp
 unfold dig
 rw [h1,List.map_map]
 have : d.map (Int.toNat ∘ Int.ofNat)=d:=by
  conv=>rhs;rw [<- List.map_id d]
  exact List.map_congr_left fun _ _=>rfl
 rw [this]
 exact h2
theorem dig_inj (hp:PV p) {u v:ZVa} (hu:Iv p u) (hv:Iv p v) (h:codeN (dig u)=codeN (dig v)):(keyL u).map Int.toNat=(keyL v).map Int.toNat:=by
 rw [<- dig_fst,<- dig_fst,codeN_inj (dig u) (dig v) ((dig_snd u).trans (dig_snd v).symm) (digits hp hu) (digits hp hv) h]
theorem key255 (hp:PV p) (h:Iv p u):∀ x∈keyL u,0<=x/\x<=255:=by
 obtain ⟨d,h1,h3,h2⟩:=h.keyL hp
 rw [h1]
 intro x hx
 obtain ⟨n,hn,rfl⟩:=List.mem_map.1 hx
 obtain ⟨j,hj,rfl⟩:=List.getElem_of_mem hn
 have hz:j<(d.zip [8,8,8,4,4,4,4,4,4,4,4,4,4,4,4]).length:=by simp;omega
 have h4:=h2 _ (List.getElem_mem hz)
 rw [List.getElem_zip] at h4
 have h5:∀ b∈[8,8,8,4,4,4,4,4,4,4,4,4,4,4,4],b<=8:=by decide
 have h6:=h5 _ (List.getElem_mem (l:=[8,8,8,4,4,4,4,4,4,4,4,4,4,4,4]) (n:=j) (by simp;omega))
 simp only at h4
 constructor
 ·exact Int.natCast_nonneg _
 ·show ((d[j]:Nat):Int)<=255
  omega
theorem keyL_nat (hp:PV p) {u v:ZVa} (hu:Iv p u) (hv:Iv p v) (h:(keyL u).map Int.toNat=(keyL v).map Int.toNat):keyL u=keyL v:=by
 have back:∀ l:List Int,(∀ x∈l,0<=x/\x<=255)->(l.map Int.toNat).map Int.ofNat=l:=fun l hl=>by
  rw [List.map_map]
  conv=>rhs;rw [<- List.map_id l]
  refine List.map_congr_left fun x hx => ?_
  exact Int.toNat_of_nonneg (hl x hx).1
 rw [<- back _ (key255 hp hu),<- back _ (key255 hp hv),h]
theorem seq_mok (hp:PV p) {s0:ZSq} (h0:Iv p s0.values):Mok seqM s0 8589934592 where
 key:=fun s t hs ht h=>by
  have h1:=seq_iv hp h0 hs
  have h2:=seq_iv hp h0 ht
  have := keyL_inj (h1.up.trans h2.up.symm) (strOfNums_inj (key255 hp h1) (key255 hp h2) h)
  cases s;cases t
  simp only at this
  rw [this]
 cnt:=fun V hn hV=>by
  have hI:∀ v∈V,Iv p v.values:=fun v hv=>seq_iv hp h0 (hV v hv)
  refine nodup_le (fun v=>codeN (dig v.values)) _ V hn (fun v hv => ?_) fun s hs t ht h => ?_
  ·have := codeN_lt _ (digits hp (hI v hv))
   rwa [dig_prod] at this
  ·have h3:=dig_inj hp (hI s hs) (hI t ht) h
   have := keyL_inj ((hI s hs).up.trans (hI t ht).up.symm) (keyL_nat hp (hI s hs) (hI t ht) h3)
   cases s;cases t
   simp only at this
   rw [this]
theorem seq_mrt (hp:PV p) {s0:ZSq} (h0:Iv p s0.values):Mrt F_impl_seq_moves F_impl_seq_after F_impl_seq_key F_impl_seq_done (fun s=>F_impl_values_outcome s.values) seqM s0 where
 mv:=fun s hs=>movesI hp (seq_iv hp h0 hs)
 af:=fun s m hs hm=>by
  have h1:=seq_iv hp h0 hs
  obtain ⟨t,h2,rfl,h3⟩:=movN_mem.1 hm
  rw [h1.up] at h2
  exact afterI hp h1 h2 h3
 ky:=fun s hs=>keyI_ret s.values
 dn:=fun s hs=>doneI hp (seq_iv hp h0 hs)
 oc:=fun s hs _=>outI_ret hp (seq_iv hp h0 hs)
 len:=fun s hs=>by
  have h1:=movN_len (u:=s.values) s.values.p.length
  have h2:=(seq_iv hp h0 hs).up
  have h3:=hp.vs.1
  rw [h2] at h1
  show (movI s.values).length<=_
  unfold movI
  rw [h2]
  omega
theorem outI_len (u:ZVa):(outI u).length=3*u.p.length+3:=by
 unfold outI memL
 rw [List.length_append,regsN_len]
 rfl
def SeqO (p:List (List ZIn)):List Int->Prop:=Outs seqM ⟨v0 p⟩
theorem reach_ret (hp:PV p):Ret (F_impl_reach__impl_seq ⟨v0 p⟩) fun q=>q.1.Pairwise ltL/\∀ o,o∈q.1↔SeqO p o:=by
 have h0:Iv p (⟨v0 p⟩:ZSq).values:=Iv.start p
 have e:F_impl_reach__impl_seq ⟨v0 p⟩=rchF F_impl_seq_moves F_impl_seq_after F_impl_seq_key F_impl_seq_done (fun s=>F_impl_values_outcome s.values) F_impl_sortedOutcomes ⟨v0 p⟩:=rfl
 rw [e]
 have hQ:∀ l:List (List Int),l.length<=8589934592->(∀ o∈l,SeqO p o)->Ret (F_impl_sortedOutcomes l) (Sor l):=fun l hl ho=>sorted_ret (by omega) fun r hr=>by
  obtain ⟨s,h1,_,rfl⟩:=ho r hr
  have h2:=(seq_iv hp h0 h1).up
  have h3:=hp.vs.1
  show (outI s.values).length<=_
  rw [outI_len,h2]
  omega
 refine (rch_ret (seq_mok hp h0) (seq_mrt hp h0) (by decide) hQ).mono fun q ⟨l,h1,h2,_⟩=>⟨h1.lt,fun o=>(h1.mem o).trans (h2 o)⟩
theorem runSeq_ret (hp:PV p) (hv:F_impl_ProgramValid p=some true):Ret (F_impl_RunSeq p) fun q=>q.Pairwise ltL/\∀ o,o∈q↔SeqO p o:=by
 unfold F_impl_RunSeq
 rw [hv]
 refine Ret.bind (P:=(· = true)) (.pure rfl) fun b hb => .bif (fun h=>absurd h (by rw [hb];decide)) fun _ => ?_
 exact Ret.bind (P:=fun s:ZSq=>s=⟨v0 p⟩) (.pure rfl) fun v hv=>Ret.bind (P:=fun q:List (List Int)×Int=>q.1.Pairwise ltL/\∀ o,o∈q.1↔SeqO p o) (hv ▸ reach_ret hp) fun q hq => .pure hq
theorem runSeq_bad (hv:F_impl_ProgramValid p=some false):F_impl_RunSeq p=some []:=by
 unfold F_impl_RunSeq
 rw [hv]
 rfl
end
end Go.Proofs.Ytlgfihlflchhgaa
namespace Go.Proofs.Ytlgfihlflchhgaa
open Go.RowKit
set_option maxRecDepth 100000
def sk (t j:Nat):Nat:=if j<t then j else j+1
theorem erase_getD {α:Type} [Inhabited α] (p:List α) (t j:Nat):(p.eraseIdx t).getD j default=p.getD (sk t j) default:=by
 rw [List.getD_eq_getElem?_getD,List.getD_eq_getElem?_getD,List.getElem?_eraseIdx]
 unfold sk
 split <;> rfl
structure Em (p:List (List ZIn)) (t:Nat) (s u:ZVa):Prop where
 sp:s.p=p.eraseIdx t
 up:u.p=p
 pc:∀ j:Nat,j+1<p.length->Z3b.get u.pc (sk t j)=Z3b.get s.pc j
 rg:∀ j:Nat,j+1<p.length->Z33.get u.reg (sk t j)=Z33.get s.reg j
 mem:u.mem=s.mem
section
variable {p:List (List ZIn)} {t:Nat} {s u:ZVa}
theorem Em.can (h:Em p t s u) {j:Nat} (hj:j+1<p.length):canI u (sk t j)=canI s j:=by
 unfold canI
 rw [h.pc j hj,h.up,h.sp,erase_getD]
theorem Em.ins (h:Em p t s u) {j:Nat} (hj:j+1<p.length):insI u (sk t j)=insI s j:=by
 unfold insI
 rw [h.pc j hj,h.up,h.sp,Int.toNat_natCast,Int.toNat_natCast,erase_getD]
theorem sk_inj {t i j:Nat}:sk t i=sk t j↔i=j:=by
 unfold sk
 split <;> split <;> omega
theorem sk_lt {t j n:Nat} (ht:t<n) (hj:j+1<n):sk t j<n:=by
 unfold sk
 split <;> omega
theorem sk_ne (t j:Nat):sk t j≠t:=by
 unfold sk
 split <;> omega
theorem Em.step (h:Em p t s u) (hl:p.length<=3) (ht:t<p.length) {j:Nat} (hj:j+1<p.length) (x:ZIn):Em p t (aftI s j x) (aftI u (sk t j) x):=by
 have h1:=sk_lt ht hj
 unfold aftI
 refine ⟨h.sp,h.up,fun i hi => ?_,fun i hi => ?_,?_⟩
 ·have h2:=sk_lt ht hi
  simp only []
  rw [get_set3 _ _ _ _ (by omega) (by omega),get_set3 _ _ _ _ (by omega) (by omega),h.pc i hi,h.pc j hj]
  by_cases e:i=j
  ·subst e;rw [if_pos rfl,if_pos rfl]
  ·have : ¬ sk t i=sk t j:=fun q=>e (sk_inj.1 q)
   rw [if_neg (by omega),if_neg (by omega)]
 ·have h2:=sk_lt ht hi
  simp only []
  split
  ·rw [get_set33 _ _ _ _ (by omega) (by omega),get_set33 _ _ _ _ (by omega) (by omega),h.rg i hi,h.rg j hj,h.mem]
   by_cases e:i=j
   ·subst e;rw [if_pos rfl,if_pos rfl]
   ·have : ¬ sk t i=sk t j:=fun q=>e (sk_inj.1 q)
    rw [if_neg (by omega),if_neg (by omega)]
  ·exact h.rg i hi
 ·simp only []
  unfold valI
  rw [h.mem,h.rg j hj]
theorem Em.start (p:List (List ZIn)) (t:Nat):Em p t (v0 (p.eraseIdx t)) (v0 p):=by
 refine ⟨rfl,rfl,fun j _ => ?_,fun j _ => ?_,rfl⟩
 ·unfold v0;simp only [z3]
 ·unfold v0;simp only [z33]
theorem Em.rea (hl:p.length<=3) (ht:t<p.length) {s:ZSq} (h:Rea seqM ⟨v0 (p.eraseIdx t)⟩ s):∃ u:ZSq,Rea seqM ⟨v0 p⟩ u/\Em p t s.values u.values:=by
 induction h with
 | base=>exact ⟨_,.base,Em.start p t⟩
 | step _ hm ih=>
  obtain ⟨u,hu,he⟩:=ih
  obtain ⟨j,h1,rfl,h2⟩:=movN_mem.1 hm
  have hj:j+1<p.length:=by
   rw [he.sp,List.length_eraseIdx,if_pos ht] at h1
   omega
  refine ⟨_,.step (m:=((sk t j:Nat):Int)) hu (movN_mem.2 ⟨sk t j,by rw [he.up];exact sk_lt ht hj,rfl,by rw [he.can hj,h2]⟩),?_⟩
  show Em p t (aftI _ j (insI _ j)) (aftI _ (sk t j) (insI _ (sk t j)))
  rw [he.ins hj]
  exact he.step hl ht hj _
def Pure (p:List (List ZIn)) (t:Nat):Prop:=∀ k:Nat,k<(p.getD t default).length->((p.getD t default).getD k default).Op=1\/((p.getD t default).getD k default).Op=4
theorem Em.own (hl:p.length<=3) (ht:t<p.length) (h:Em p t s u) {x:ZIn} (hw:wrX x=false):Em p t s (aftI u t x):=by
 unfold aftI
 refine ⟨h.sp,h.up,fun i hi => ?_,fun i hi => ?_,?_⟩
 ·have h2:=sk_lt ht hi
  have := sk_ne t i
  simp only []
  rw [get_set3 _ _ _ _ (by omega) (by omega),if_neg (by omega)]
  exact h.pc i hi
 ·have h2:=sk_lt ht hi
  have := sk_ne t i
  simp only []
  split
  ·rw [get_set33 _ _ _ _ (by omega) (by omega),if_neg (by omega)]
   exact h.rg i hi
  ·exact h.rg i hi
 ·simp only [hw]
  exact h.mem
theorem Em.fin (hp:PV p) (ht:t<p.length) (hpu:Pure p t):∀ (n:Nat) {s:ZVa} {u:ZSq},Rea seqM ⟨v0 p⟩ u->Em p t s u.values->((p.getD t default).length:Int)-Z3b.get u.values.pc t<=n->∃ u':ZSq,Rea seqM ⟨v0 p⟩ u'/\Em p t s u'.values/\canI u'.values t=false
 | 0,s,u,hu,he,hn=>⟨u,hu,he,by unfold canI;rw [he.up];exact decide_eq_false (by omega)⟩
 | n+1,s,u,hu,he,hn=>by
  cases hc:canI u.values t with
  | false=>exact ⟨u,hu,he,hc⟩
  | true=>
   have hl:=hp.vs.1
   have hI:=seq_iv hp (Iv.start p) hu
   have h1:=hI.pc t (by omega)
   have hlt:Z3b.get u.values.pc t<((p.getD t default).length:Int):=by
    unfold canI at hc
    rw [he.up] at hc
    exact of_decide_eq_true hc
   have hw:wrX (insI u.values t)=false:=by
    unfold insI wrX
    rw [he.up,Int.toNat_natCast]
    rcases hpu (Z3b.get u.values.pc t).toNat (by omega) with e | e <;> rw [e] <;> decide
   refine Em.fin hp ht hpu n (u:=seqM.af u t) (.step hu (movN_mem.2 ⟨t,by rw [he.up];exact ht,rfl,hc⟩)) ?_ ?_
   ·exact he.own hl ht hw
   ·show _-Z3b.get (aftI u.values t (insI u.values t)).pc t<=_
    unfold aftI
    simp only []
    rw [get_set3 _ _ _ _ (by omega) (by omega),if_pos rfl]
    omega
def cutO (t:Nat) (o:List Int):List Int:=o.take (3*t)++o.drop (3*t+3)
def rows3 (f:Nat->List Int) (n:Nat):List Int:=(List.range n).flatMap f
theorem rows3_len {f:Nat->List Int} (hf:∀ i,(f i).length=3) (n:Nat):(rows3 f n).length=3*n:=by
 induction n with
 | zero=>rfl
 | succ n ih=>
  unfold rows3 at ih ⊢
  rw [List.range_succ,List.flatMap_append,List.length_append,ih]
  simp [hf]
  omega
theorem rows3_add (f:Nat->List Int) (a b:Nat):rows3 f (a+b)=rows3 f a++rows3 (fun i=>f (a+i)) b:=by
 unfold rows3
 rw [List.range_add,List.flatMap_append,List.flatMap_map]
theorem rows3_congr {f g:Nat->List Int} {n:Nat} (h:∀ i,i<n->f i=g i):rows3 f n=rows3 g n:=by
 induction n with
 | zero=>rfl
 | succ n ih=>
  have := ih fun i hi=>h i (by omega)
  unfold rows3 at this ⊢
  rw [List.range_succ,List.flatMap_append,List.flatMap_append,this]
  simp [h n (by omega)]
theorem Em.out (ht:t<p.length) (h:Em p t s u):cutO t (outI u)=outI s:=by
 obtain ⟨m,hm⟩:∃ m,p.length=t+(1+m):=⟨p.length-t-1,by omega⟩
 have hs:(p.eraseIdx t).length=t+m:=by
  rw [List.length_eraseIdx,if_pos ht]
  omega
 have e1:∀ v:ZVa,∀ n,regsN v n=rows3 (fun t:Nat=>(List.range 3).map fun g:Nat=>Z3b.get (Z33.get v.reg t) g) n:=fun _ _=>rfl
 have hf:∀ v:ZVa,∀ i:Nat,((List.range 3).map fun g:Nat=>Z3b.get (Z33.get v.reg i) g).length=3:=fun _ _=>by simp
 unfold outI
 rw [h.up,h.sp,hs,hm,e1,e1,rows3_add,rows3_add,rows3_add]
 have l1:=rows3_len (hf u) t
 have l2:=rows3_len (fun i=>hf u (t+i)) 1
 have c1:rows3 (fun t:Nat=>(List.range 3).map fun g:Nat=>Z3b.get (Z33.get u.reg t) g) t=rows3 (fun t:Nat=>(List.range 3).map fun g:Nat=>Z3b.get (Z33.get s.reg t) g) t:=rows3_congr fun i hi=>by
  have := h.rg i (by omega)
  rw [show sk t i=i from if_pos hi] at this
  rw [this]
 have c2:rows3 (fun i:Nat=>(List.range 3).map fun g:Nat=>Z3b.get (Z33.get u.reg ((t+(1+i):Nat):Int)) g) m=rows3 (fun i:Nat=>(List.range 3).map fun g:Nat=>Z3b.get (Z33.get s.reg ((t+i:Nat):Int)) g) m:=rows3_congr fun i hi=>by
  have := h.rg (t+i) (by omega)
  rw [show sk t (t+i)=t+(1+i) by unfold sk;rw [if_neg (by omega)];omega] at this
  rw [this]
 have hmem:memL u=memL s:=by unfold memL;rw [h.mem]
 unfold cutO
 rw [c2,c1,hmem]
 rw [c1] at l1
 generalize rows3 (fun t:Nat=>(List.range 3).map fun g:Nat=>Z3b.get (Z33.get s.reg t) g) t=A at *
 generalize rows3 (fun i:Nat=>(List.range 3).map fun g:Nat=>Z3b.get (Z33.get u.reg ((t+i:Nat):Int)) g) 1=B at *
 generalize rows3 (fun i:Nat=>(List.range 3).map fun g:Nat=>Z3b.get (Z33.get s.reg ((t+i:Nat):Int)) g) m=C at *
 rw [List.append_assoc,List.take_append_of_le_length (by omega),List.take_of_length_le (by omega),List.drop_append,List.drop_of_length_le (by omega),List.nil_append,List.append_assoc,List.drop_append_of_le_length (by omega),List.drop_of_length_le (by omega),List.nil_append,List.append_assoc]
theorem drop_out (hp:PV p) (ht:t<p.length) (hpu:Pure p t) {o:List Int} (h:SeqO (p.eraseIdx t) o):∃ o',SeqO p o'/\cutO t o'=o:=by
 obtain ⟨s,h1,h2,rfl⟩:=h
 have hl:=hp.vs.1
 obtain ⟨u,h3,h4⟩:=Em.rea hl ht h1
 obtain ⟨u',h5,h6,h7⟩:=Em.fin hp ht hpu (((p.getD t default).length:Int)-Z3b.get u.values.pc t).toNat h3 h4 (by omega)
 refine ⟨_,⟨u',h5,?_,rfl⟩,h6.out ht⟩
 show (movI u'.values).isEmpty=true
 cases hm:movI u'.values with
 | nil=>rfl
 | cons m l=>
  exfalso
  obtain ⟨i,g1,_,g2⟩:=movN_mem.1 (show m∈movI u'.values by rw [hm];exact List.mem_cons_self)
  rw [h6.up] at g1
  have hne:i≠t:=by rintro rfl;rw [h7] at g2;cases g2
  obtain ⟨j,hj,rfl⟩:∃ j,j+1<p.length/\i=sk t j:=by
   rcases Nat.lt_or_gt_of_ne hne with e | e
   ·exact ⟨i,by omega,(if_pos e).symm⟩
   ·exact ⟨i-1,by omega,by unfold sk;rw [if_neg (by omega)];omega⟩
  rw [h6.can hj] at g2
  have : (j:Int)∈movI s.values:=movN_mem.2 ⟨j,by rw [h6.sp,List.length_eraseIdx,if_pos ht];omega,rfl,g2⟩
  have h2:(movI s.values).isEmpty=true:=h2
  rw [List.isEmpty_iff.1 h2] at this
  cases this
theorem fewer {a b:List (List Int)} {f:List Int->List Int} (hb:b.Pairwise ltL) (h:∀ o∈b,∃ o',o'∈a/\f o'=o):b.length<=a.length:=by
 have hn:b.Nodup:=hb.imp fun h=>ltL_ne h
 have := List.Nodup.length_le_of_subset hn (l₂:=a.map f) fun o ho=>by
  obtain ⟨o',h1,h2⟩:=h o ho
  exact List.mem_map.2 ⟨o',h1,h2⟩
 simpa using this
end
end Go.Proofs.Ytlgfihlflchhgaa
namespace Go.Proofs.Ytlgfihlflchhgaa
open Go.RowKit
set_option maxRecDepth 100000
theorem ofP_toP' (p:List (List ZIn)):ofP (toP p)=p:=by
 simp only [toP,ofP,List.map_map]
 have : ((fun r=>List.map ofIns r) ∘ fun r=>List.map toIns r)=(id:List ZIn->List ZIn):=by
  funext l
  simp only [Function.comp,List.map_map]
  exact List.map_id l
 rw [this,List.map_id]
theorem draw34 {b:List Int} (hb:Bts b):Ret (F_spec_DrawDropThread b) fun v=>Sm v.1:=by
 unfold F_spec_DrawDropThread
 refine Ret.bind (P:=fun v:List (List ZIn)×Int×Int=>Sm v.1) ?_ fun v hv => .pure hv
 unfold F_spec_l12Two
 exact (open_ret hb).bind fun r h=>(l8Small_ret h.mk' (by omega)).bind fun v ⟨a1,a2⟩=>(l1Mutate_ret a1.mk' (by omega) a2).bind fun u ⟨b1,b2⟩=>(num_ret b1.mk' (by omega) _ (by simp)).bind fun x ⟨c1,_⟩=>(num_ret c1.mk' (by omega) _ (by simp)).bind fun y _ => .pure b2
theorem Sm.erase {p:List (List ZIn)} (h:Sm p) (t:Nat):Sm (p.eraseIdx t):=
 ⟨Nat.le_trans (List.length_eraseIdx_le _ _) h.1,fun r hr=>h.2 r (List.mem_of_mem_eraseIdx hr)⟩
theorem runSeq_all {p:List (List ZIn)} (hp:Sm p):Ret (F_impl_RunSeq p) fun q=>(F_impl_ProgramValid p=some false->q=[])/\(validB (toP p)=true->q.Pairwise ltL/\∀ o,o∈q↔SeqO p o):=by
 have e:F_impl_ProgramValid p=some (validB (toP p)):=gd_true (decide_eq_true hp.sz)
 cases hv:validB (toP p) with
 | true=>
  rw [hv] at e
  exact (runSeq_ret (PV.of hv) e).mono fun q hq=>⟨fun h=>absurd (e.symm.trans h) (by simp),fun _=>hq⟩
 | false=>
  rw [hv] at e
  exact .of (runSeq_bad e) ⟨fun _=>rfl,nofun⟩
theorem law34 {b:List Int} (hb:Bts b):F_laws_FnDropThread b=some true:=by
 refine Ret.eq ?_
 unfold F_laws_FnDropThread
 refine .bifD (fun _ => .pure rfl) fun _=>(draw34 hb).bind fun v hp => ?_
 obtain ⟨p,t⟩:=v
 simp only at hp ⊢
 have hsz:=hp.sz
 have hi:F_impl_DropThread p t=some (ofP (dropR (toP p) t).1,(dropR (toP p) t).2):=gd_true (decide_eq_true hsz)
 have hs:F_spec_DropThread p t=some (ofP (dropR (toP p) t).1,(dropR (toP p) t).2):=gd_true (decide_eq_true hsz)
 refine (Ret.of (P:=(· = (ofP (dropR (toP p) t).1,(dropR (toP p) t).2))) hi rfl).bind fun v3 h3=>(Ret.of (P:=(· = (ofP (dropR (toP p) t).1,(dropR (toP p) t).2))) hs rfl).bind fun v4 h4 => ?_
 subst h3 h4
 by_cases hd:(thrB (toP p) t&&decide ((toP p).length≠1))=true
 ·obtain ⟨n,hn,rfl⟩:∃ n:Nat,n<p.length/\t=n:=by
   simp only [thrB,inB,Bool.and_eq_true,decide_eq_true_eq,toP,List.length_map] at hd
   exact ⟨t.toNat,by omega,by omega⟩
  have hv:validB (toP p)=true:=by
   simp only [thrB,Bool.and_eq_true] at hd
   exact hd.1.1
  have e:(ofP (dropR (toP p) (n:Int)).1,(dropR (toP p) (n:Int)).2)=(p.eraseIdx n,true):=by
   unfold dropR
   rw [if_pos hd]
   simp only [Int.toNat_natCast]
   have : (toP p).eraseIdx n=toP (p.eraseIdx n):=by
    show (p.map _).eraseIdx n=(p.eraseIdx n).map _
    rw [List.eraseIdx_eq_take_drop_succ,List.eraseIdx_eq_take_drop_succ,List.map_append,List.map_take,List.map_drop]
   rw [this,ofP_toP']
  rw [e]
  have hq:=hp.erase n
  have hsame:=same_ret (p.eraseIdx n) hq.sz.1 fun r hr=>by have := (hq.2 r hr).1;omega
  refine Ret.bind (P:=(· = false)) (.bif (fun h=>by cases h) fun _=>hsame.bind fun v hv => .pure (by rw [hv];rfl)) fun s5 h5 => ?_
  subst h5
  refine Ret.bind (P:=(· = false)) (.bif (fun h=>by cases h) fun _ => .pure rfl) fun s8 h8 => ?_
  subst h8
  refine .bif (fun h=>by cases h) fun _ => ?_
  refine (runSeq_all hp).bind fun a ⟨_,ha⟩=>(runSeq_all hq).bind fun c ⟨hc1,hc2⟩ => ?_
  have hPV:=PV.of hv
  refine Ret.bind (P:=fun s:Bool=>s=true->Pure p n) ?_ fun s16 h16 => .gdI (by have := hp.1;omega) ?_
  ·have hrow:(p.getD n default).length<=9:=hp.row n
   refine Ret.loop (fun s=>(0<=s.1/\s.1<=((p.getD n default).length:Int))/\(s.2=true->∀ k:Nat,(k:Int)<s.1->((p.getD n default).getD k default).Op=1\/((p.getD n default).getD k default).Op=4)) (fun s=>(((p.getD n default).length:Int)-s.1).toNat) ⟨⟨Int.le_refl _,by simp⟩,fun _ k hk=>absurd hk (by simp only [];omega)⟩ fun s ⟨⟨h1,h2⟩,h3⟩ => ?_
   unfold F_laws_FnDropThread_L20
   simp only [Int.toNat_natCast]
   refine .gdD ⟨by omega,by omega⟩ (.bifD (fun hlt => ?_) fun hge => .pure fun h k hk=>h3 h k (by omega))
   refine Ret.bind (P:=fun b:Bool=>b=true->s.2=true/\(((p.getD n default).getD s.1.toNat default).Op=1\/((p.getD n default).getD s.1.toNat default).Op=4)) ?_ fun b hb => .gdI (by omega) (.pure ⟨⟨⟨by simp only [];omega,by simp only [];omega⟩,fun h k hk => ?_⟩,by simp only [];omega⟩)
   ·refine .bif (fun hs => .gdD ⟨h1,hlt⟩ (Ret.bind (P:=fun b:Bool=>b=true->((p.getD n default).getD s.1.toNat default).Op=1\/((p.getD n default).getD s.1.toNat default).Op=4) (.bif (fun h => .pure fun _ => .inl (by simpa using h)) fun _ => .pure fun h => .inr (by simpa using h)) fun b hb => .pure fun h=>⟨hs,hb h⟩)) fun _ => .pure nofun
   ·obtain ⟨g1,g2⟩:=hb h
    by_cases ek:k=s.1.toNat
    ·rw [ek];exact g2
    ·exact h3 g1 k (by simp only [] at hk;omega)
  ·have hlen:(((p.eraseIdx n).length:Int)==(p.length:Int)-1)=true:=by
    rw [List.length_eraseIdx,if_pos hn]
    simp only [beq_iff_eq]
    omega
   refine Ret.bind (P:=(· = true)) (.bif (fun _ => ?_) fun h=>by rw [hlen] at h;cases h) fun s hs => .pure hs
   refine Ret.bind (P:=(· = true)) (.bif (fun _ => .pure rfl) fun h => .pure (decide_eq_true ?_)) fun s hs => .pure hs
   have hpu:=h16 (by simpa using h)
   cases hvq:validB (toP (p.eraseIdx n)) with
   | false=>
    have e2:F_impl_ProgramValid (p.eraseIdx n)=some (validB (toP (p.eraseIdx n))):=gd_true (decide_eq_true hq.sz)
    rw [hvq] at e2
    rw [hc1 e2]
    exact Int.natCast_nonneg _
   | true=>
    obtain ⟨c1,c2⟩:=hc2 hvq
    obtain ⟨a1,a2⟩:=ha hv
    have := fewer (f:=cutO n) (a:=a) c1 fun o ho=>by
     obtain ⟨o',g1,g2⟩:=drop_out hPV hn hpu ((c2 o).1 ho)
     exact ⟨o',(a2 o').2 g1,g2⟩
    omega
 ·have e:dropR (toP p) t=([],false):=by unfold dropR;rw [if_neg hd]
  rw [e]
  have hsame:=same_ret (ofP []) (by decide) (fun r hr=>by cases hr)
  refine Ret.bind (P:=(· = false)) (.bif (fun h=>by cases h) fun _=>hsame.bind fun v hv => .pure (by rw [hv];rfl)) fun s5 h5 => ?_
  subst h5
  refine Ret.bind (P:=(· = true)) (.bif (fun h=>by cases h) fun _ => .pure rfl) fun s8 h8 => ?_
  subst h8
  refine .bif (fun _ => ?_) fun h=>by cases h
  exact Ret.bind (P:=(· = true)) (.bif (fun _=>hsame.bind fun v hv => .pure hv) fun h=>by cases h) fun s hs => .pure hs
end Go.Proofs.Ytlgfihlflchhgaa
