/-
 The first schedule of any candidate: impl and spec find the same, or none. Plain theorems. No conditions.
-/
import Derived.Test.YtlmjnhnpahicmaaDt8
namespace Go.Proofs.Ytlmjnhnpahicmaa
open Go.RowKit
set_option maxRecDepth 100000
section
variable {p:List (List ZIn)} {x:XS} {F:List Int}
structure TrC (p:List (List ZIn)) (x:XS) (nm:List (List Int)) (s:ZTr):Prop where
 tp:s.p=p
 tx:s.x=⟨x.1,x.2⟩
 tn:s.number=nm
def PostC (p:List (List ZIn)) (x:XS) (nm:List (List Int)) (a:Nat->Nat) (sch:List Int) (v:ZTr×Bool):Prop:=
 (v.2=false/\TrC p x nm v.1/\v.1.schedule=sch)\/(v.2=true/\∃ r,Ch p x a r/\v.1.schedule=sch++r)
theorem from_retC (hp:PV p) (R:Cand p x F) {nm:List (List Int)} (hnm:Nums p nm):∀ (m:Nat) (s:ZTr) (pc:Z3i),TrC p x nm s->NNp pc->StA p (aP pc)->s.schedule.length+mu p (aP pc)<=21->mu p (aP pc)<m ->
  Ret (F_impl_tracer_from_N m s pc) (PostC p x nm (aP pc) s.schedule)
 | 0,_,_,_,_,_,_,h=>by omega
 | m+1,s,pc,hT,hN,hS,hb,hm=>by
  have hl:=hp.vs.1
  obtain ⟨sp,⟨sf,so⟩,sn,sch,fl⟩:=s
  obtain ⟨t1,t2,t3⟩:=hT
  simp only at t1 t2 t3 hb
  replace t1:=t1.symm
  replace t3:=t3.symm
  subst t1 t3
  injection t2 with t5 t6
  subst t5 t6
  show Ret (F_impl_tracer_from_B (F_impl_tracer_from_N m) _ pc) _
  unfold F_impl_tracer_from_B
  simp only []
  refine .bif (fun hk => .pure (.inl ⟨rfl,⟨rfl,rfl,rfl⟩,rfl⟩)) fun _ => ?_
  refine (fin_ret hp hN _ rfl).bind fun b hfb => .bif (fun hb1 => .pure (.inr ⟨rfl,[],.nil (hfb.1 hb1),by simp⟩)) fun hb1 => ?_
  refine Ret.sum (PS:=fun w=>w.1=p/\w.2.1=x.1/\w.2.2.1=x.2/\w.2.2.2.1=nm/\w.2.2.2.2.1=sch) (PW:=PostC p x nm (aP pc) sch) ?_ fun w ⟨w2,w3,w4,w5,w6⟩ => .pure (.inl ⟨rfl,⟨w2,by simp only [];rw [w3,w4],w5⟩,w6⟩)
  refine Ret.loop (fun z=>∃ n:Nat,n<=p.length/\z.1=p/\z.2.1=x.1/\z.2.2.1=x.2/\z.2.2.2.1=nm/\z.2.2.2.2.1=sch/\z.2.2.2.2.2.2=(n:Int)) (fun z=>((p.length:Int)-z.2.2.2.2.2.2).toNat) ⟨0,by omega,rfl,rfl,rfl,rfl,rfl,rfl⟩ fun z ⟨n,n1,z1,z2,z3,z4,z5,z7⟩ => ?_
  obtain ⟨a1,a2,a3,a4,a5,a6,a7⟩:=z
  simp only at z1 z2 z3 z4 z5 z7
  replace z1:=z1.symm
  replace z4:=z4.symm
  replace z5:=z5.symm
  subst z1 z2 z3 z4 z5 z7
  unfold F_impl_tracer_from_L19
  simp only [Int.toNat_natCast]
  refine .bifD (fun hk => ?_) fun hk => .pure ⟨rfl,rfl,rfl,rfl,rfl⟩
  have hn:n<p.length:=by omega
  refine Ret.sum (PS:=fun w=>w.1=p/\w.2.1=x.1/\w.2.2.1=x.2/\w.2.2.2.1=nm/\w.2.2.2.2.1=sch) ?_ fun w ⟨w1,w2,w3,w4,w5⟩ => .gdI (by omega) (.pure ⟨⟨n+1,by omega,w1,w2,w3,w4,w5,rfl⟩,by simp only [];omega⟩)
  refine (can_ret hp R hnm hN hS hn).bind fun v23 h23 => .bif (fun hc => .pure ⟨rfl,rfl,rfl,rfl,rfl⟩) fun hc => ?_
  have hcan:CanT p x (aP pc) n:=h23.1 (by simpa using hc)
  have hg:=aP_get hN (t:=n) (by omega)
  obtain ⟨g1,g2⟩:=aP_set hN (t:=n) (by omega)
  have hS':=hS.adv hcan.2.1
  have hmu:=mu_adv hcan.1 hcan.2.1
  have hrow:=hp.vs.2 n
  have hlt:=hcan.2.1
  refine .gdD ⟨by omega,by omega⟩ (.gdI (by rw [hg];omega) (.gd (capOK_le (by omega) rfl) ?_))
  refine (from_retC hp R hnm m ⟨p,⟨x.1,x.2⟩,nm,sch++[(n:Int)],a6⟩ _ ⟨rfl,rfl,rfl⟩ g2 (by rw [g1];exact hS') (by rw [g1];simp only [List.length_append,List.length_singleton];omega) (by rw [g1];omega)).bind fun v hv => ?_
  rw [g1] at hv
  rcases hv with ⟨e1,⟨e2,e3,e4⟩,e6⟩ | ⟨e1,r,e2,e3⟩
  ·refine .bif (fun e=>by rw [e1] at e;cases e) fun _ => ?_
   have hlen:v.1.schedule.length=sch.length+1:=by rw [e6];simp
   refine .gdI (by omega) (.gdD ⟨by omega,by omega,by omega⟩ (.pure ⟨e2,by rw [e3],by rw [e3],e4,?_⟩))
   simp only []
   rw [hlen,e6,show ((((sch.length+1:Nat):Int)-1).toNat-(0:Int).toNat)=sch.length by omega]
   simp
  ·refine .bif (fun _ => .pure (.inr ⟨rfl,(n:Int)::r,.cons hcan e2,?_⟩)) fun e=>by rw [e1] at e;cases e
   simp only []
   rw [e3,List.append_assoc]
   rfl
theorem schedOf_retC (hp:PV p) (R:Cand p x F):Ret (F_impl_scheduleOf p ⟨x.1,x.2⟩) fun v=>(v.2=true->Ch p x (fun _=>0) v.1)/\(v.2=false->v.1=[]):=by
 unfold F_impl_scheduleOf
 refine (numbers_ret hp).bind fun v1 ⟨n1,n2⟩ => ?_
 have hz:aP ⟨0,0,0⟩=fun _=>0:=by
  funext t
  unfold aP
  split
  ·rename_i h
   match t,h with
   | 0,_=>rfl
   | 1,_=>rfl
   | 2,_=>rfl
  ·rfl
 have hN:NNp ⟨0,0,0⟩:=⟨Int.le_refl 0,Int.le_refl 0,Int.le_refl 0⟩
 have hmu:=mu_le hp (fun _=>0)
 obtain ⟨v,e,hv⟩:=from_retC hp R ⟨n1,n2⟩ 22 ⟨p,⟨x.1,x.2⟩,v1,[],[]⟩ ⟨0,0,0⟩ ⟨rfl,rfl,rfl⟩ hN (by rw [hz];exact fun t _=>Nat.zero_le _) (by rw [hz];simpa using hmu) (by rw [hz];omega)
 rw [hz] at hv
 have hfx:F_impl_tracer_from ⟨p,⟨x.1,x.2⟩,v1,[],[]⟩ ⟨0,0,0⟩=some v:=fixC_of 22 fun n hn=>from_up _ _ hn v e
 refine (Ret.of (P:=(· = v)) hfx rfl).bind fun w hw => ?_
 subst hw
 rcases hv with ⟨e1,_,_⟩ | ⟨e1,r,e2,e3⟩
 ·exact .bif (fun _ => .pure ⟨fun e=>(by cases e),fun _=>rfl⟩) fun e=>by rw [e1] at e;cases e
 ·refine .bif (fun e=>by rw [e1] at e;cases e) fun _ => .pure ⟨fun _ => ?_,fun e=>(by cases e)⟩
  simp only []
  rw [e3]
  exact e2
theorem ch_whole (hp:PV p) (hv:validB (p.map fun r=>r.map toIns)=true) (R:Cand p x F) {l:List Int} (h:Ch p x (fun _=>0) l):Whole p l/\runX p (ordF p l l.length)=x:=by
 obtain ⟨h1,h2,h3⟩:=ch_leads hp R h (fun t _=>Nat.zero_le _) [] (fun t _=>rfl) (fun j hj=>by simp at hj) (by rw [px_zero hp R];rfl)
 rw [List.nil_append] at h1 h2 h3
 exact ⟨⟨hv,h1,h2⟩,h3⟩
theorem gr_len {a:Nat->Nat} {r:List Int} (h:Gr p x F a r):r.length<=mu p a:=by
 induction h with
 | nil _=>exact Nat.zero_le _
 | cons h _ _ ih=>
  have := mu_adv h.1 h.2.1
  rw [List.length_cons]
  omega
theorem sched_both (hp:PV p) (hv:validB (p.map fun r=>r.map toIns)=true) (R:Cand p x F):∃ l b,F_impl_scheduleOf p ⟨x.1,x.2⟩=some (l,b)/\F_spec_l13Sort p (rowsB p (bef p x) (evs p).length)=some (l,b)/\l.length<=21/\(b=false->l=[]) /\
  (b=true->Whole p l/\runX p (ordF p l l.length)=x/\Gr p x F (fun _=>0) l)/\(∀ s,Whole p s->runX p (ordF p s s.length)=x->b=true):=by
 obtain ⟨w,e,w1,w2⟩:=schedOf_retC hp R
 obtain ⟨v,e',v1,v2⟩:=sort_retC hp R
 obtain ⟨l,b⟩:=w
 obtain ⟨l',b'⟩:=v
 simp only at w1 w2 v1 v2
 -- a whole schedule that leads to it: both find one
 have key:∀ s,Whole p s->runX p (ordF p s s.length)=x->b=true/\b'=true/\l=l':=fun s hw hx=>by
  have R':=whole_run hp hw
  rw [hx] at R'
  obtain ⟨u,e1,u1,u2⟩:=schedOf_ret hp R'
  obtain ⟨u',e1',u1',u2'⟩:=sort_ret hp R'
  rw [e] at e1
  rw [e'] at e1'
  obtain rfl:=Option.some.inj e1
  obtain rfl:=Option.some.inj e1'
  exact ⟨u1,u1',u2.uniq u2'⟩
 cases b' with
 | true=>
  have hG:=v1 rfl
  obtain ⟨h1,h2⟩:=ch_whole hp hv R (gr_ch hp R hG (closed_zero hp R))
  obtain ⟨k1,_,k3⟩:=key _ h1 h2
  subst k1 k3
  exact ⟨l,true,e,e',Nat.le_trans (gr_len hG) (mu_le hp _),fun h=>(by cases h),fun _=>⟨h1,h2,hG⟩,fun _ _ _=>rfl⟩
 | false=>
  obtain ⟨g1,_⟩:=v2 rfl
  cases b with
  | true=>
   obtain ⟨h1,h2⟩:=ch_whole hp hv R (w1 rfl)
   have := (key _ h1 h2).2.1
   cases this
  | false=>
   have := w2 rfl
   subst this g1
   exact ⟨[],false,e,e',by simp,fun _=>rfl,fun h=>(by cases h),fun s hw hx=>(key s hw hx).1⟩
end
end Go.Proofs.Ytlmjnhnpahicmaa
