/- Texts joined. No conditions. -/
import Derived.Test.YtlmjnhnpahicmaaGreatProg
import Derived.Shelf.SlSortCmp.NoneTotal
import Derived.Test.YtlmjnhnpahicmaaGreatY8
namespace Go.Proofs.YtlmjnhnpahicmaaGreat
noncomputable section
open Go.RowKit
set_option maxRecDepth 100000
section
variable {p:List (List Jh)} {x:XS} {F:LI}
def px (p:List (List Jh)) (x:XS) (a:Nat->Nat):XS:=((List.range (evs p).length).map fun (i:Nat)=>if dn p a (i:Int)=true then x.1.getD i default else -1,[(od x 0).take (dc p x a 0),(od x 1).take (dc p x a 1),(od x 2).take (dc p x a 2)])
theorem jH (a:Nat->Nat):(px p x a).1.length=(evs p).length:=by simp [px]
theorem sU {a:Nat->Nat} {i:Nat} (h:i<(evs p).length):(px p x a).1.getD i default=if dn p a (i:Int)=true then x.1.getD i default else -1:=by
 unfold px;simp only [];rw [gdq,List.getElem?_map,List.getElem?_range h]
 rfl
theorem sV {a:Nat->Nat} {l:Nat} (hl:l<3):(px p x a).2.getD l []=(od x (l:Int)).take (dc p x a (l:Int)):=by
 match l,hl with
 | 0,_=>rfl
 | 1,_=>rfl
 | 2,_=>rfl
theorem Ii {l k:LL} (hl:l.length=3) (hk:k.length=3) (h:∀ i:Nat,i<3->l.getD i []=k.getD i []):l=k:=by
 match l,hl,k,hk with
 | [a,b,c],_,[d,e,f],_=>
  have h0:a=d:=h 0 (by omega);have h1:b=e:=h 1 (by omega);have h2:c=f:=h 2 (by omega);rw [h0,h1,h2]
theorem Gg {a:Nat->Nat} {t:Nat} (ht:t<p.length) (l:Int):cnt p (adv a t) l p.length=cnt p a l p.length+if wq p t l (a t)=true then 1 else 0:=by
 have e1:adv a t t=a t+1:=by unfold adv;rw [if_pos rfl]
 by_cases h:wq p t l (a t)=true
 ·rw [if_pos h];refine yQ (f:=fun u=>cwr p u l (adv a t u)) (g:=fun u=>cwr p u l (a u)) ht ?_ fun u _ hne=>?_
  ·simp only [e1,oH,if_pos h]
  ·show cwr p u l (adv a t u)=cwr p u l (a u);unfold adv;rw [if_neg hne]
 ·rw [if_neg h,Nat.add_zero];unfold cnt
  congr 1
  apply List.map_congr_left;intro u _
  by_cases hne:u=t
  ·subst hne;rw [e1,oH,if_neg h,Nat.add_zero]
  ·unfold adv;rw [if_neg hne]
theorem Fs (hp:PV p) (R:Cand p x F) {a:Nat->Nat} (ha:StA p a) {t:Nat} (ht:t<p.length) (hk:a t<(p.getD t default).length) {l:Nat} (hl:l<3):dc p x (adv a t) (l:Int)=dc p x a (l:Int)+if wq p t (l:Int) (a t)=true then 1 else 0:=by
 rw [Ex hp R ha hl,Ex hp R (ha.adv hk) hl,Gg ht];omega
theorem Gh (hp:PV p) (R:Cand p x F):px p x (fun _=>0)=x0 p:=by
 have hz:StA p (fun _=>0):=fun t _=>Nat.zero_le _;refine Prod.ext (p6 (by rw [jH];simp [x0]) fun i hi=>?_) (Ii rfl rfl fun l hl=>?_)
 ·rw [jH] at hi;rw [sU hi];have e:(x0 p).1.getD i default = -1:=by
   show (List.replicate (evs p).length (-1:Int)).getD i default = -1;rw [gdq,List.getElem?_replicate,if_pos hi]
   rfl
  rw [e]
  split
  ·rename_i hd;rcases dX (p:=p) (n:=(i:Int)) (by omega) (by omega) with h3 | ⟨t,k,h3,e3⟩
   ·have h4:=(iV (p:=p) (l:=i) (by omega)).1;have := R.frN (i:Int) ((R.mem _).2 ⟨by omega,by omega⟩) (by rw [h4]);rw [tnn] at this;exact this
   ·rw [e3] at hd;have := (gU h3).1 hd;omega
  ·rfl
 ·rw [sV hl,Ex hp R hz hl];have hc:cnt p (fun _=>0) (l:Int) p.length=0:=by
   unfold cnt;have : ((List.range p.length).map fun t=>cwr p t (l:Int) 0)=(List.range p.length).map fun _=>0:=rfl;rw [this];have h0:∀ n:Nat,((List.range n).map fun _=>0).sum=0:=fun n=>by
    induction n with
    | zero=>rfl
    | succ n ih=>rw [List.range_succ,List.map_append,List.sum_append,ih];rfl
   exact h0 _
  rw [hc];obtain ⟨t,e⟩:=F9 R hl;rw [e]
  match l,hl with
  | 0,_=>rfl
  | 1,_=>rfl
  | 2,_=>rfl
theorem Hq (hp:PV p) (R:Cand p x F) {a:Nat->Nat} (hf:DT p a):px p x a=x:=by
 have all:∀ n:Int,n∈F->dn p a n=true:=fun n hn=>by
  obtain ⟨n0,n1⟩:=(R.mem n).1 hn;rcases dX n0 n1 with h | ⟨t,k,h,rfl⟩
  ·exact mf n0 h
  ·refine (gU h).2 ?_;rw [hf t h.t];exact h.k
 refine Prod.ext (p6 (by rw [jH,R.flen]) fun i hi=>?_) (Ii rfl R.olen fun l hl=>?_)
 ·rw [jH] at hi;rw [sU hi,if_pos (all _ ((R.mem _).2 ⟨by omega,by omega⟩))]
 ·have O:=R.ods (l:Int) (by omega);rw [sV hl];have e:dc p x a (l:Int)=(od x (l:Int)).length:=by
   unfold dc;rw [List.filter_eq_self.2 fun n hn=>all n ((O.mem n).1 hn).1]
  rw [e,List.take_length]
  rfl
theorem EC (hp:PV p) (R:Cand p x F) {a:Nat->Nat} (ha:StA p a) {t:Nat} (ht:t<p.length) (hk:a t<(p.getD t default).length) (hf:sP p t (a t)):px p x (adv a t)=px p x a:=by
 have hB:=kH R ht hk;unfold nxt at hB;rw [if_pos hf] at hB;have hd:∀ n:Int,n∈F->(dn p (adv a t) n=true↔dn p a n=true):=fun n hn=>by rw [hB n hn];simp
 refine Prod.ext (p6 (by rw [jH,jH]) fun i hi=>?_) (Ii rfl rfl fun l hl=>?_)
 ·rw [jH] at hi;rw [sU hi,sU hi];have := hd (i:Int) ((R.mem _).2 ⟨by omega,by omega⟩)
  by_cases h:dn p a (i:Int)=true
  ·rw [if_pos h,if_pos (this.2 h)]
  ·rw [if_neg h,if_neg (fun e=>h (this.1 e))]
 ·have hw : ¬ wq p t (l:Int) (a t)=true:=fun h=>by
   unfold wq at h;rw [bae] at h;exact Ih h.1 hf
  rw [sV hl,sV hl,Fs hp R ha ht hk hl,if_neg hw,Nat.add_zero]
theorem Gi (hp:PV p) (R:Cand p x F) {a:Nat->Nat} (ha:StA p a) {t:Nat} (hc:Ep p x a t) (hf : ¬ sP p t (a t)):stX p (px p x a) (base p t (a t):Int)=px p x (adv a t):=by
 have hI:Isn p t (a t):=⟨hc.1,hc.2.1,hf⟩;have hev:=hI.ev.1;have hb:=hI.ev.2;have hcan:F6 p x a (base p t (a t):Int):=hc.2.2 _ (by unfold nxt;rw [if_neg hf]);have hB:=kH R hc.1 hc.2.1;unfold nxt at hB;rw [if_neg hf] at hB;have hn:(base p t (a t):Int)∈F:=Da R hI;have hnd:dn p a (base p t (a t):Int)=false:=by
  cases hd:dn p a (base p t (a t):Int) with
  | false=>rfl
  | true=>have := (gU hI).1 hd;omega
 have hin:=hp.ins t (a t) hc.1 hc.2.1;have x1:0<=(ins p t (a t)).Loc:=hin.1;have x2:(ins p t (a t)).Loc<=2:=hin.2.1;unfold F6 at hcan;rw [hev,tnn] at hcan;simp only at hcan;obtain ⟨d1,d2⟩:=uL hp R a (l:=(ins p t (a t)).Loc) ⟨x1,x2⟩;have hev':(evs p).getD (base p t (a t):Int).toNat default=⟨t,(a t:Nat),(ins p t (a t)).Loc,rdX (ins p t (a t)),wrX (ins p t (a t))⟩:=hev;have hord:(px p x a).2.getD (ins p t (a t)).Loc.toNat []=(od x (ins p t (a t)).Loc).take (dc p x a (ins p t (a t)).Loc):=by
  have := sV (p:=p) (x:=x) (a:=a) (l:=(ins p t (a t)).Loc.toNat) (by omega);rw [Int.toNat_of_nonneg x1] at this;exact this
 have hlen:((od x (ins p t (a t)).Loc).take (dc p x a (ins p t (a t)).Loc)).length=dc p x a (ins p t (a t)).Loc:=by rw [List.length_take];omega
 unfold stX;rw [hev'];simp only [hord,tnn];refine Prod.ext (p6 ?_ fun i hi=>?_) (Ii (by simp only [List.length_set];rfl) rfl fun l hl=>?_)
 ·simp only []
  split
  ·rw [List.length_set,jH,jH]
  ·rw [jH,jH]
 ·simp only [] at hi ⊢;have hi':i<(evs p).length:=by
   split at hi
   ·rw [List.length_set,jH] at hi;exact hi
   ·rw [jH] at hi;exact hi
  have hBi:=hB (i:Int) ((R.mem _).2 ⟨by omega,by omega⟩);rw [sU hi']
  by_cases e:i=base p t (a t)
  ·subst e;rw [if_pos (hBi.2 (.inr rfl))]
   split
   ·rename_i hr;rw [bq (by rw [jH];exact hb),if_pos rfl,hlen,hcan.1 hr,gdq,List.getElem?_take,if_pos (by omega),<- gdq]
    congr 1
    omega
   ·rename_i hr;rw [sU hi',hnd];have := R.frN _ hn (by rw [hev];exact Bool.eq_false_iff.2 hr);rw [tnn] at this;rw [this]
    rfl
  ·have hiff:dn p (adv a t) (i:Int)=true↔dn p a (i:Int)=true:=by
    rw [hBi];refine ⟨fun h=>?_,.inl⟩;rcases h with h | h
    ·exact h
    ·injection h with h;exact absurd (by omega) e
   have key:(px p x a).1.getD i default=if dn p (adv a t) (i:Int)=true then x.1.getD i default else -1:=by
    rw [sU hi']
    by_cases h:dn p a (i:Int)=true
    ·rw [if_pos h,if_pos (hiff.2 h)]
    ·rw [if_neg h,if_neg fun e=>h (hiff.1 e)]
   split
   ·rw [bq (by rw [jH];exact hb),if_neg e,key]
   ·exact key
 ·simp only [];rw [oz (by show _<3;omega),sV hl,sV hl,Fs hp R ha hc.1 hc.2.1 hl]
  by_cases e:l=(ins p t (a t)).Loc.toNat
  ·have el:(l:Int)=(ins p t (a t)).Loc:=by omega
   rw [if_pos e,el];have hwq:wq p t (ins p t (a t)).Loc (a t)=wrX (ins p t (a t)):=by unfold wq;simp
   rw [hwq]
   split
   ·rename_i hw;rw [<- hcan.2 hw];have hlt:dc p x a (ins p t (a t)).Loc<(od x (ins p t (a t)).Loc).length:=by
     have O:=R.ods (ins p t (a t)).Loc ⟨x1,x2⟩;have hm:(base p t (a t):Int)∈od x (ins p t (a t)).Loc:=(O.mem _).2 ⟨hn,by rw [hev];exact hw,by rw [hev]⟩;exact List.length_filter_lt_length_iff_exists.2 ⟨_,hm,by rw [hnd];decide⟩
    rw [gdq,geq hlt];exact List.take_append_getElem hlt
   ·rw [Nat.add_zero]
  ·rw [if_neg e];have hwq : ¬ wq p t (l:Int) (a t)=true:=by
    unfold wq;rw [bae,dte];intro h;exact e (by omega)
   rw [if_neg hwq,Nat.add_zero]
theorem zO (s r:LI):∀ m,m<=s.length->fw p (s++r) m=fw p s m
 | 0,_=>rfl
 | m+1,hm=>by
  have e1:(s++r).getD m default=s.getD m default:=by rw [gdq,gal (by omega),<- gdq]
  have e2:(s++r).take m=s.take m:=List.take_append_of_le_length (by omega);rw [fw,fw,zO s r m (by omega)];unfold Jp Jq;rw [e1,e2]
inductive Ch (p:List (List Jh)) (x:XS):(Nat->Nat)->List Int->Prop
 | nil {a:Nat->Nat} (h:DT p a):Ch p x a []
 | cons {a:Nat->Nat} {t:Nat} {r:LI} (h:Ep p x a t) (k:Ch p x (adv a t) r):Ch p x a ((t:Int)::r)
theorem IC (hp:PV p) (R:Cand p x F) {a:Nat->Nat} {r:LI} (h:Gr p x F a r):Closed p x F a->Ch p x a r:=by
 induction h with
 | nil h=>exact fun _ => .nil h
 | cons h _ _ ih=>exact fun hC => .cons (uQ hp R hC h) (ih (mM R hC h))
theorem ED (hp:PV p) (R:Cand p x F) {a:Nat->Nat} {r:LI} (h:Ch p x a r):StA p a->∀ pre:LI,(∀ t:Nat,t<p.length->pre.count (t:Int)=a t)->Good p pre pre.length->nE p (fw p pre pre.length)=px p x a ->
  Good p (pre++r) (pre++r).length/\(∀ t:Nat,t<p.length->(pre++r).count (t:Int)=(p.getD t default).length)/\nE p (fw p (pre++r) (pre++r).length)=x:=by
 induction h with
 | nil h=>
  intro _ pre h1 h2 h3;rw [List.append_nil];exact ⟨h2,fun t ht=>by rw [h1 t ht,h t ht],by rw [h3,Hq hp R h]⟩
 | @cons a t r h _ ih=>
  intro ha pre h1 h2 h3;have ht:=h.1;have hk:=h.2.1;have e0:(pre++[(t:Int)]).getD pre.length default=(t:Int):=by rw [gdq,gar (Nat.le_refl _)];simp
  have e1:(pre++[(t:Int)]).take pre.length=pre:=by simp
  have hT:Jp (pre++[(t:Int)]) pre.length=t:=by unfold Jp;rw [e0];omega
  have hK:Jq (pre++[(t:Int)]) pre.length=a t:=by unfold Jq;rw [e0,e1,h1 t ht]
  have := ih (ha.adv hk) (pre++[(t:Int)]) (fun u hu=>?_) (fun j hj=>?_) ?_
  ·rw [List.append_assoc] at this;exact this
  ·rw [List.count_append,h1 u hu,List.count_singleton];unfold adv
   by_cases e:u=t
   ·subst e;simp
   ·rw [if_neg e,if_neg (by simp;omega),Nat.add_zero]
  ·rw [lla,List.length_singleton] at hj;rcases Nat.lt_or_ge j pre.length with hj' | hj'
   ·have := h2 j hj';rw [gdq,gal hj',<- gdq,List.take_append_of_le_length (by omega)];exact this
   ·have : j=pre.length:=by omega
    subst this;rw [e0,e1,h1 t ht,tnn];exact ⟨by omega,hk⟩
  ·rw [lla,List.length_singleton,fw,zO pre [(t:Int)] _ (Nat.le_refl _),hT,hK];unfold p5
   split
   ·rename_i hf;rw [List.append_nil,h3,EC hp R ha ht hk hf]
   ·rename_i hf;rw [sN,h3,Gi hp R ha h hf]
theorem Gr.congr {F':LI} (hF:∀ n:Int,n∈F↔n∈F') {a:Nat->Nat} {r:LI} (h:Gr p x F a r):Gr p x F' a r:=by
 have key:∀ {a:Nat->Nat} {t:Nat},dx p x F a t↔dx p x F' a t:=fun {a t}=>by
  unfold dx m9;refine ⟨fun h=>⟨h.1,h.2.1,fun n hn i hi hb=>h.2.2 n hn i ((hF i).2 hi) hb⟩,fun h=>⟨h.1,h.2.1,fun n hn i hi hb=>h.2.2 n hn i ((hF i).1 hi) hb⟩⟩
 induction h with
 | nil h=>exact .nil h
 | cons h hl _ ih=>exact .cons (key.1 h) (fun u hu hr=>hl u hu (key.2 hr)) ih
end
section
variable {p:List (List Jh)} {x:XS} {F:LI}
structure TrC (p:List (List Jh)) (x:XS) (nm:List (List Int)) (s:ZTr):Prop where
 tp:s.p=p
 tx:s.x=⟨x.1,x.2⟩
 tn:s.number=nm
def Hr (p:List (List Jh)) (x:XS) (nm:LL) (a:Nat->Nat) (sch:LI) (v:ZTr×Bool):Prop:=
 (v.2=false/\TrC p x nm v.1/\v.1.schedule=sch)\/(v.2=true/\∃ r,Ch p x a r/\v.1.schedule=sch++r)
theorem xB (hp:PV p) (R:Cand p x F) {nm:LL} (hnm:Nums p nm):∀ (m:Nat) (s:ZTr) (pc:Z3i),TrC p x nm s->NNp pc->StA p (aP pc)->s.schedule.length+mu p (aP pc)<=21->mu p (aP pc)<m ->
  Jo (ak m s pc) (Hr p x nm (aP pc) s.schedule)
 | 0,_,_,_,_,_,_,h=>by omega
 | m+1,s,pc,hT,hN,hS,hb,hm=>by
  have hl:=hp.vs.1;obtain ⟨sp,⟨sf,so⟩,sn,sch,fl⟩:=s;obtain ⟨t1,t2,t3⟩:=hT;simp only at t1 t2 t3 hb;replace t1:=t1.symm;replace t3:=t3.symm;subst t1 t3;injection t2 with t5 t6;subst t5 t6;show Jo (aH (ak m) _ pc) _;unfold aH;simp only [];refine .bif (fun hk => .pure (.inl ⟨rfl,⟨rfl,rfl,rfl⟩,rfl⟩)) fun _=>?_;refine (C8 hp hN _ rfl).bind fun b hfb => .bif (fun hb1 => .pure (.inr ⟨rfl,[],.nil (hfb.1 hb1),by simp⟩)) fun hb1=>?_;refine Jo.sum (PS:=fun w=>w.1=p/\w.2.1=x.1/\w.2.2.1=x.2/\w.2.2.2.1=nm/\w.2.2.2.2.1=sch) (PW:=Hr p x nm (aP pc) sch) ?_ fun w ⟨w2,w3,w4,w5,w6⟩ => .pure (.inl ⟨rfl,⟨w2,by simp only [];rw [w3,w4],w5⟩,w6⟩);refine Jo.loop (fun z=>∃ n:Nat,n<=p.length/\z.1=p/\z.2.1=x.1/\z.2.2.1=x.2/\z.2.2.2.1=nm/\z.2.2.2.2.1=sch/\z.2.2.2.2.2.2=(n:Int)) (fun z=>((p.length:Int)-z.2.2.2.2.2.2).toNat) ⟨0,by omega,rfl,rfl,rfl,rfl,rfl,rfl⟩ fun z ⟨n,n1,z1,z2,z3,z4,z5,z7⟩ => ?_;obtain ⟨a1,a2,a3,a4,a5,a6,a7⟩:=z;simp only at z1 z2 z3 z4 z5 z7;replace z1:=z1.symm;replace z4:=z4.symm;replace z5:=z5.symm;subst z1 z2 z3 z4 z5 z7;unfold bi;simp only [tnn];refine .bifD (fun hk=>?_) fun hk => .pure ⟨rfl,rfl,rfl,rfl,rfl⟩;have hn:n<p.length:=by omega
  refine Jo.sum (PS:=fun w=>w.1=p/\w.2.1=x.1/\w.2.2.1=x.2/\w.2.2.2.1=nm/\w.2.2.2.2.1=sch) ?_ fun w ⟨w1,w2,w3,w4,w5⟩ => .gdI (by omega) (.pure ⟨⟨n+1,by omega,w1,w2,w3,w4,w5,rfl⟩,by simp only [];omega⟩);refine (CY hp R hnm hN hS hn).bind fun v23 h23 => .bif (fun hc => .pure ⟨rfl,rfl,rfl,rfl,rfl⟩) fun hc=>?_;have hcan:Ep p x (aP pc) n:=h23.1 (by simpa using hc);have hg:=uP hN (t:=n) (by omega);obtain ⟨g1,g2⟩:=Fq hN (t:=n) (by omega);have hS':=hS.adv hcan.2.1;have hmu:=xw hcan.1 hcan.2.1;have hrow:=hp.vs.2 n;have hlt:=hcan.2.1;refine .gdD ⟨by omega,by omega⟩ (.gdI (by rw [hg];omega) (.gd (au (by omega) rfl) ?_));refine (xB hp R hnm m ⟨p,⟨x.1,x.2⟩,nm,sch++[(n:Int)],a6⟩ _ ⟨rfl,rfl,rfl⟩ g2 (by rw [g1];exact hS') (by rw [g1];simp only [lla,List.length_singleton];omega) (by rw [g1];omega)).bind fun v hv=>?_;rw [g1] at hv;rcases hv with ⟨e1,⟨e2,e3,e4⟩,e6⟩ | ⟨e1,r,e2,e3⟩
  ·refine .bif (fun e=>by rw [e1] at e;cases e) fun _=>?_;have hlen:v.1.schedule.length=sch.length+1:=by rw [e6];simp
   refine .gdI (by omega) (.gdD ⟨by omega,by omega,by omega⟩ (.pure ⟨e2,by rw [e3],by rw [e3],e4,?_⟩));simp only [];rw [hlen,e6,show ((((sch.length+1:Nat):Int)-1).toNat-(0:Int).toNat)=sch.length by omega];simp
  ·refine .bif (fun _ => .pure (.inr ⟨rfl,(n:Int)::r,.cons hcan e2,?_⟩)) fun e=>by rw [e1] at e;cases e
   simp only [];rw [e3,List.append_assoc]
   rfl
theorem xC (hp:PV p) (R:Cand p x F):Jo (av p ⟨x.1,x.2⟩) fun v=>(v.2=true->Ch p x (fun _=>0) v.1)/\(v.2=false->v.1=[]):=by
 unfold av;refine (sM hp).bind fun v1 ⟨n1,n2⟩ => ?_;have hz:aP ⟨0,0,0⟩=fun _=>0:=by
  funext t
  unfold aP
  split
  ·rename_i h
   match t,h with
   | 0,_=>rfl
   | 1,_=>rfl
   | 2,_=>rfl
  ·rfl
 have hN:NNp ⟨0,0,0⟩:=⟨Int.le_refl 0,Int.le_refl 0,Int.le_refl 0⟩;have hmu:=Eu hp (fun _=>0);obtain ⟨v,e,hv⟩:=xB hp R ⟨n1,n2⟩ 22 ⟨p,⟨x.1,x.2⟩,v1,[],[]⟩ ⟨0,0,0⟩ ⟨rfl,rfl,rfl⟩ hN (by rw [hz];exact fun t _=>Nat.zero_le _) (by rw [hz];simpa using hmu) (by rw [hz];omega);rw [hz] at hv;have hfx:dW ⟨p,⟨x.1,x.2⟩,v1,[],[]⟩ ⟨0,0,0⟩=some v:=yx 22 fun n hn=>C0 _ _ hn v e;refine (Jo.of (P:=(· = v)) hfx rfl).bind fun w hw=>?_;subst hw;rcases hv with ⟨e1,_,_⟩ | ⟨e1,r,e2,e3⟩
 ·exact .bif (fun _ => .pure ⟨fun e=>(by cases e),fun _=>rfl⟩) fun e=>by rw [e1] at e;cases e
 ·refine .bif (fun e=>by rw [e1] at e;cases e) fun _ => .pure ⟨fun _=>?_,fun e=>(by cases e)⟩;simp only [];rw [e3];exact e2
theorem zP (hp:PV p) (hv:aZ (p.map fun r=>r.map gy)=true) (R:Cand p x F) {l:LI} (h:Ch p x (fun _=>0) l):Whole p l/\nE p (fw p l l.length)=x:=by
 obtain ⟨h1,h2,h3⟩:=ED hp R h (fun t _=>Nat.zero_le _) [] (fun t _=>rfl) (fun j hj=>by simp at hj) (by rw [Gh hp R];rfl);rw [List.nil_append] at h1 h2 h3;exact ⟨⟨hv,h1,h2⟩,h3⟩
theorem Hs {a:Nat->Nat} {r:LI} (h:Gr p x F a r):r.length<=mu p a:=by
 induction h with
 | nil _=>exact Nat.zero_le _
 | cons h _ _ ih=>
  have := xw h.1 h.2.1;rw [llc];omega
theorem AL (hp:PV p) (hv:aZ (p.map fun r=>r.map gy)=true) (R:Cand p x F):∃ l b,av p ⟨x.1,x.2⟩=some (l,b)/\cK p (jO p (bef p x) (evs p).length)=some (l,b)/\l.length<=21/\(b=false->l=[]) /\
  (b=true->Whole p l/\nE p (fw p l l.length)=x/\Gr p x F (fun _=>0) l)/\(∀ s,Whole p s->nE p (fw p s s.length)=x->b=true):=by
 obtain ⟨w,e,w1,w2⟩:=xC hp R;obtain ⟨v,e',v1,v2⟩:=xx hp R;obtain ⟨l,b⟩:=w;obtain ⟨l',b'⟩:=v;simp only at w1 w2 v1 v2;have key:∀ s,Whole p s->nE p (fw p s s.length)=x->b=true/\b'=true/\l=l':=fun s hw hx=>by
  have R':=oD hp hw;rw [hx] at R';obtain ⟨u,e1,u1,u2⟩:=yR hp R';obtain ⟨u',e1',u1',u2'⟩:=Ew hp R';rw [e] at e1;rw [e'] at e1';obtain rfl:=osl e1;obtain rfl:=osl e1';exact ⟨u1,u1',u2.uniq u2'⟩
 cases b' with
 | true=>
  have hG:=v1 rfl;obtain ⟨h1,h2⟩:=zP hp hv R (IC hp R hG (lj hp R));obtain ⟨k1,_,k3⟩:=key _ h1 h2;subst k1 k3;exact ⟨l,true,e,e',Nat.le_trans (Hs hG) (Eu hp _),fun h=>(by cases h),fun _=>⟨h1,h2,hG⟩,fun _ _ _=>rfl⟩
 | false=>
  obtain ⟨g1,_⟩:=v2 rfl
  cases b with
  | true=>
   obtain ⟨h1,h2⟩:=zP hp hv R (w1 rfl);have := (key _ h1 h2).2.1
   cases this
  | false=>
   have := w2 rfl;subst this g1;exact ⟨[],false,e,e',by simp,fun _=>rfl,fun h=>(by cases h),fun s hw hx=>(key s hw hx).1⟩
end
section
variable {α β:Type}
theorem bQ {step:List α×Int->Option ((List α×Int) ⊕ List α)} (n:Nat) (a:List α) (h:Nat->List α) (hs:∀ k,k<n->Jo (step (a++(List.range k).flatMap h,(k:Int))) (· = .inl (a++(List.range (k+1)).flatMap h,((k+1:Nat):Int))))
  (he:Jo (step (a++(List.range n).flatMap h,(n:Int))) (· = .inr (a++(List.range n).flatMap h))):Jo (loopO step (a,(0:Int))) (· = a++(List.range n).flatMap h):=by
 refine Jo.loop (fun s=>∃ k:Nat,k<=n/\s=(a++(List.range k).flatMap h,(k:Int))) (fun s=>((n:Int)-s.2).toNat) ⟨0,Nat.zero_le _,by simp⟩ fun s ⟨k,hk,e⟩ => ?_;subst e
 by_cases hlt:k<n
 ·refine (hs k hlt).mono fun v hv=>?_;subst hv;exact ⟨⟨k+1,hlt,rfl⟩,by simp only [];omega⟩
 ·obtain rfl:k=n:=by omega
  exact he.mono fun v hv=>by subst hv;rfl
theorem aU (h:Nat->List α) (k:Nat):(List.range (k+1)).flatMap h=(List.range k).flatMap h++h k:=by
 rw [List.range_succ,List.flatMap_append];simp
theorem kJ (h:Nat->List α) {k n:Nat} (hk:k<=n):((List.range k).flatMap h).length<=((List.range n).flatMap h).length:=by
 induction hk with
 | refl=>exact Nat.le_refl _
 | step _ ih=>rw [aU,lla];omega
theorem p7 {l:List α} {f g:α->List β} (h:∀ a∈l,f a=g a):l.flatMap f=l.flatMap g:=by
 induction l with
 | nil=>rfl
 | cons a l ih=>
  rw [List.flatMap_cons,List.flatMap_cons,h a List.mem_cons_self,ih fun b hb=>h b (List.mem_cons_of_mem _ hb)]
theorem aW [Inhabited α] (l:List α) (f:α->List β):(List.range l.length).flatMap (fun k=>f (l.getD k default))=l.flatMap f:=by
 induction l using rq with
 | h0=>rfl
 | hs l a ih=>
  have e:(l++[a]).getD l.length default=a:=by rw [gdq,gar (Nat.le_refl _)];simp
  rw [lla,List.length_singleton,aU,e,List.flatMap_append,<- ih]
  congr 1
  ·refine p7 fun k hk=>?_;rw [gdq,gal (List.mem_range.1 hk),<- gdq]
  ·simp
theorem iD (l:List α) (f:α->β):l.flatMap (fun a=>[f a])=l.map f:=by
 induction l with
 | nil=>rfl
 | cons a l ih=>rw [List.flatMap_cons,ih];rfl
theorem bz {l:List α} {f:α->List β} {m:Nat} (h:∀ a∈l,(f a).length=m):(l.flatMap f).length=l.length*m:=by
 induction l with
 | nil=>simp
 | cons a l ih=>
  rw [List.flatMap_cons,lla,h a List.mem_cons_self,ih fun b hb=>h b (List.mem_cons_of_mem _ hb),llc,Nat.add_mul];omega
def ja:List (List α)->List (List α)
 | []=>[[]]
 | c::cs=>c.flatMap fun y=>(ja cs).map (y :: ·)
theorem oI (cs:List (List α)) (c:List α):ja (cs++[c])=(ja cs).flatMap fun x=>c.map fun y=>x++[y]:=by
 induction cs with
 | nil=>
  show c.flatMap (fun y=>[[y]])=[[]].flatMap fun x=>c.map fun y=>x++[y];rw [iD];simp
 | cons d ds ih=>
  show d.flatMap (fun z=>(ja (ds++[c])).map (z :: ·))=(d.flatMap fun z=>(ja ds).map (z :: ·)).flatMap fun x=>c.map fun y=>x++[y];rw [ih,List.flatMap_assoc];refine p7 fun z _=>?_;rw [List.map_flatMap,List.flatMap_map];refine p7 fun x _=>?_;rw [List.map_map]
  rfl
theorem fI:∀ {cs:List (List α)} {x:List α},x∈ja cs↔x.length=cs.length/\∀ (i:Nat) (h:i<cs.length),∃ y∈cs[i],x[i]? = some y
 | [],x=>by
  show x∈[[]]↔_;rw [List.mem_singleton]
  constructor
  ·rintro rfl;exact ⟨rfl,fun i h=>by simp at h⟩
  ·rintro ⟨h,_⟩;exact List.eq_nil_of_length_eq_zero h
 | c::cs,x=>by
  show x∈c.flatMap (fun y=>(ja cs).map (y :: ·))↔_;simp only [List.mem_flatMap,List.mem_map]
  constructor
  ·rintro ⟨y,hy,z,hz,rfl⟩;obtain ⟨h1,h2⟩:=fI.1 hz;refine ⟨by simp [h1],fun i hi=>?_⟩
   match i with
   | 0=>exact ⟨y,hy,rfl⟩
   | i+1=>exact h2 i (by simpa using hi)
  ·rintro ⟨h1,h2⟩
   match x,h1 with
   | y::z,h1=>
    obtain ⟨y',hy',e⟩:=h2 0 (by simp);obtain rfl:y=y':=by simpa using e
    exact ⟨y,hy',z,fI.2 ⟨by simpa using h1,fun i hi=>h2 (i+1) (by simpa using hi)⟩,rfl⟩
def iN (l:List Nat):Nat:=l.foldr (· * ·) 1
theorem ll:∀ cs:List (List α),(ja cs).length=iN (cs.map List.length)
 | []=>rfl
 | c::cs=>by
  show (c.flatMap fun y=>(ja cs).map (y :: ·)).length=c.length*iN (cs.map List.length);rw [<- ll cs];exact bz fun y _=>llm _
theorem qH (l k:List Nat):iN (l++k)=iN l*iN k:=by
 induction l with
 | nil=>show iN k=1*_;rw [Nat.one_mul]
 | cons a l ih=>
  show a*iN (l++k)=a*iN l*iN k;rw [ih,Nat.mul_assoc]
theorem uS {l k:List Nat} (hl:l.length=k.length) (h:∀ i:Nat,i<l.length->l.getD i 0<=k.getD i 0):iN l<=iN k:=by
 induction l generalizing k with
 | nil=>
  obtain rfl:=List.eq_nil_of_length_eq_zero hl.symm;exact Nat.le_refl _
 | cons a l ih=>
  match k,hl with
  | b::k,hl=>
   refine Nat.mul_le_mul ?_ (ih (by simpa using hl) fun i hi=>?_)
   ·have := h 0 (by simp);simpa using this
   ·have := h (i+1) (by simpa using hi);simpa using this
theorem oJ {l:List Nat} (h:∀ a∈l,1<=a):1<=iN l:=by
 induction l with
 | nil=>exact Nat.le_refl _
 | cons a l ih=>exact Nat.mul_pos (h a List.mem_cons_self) (ih fun b hb=>h b (List.mem_cons_of_mem _ hb))
theorem uT {l:List Nat} (h:∀ a∈l,1<=a) (k:Nat):iN (l.take k)<=iN l:=by
 have e:=qH (l.take k) (l.drop k);rw [List.take_append_drop] at e;have := oJ (l:=l.drop k) fun a ha=>h a (List.mem_of_mem_drop ha);rw [e];exact Nat.le_mul_of_pos_right _ this
theorem uU {l:List Nat} (h:∀ a∈l,1<=a) (k:Nat):iN (l.drop k)<=iN l:=by
 have e:=qH (l.take k) (l.drop k);rw [List.take_append_drop] at e;have := oJ (l:=l.take k) fun a ha=>h a (List.mem_of_mem_take ha);rw [e];exact Nat.le_mul_of_pos_left _ this
end
theorem dQ {α:Type} [Inhabited α] {l:List α} {k:Nat} (h:k<l.length):l.take (k+1)=l.take k++[l.getD k default]:=by
 rw [<- List.take_append_getElem h,gdq,geq h]
 rfl
theorem Gj {n m:Nat} (hn:n<=1000000000) (hm:Nat.ble m 1000=true):aQ n m=true:=by
 have h1:=nlb hm;have h2:n*m<=1000000000*1000:=Nat.mul_le_mul hn h1;exact decide_eq_true ⟨by omega,by omega⟩
theorem oK {s:LI} (h:s.length<=4000000):Jo (aG s) (· = s):=by
 unfold aG GI;have hc:gd (aQ (([]:LI).length+s.length) 8) (some (([]:LI)++s))=some s:=jq (au (by simpa using h) rfl);rw [hc]
 cases s with
 | nil=>exact .of (by simp) rfl
 | cons a s=>exact .pure rfl
theorem mQ (chs:LL) (hn:chs.length<=100) (hb:∀ k,k<=chs.length->(ja (chs.take k)).length<=100000):Jo (dS chs) (· = ja chs):=by
 unfold dS;refine Jo.bind (P:=(· = ja chs)) ?_ fun v hv => .pure hv;refine Jo.loop (fun s=>∃ k:Nat,k<=chs.length/\s=((k:Int),ja (chs.take k))) (fun s=>((chs.length:Int)-s.1).toNat) ⟨0,Nat.zero_le _,rfl⟩ fun s ⟨k,hk,e⟩ => ?_;subst e;unfold iL;simp only [];refine .bifD (fun hlt=>?_) fun hge => .pure (by rw [show k=chs.length by omega,List.take_length]);have hlt:k<chs.length:=by omega
 have hb1:=hb (k+1) (by omega);have hb0:=hb k (by omega);rw [dQ hlt,oI] at hb1;refine Jo.bind (P:=(· = ja (chs.take (k+1)))) (.gdD ⟨by omega,by omega⟩ (Jo.bind (P:=(· = ja (chs.take (k+1)))) ?_ fun v hv => .pure hv)) fun v hv => .gdI (by omega) (.pure ⟨⟨k+1,by omega,by rw [hv];rfl⟩,by simp only [];omega⟩);rw [dQ hlt,oI];generalize hall:ja (chs.take k)=all at *;have hrow:∀ j,(all.getD j default).length<=100:=fun j=>by
  by_cases hj:j<all.length
  ·have hm:all.getD j default∈all:=by rw [gdq,geq hj];exact List.getElem_mem _
   rw [<- hall] at hm;have := (fI.1 hm).1;rw [<- hall,this,List.length_take];omega
  ·rw [gdq,gen (by omega)];exact Nat.zero_le _
 have hch:((chs.getD k default)).length<=100000\/all=[]:=by
  cases all with
  | nil=>exact .inr rfl
  | cons a l=>
   left
   rw [List.flatMap_cons,lla,llm] at hb1;omega
 have hch':0<all.length->(chs.getD k default).length<=100000:=fun h0=>by
  rcases hch with h | h
  ·exact h
  ·rw [h] at h0;cases h0
 have hFl:=hb1;rw [<- aW all] at hFl;refine (bQ all.length [] (fun j=>(chs.getD k default).map fun y=>all.getD j default++[y]) (fun j hj=>?_) ?_).mono fun v hv=>?_
 ·unfold bP;simp only [List.nil_append,tnn];refine .bifD (fun _=>?_) fun h=>absurd (show (j:Int)<(all.length:Int) by omega) h;refine Jo.bind (P:=(· = (List.range (j+1)).flatMap fun j=>(chs.getD k default).map fun y=>all.getD j default++[y])) (.gdD ⟨by omega,by omega⟩ ?_) fun v hv => .gdI (by omega) (.pure (by rw [hv];rfl));have hc:=hch' (by omega);have hF1:=Nat.le_trans (kJ (fun j=>(chs.getD k default).map fun y=>all.getD j default++[y]) (show j<=all.length by omega)) hFl;refine (bQ (chs.getD k default).length _ (fun i=>[all.getD j default++[(chs.getD k default).getD i default]]) (fun i hi=>?_) ?_).mono fun v hv=>?_
  ·unfold bO;simp only [tnn];have hil:((List.range i).flatMap fun i=>[all.getD j default++[(chs.getD k default).getD i default]]).length=i*1:=by rw [bz (m:=1) fun _ _=>rfl,List.length_range]
   refine .bifD (fun _=>?_) fun h=>absurd (show (i:Int)<((chs.getD k default).length:Int) by omega) h;refine .gdD ⟨by omega,by omega⟩ ((oK (by have := hrow j;omega)).bind fun v35 h35=>?_);subst h35;refine .gd (au (by have := hrow j;omega) rfl) (.gd (au (by simp only [lla];omega) rfl) (.gdI (by omega) (.pure ?_)));simp only [aU,List.append_assoc]
   rfl
  ·unfold bO;exact .bifD (fun h=>absurd h (by simp only [tnn];omega)) fun _ => .pure rfl
  ·rw [hv,aU,aW (chs.getD k default) fun y=>[all.getD j default++[y]],iD]
 ·unfold bP;exact .bifD (fun h=>absurd h (by simp only [];omega)) fun _ => .pure rfl
 ·rw [hv,List.nil_append];exact aW all fun x=>(chs.getD k default).map fun y=>x++[y]
theorem AO {s:LL} (h:s.length<=4000000):Jo (gD s) (· = s):=by
 unfold gD GI;have hc:gd (aQ (([]:LL).length+s.length) 24) (some (([]:LL)++s))=some s:=jq (au (by simpa using h) rfl);rw [hc]
 cases s with
 | nil=>exact .of (by simp) rfl
 | cons a s=>exact .pure rfl
theorem p8 (chs:List (LL)) (hn:chs.length<=100) (hb:∀ k,k<=chs.length->(ja (chs.take k)).length<=100000):Jo (d9 chs) (· = ja chs):=by
 unfold d9;refine Jo.bind (P:=(· = ja chs)) ?_ fun v hv => .pure hv;refine Jo.loop (fun s=>∃ k:Nat,k<=chs.length/\s=((k:Int),ja (chs.take k))) (fun s=>((chs.length:Int)-s.1).toNat) ⟨0,Nat.zero_le _,rfl⟩ fun s ⟨k,hk,e⟩ => ?_;subst e;unfold jT;simp only [];refine .bifD (fun hlt=>?_) fun hge => .pure (by rw [show k=chs.length by omega,List.take_length]);have hlt:k<chs.length:=by omega
 have hb1:=hb (k+1) (by omega);have hb0:=hb k (by omega);rw [dQ hlt,oI] at hb1;refine Jo.bind (P:=(· = ja (chs.take (k+1)))) (.gdD ⟨by omega,by omega⟩ (Jo.bind (P:=(· = ja (chs.take (k+1)))) ?_ fun v hv => .pure hv)) fun v hv => .gdI (by omega) (.pure ⟨⟨k+1,by omega,by rw [hv];rfl⟩,by simp only [];omega⟩);rw [dQ hlt,oI];generalize hall:ja (chs.take k)=all at *;have hrow:∀ j,(all.getD j default).length<=100:=fun j=>by
  by_cases hj:j<all.length
  ·have hm:all.getD j default∈all:=by rw [gdq,geq hj];exact List.getElem_mem _
   rw [<- hall] at hm;have := (fI.1 hm).1;rw [<- hall,this,List.length_take];omega
  ·rw [gdq,gen (by omega)];exact Nat.zero_le _
 have hch:((chs.getD k default)).length<=100000\/all=[]:=by
  cases all with
  | nil=>exact .inr rfl
  | cons a l=>
   left
   rw [List.flatMap_cons,lla,llm] at hb1;omega
 have hch':0<all.length->(chs.getD k default).length<=100000:=fun h0=>by
  rcases hch with h | h
  ·exact h
  ·rw [h] at h0;cases h0
 have hFl:=hb1;rw [<- aW all] at hFl;refine (bQ all.length [] (fun j=>(chs.getD k default).map fun y=>all.getD j default++[y]) (fun j hj=>?_) ?_).mono fun v hv=>?_
 ·unfold dG;simp only [List.nil_append,tnn];refine .bifD (fun _=>?_) fun h=>absurd (show (j:Int)<(all.length:Int) by omega) h;refine Jo.bind (P:=(· = (List.range (j+1)).flatMap fun j=>(chs.getD k default).map fun y=>all.getD j default++[y])) (.gdD ⟨by omega,by omega⟩ ?_) fun v hv => .gdI (by omega) (.pure (by rw [hv];rfl));have hc:=hch' (by omega);have hF1:=Nat.le_trans (kJ (fun j=>(chs.getD k default).map fun y=>all.getD j default++[y]) (show j<=all.length by omega)) hFl;refine (bQ (chs.getD k default).length _ (fun i=>[all.getD j default++[(chs.getD k default).getD i default]]) (fun i hi=>?_) ?_).mono fun v hv=>?_
  ·unfold dF;simp only [tnn];have hil:((List.range i).flatMap fun i=>[all.getD j default++[(chs.getD k default).getD i default]]).length=i*1:=by rw [bz (m:=1) fun _ _=>rfl,List.length_range]
   refine .bifD (fun _=>?_) fun h=>absurd (show (i:Int)<((chs.getD k default).length:Int) by omega) h;refine .gdD ⟨by omega,by omega⟩ ((AO (by have := hrow j;omega)).bind fun v35 h35=>?_);subst h35;refine .gd (au (by have := hrow j;omega) rfl) (.gd (au (by simp only [lla];omega) rfl) (.gdI (by omega) (.pure ?_)));simp only [aU,List.append_assoc]
   rfl
  ·unfold dF;exact .bifD (fun h=>absurd h (by simp only [tnn];omega)) fun _ => .pure rfl
  ·rw [hv,aU,aW (chs.getD k default) fun y=>[all.getD j default++[y]],iD]
 ·unfold dG;exact .bifD (fun h=>absurd h (by simp only [];omega)) fun _ => .pure rfl
 ·rw [hv,List.nil_append];exact aW all fun x=>(chs.getD k default).map fun y=>x++[y]
def prm:Nat->LI->LL
 | 0,_=>[[]]
 | n+1,l=>(List.range l.length).flatMap fun i=>(prm n (l.take i++l.drop (i+1))).map (l.getD i default :: ·)
theorem wh:∀ (n:Nat) (l:LI),l.length=n->(prm n l).length=Jm n
 | 0,_,_=>rfl
 | n+1,l,h=>by
  show ((List.range l.length).flatMap fun i=>(prm n (l.take i++l.drop (i+1))).map (l.getD i default :: ·)).length=Jm n*(n+1);rw [bz (m:=Jm n) fun i hi=>?_,List.length_range,h,Nat.mul_comm];have := List.mem_range.1 hi;rw [llm,wh n _ (by rw [lla,List.length_take,List.length_drop];omega)]
theorem wm {l:LI} {i:Nat} (h:i<l.length):(l.getD i default::(l.take i++l.drop (i+1))).Perm l:=by
 have e:l=l.take i++(l.getD i default::l.drop (i+1)):=by
  rw [gdq,geq h];simp
 exact (List.perm_middle.symm).trans (List.Perm.of_eq e.symm)
theorem mg:∀ {n:Nat} {l:LI},l.length=n->∀ {o:LI},o∈prm n l↔o.Perm l
 | 0,l,h,o=>by
  obtain rfl:=List.eq_nil_of_length_eq_zero h;show o∈[[]]↔_;rw [List.mem_singleton,List.perm_nil]
 | n+1,l,h,o=>by
  show o∈(List.range l.length).flatMap (fun i=>(prm n (l.take i++l.drop (i+1))).map (l.getD i default :: ·))↔_;simp only [List.mem_flatMap,List.mem_map,List.mem_range]
  constructor
  ·rintro ⟨i,hi,r,hr,rfl⟩;have := (mg (by rw [lla,List.length_take,List.length_drop];omega)).1 hr;exact (this.cons _).trans (wm hi)
  ·intro hp
   match o,hp.length_eq with
   | [],e=>rw [h] at e;cases e
   | a::r,e=>
    have ha:a∈l:=hp.mem_iff.1 List.mem_cons_self;have hi:=List.idxOf_lt_length_of_mem ha;have hg:l.getD (l.idxOf a) default=a:=by
     rw [gdq,geq hi];exact List.getElem_idxOf hi
    refine ⟨l.idxOf a,hi,r,(mg (by rw [lla,List.length_take,List.length_drop];omega)).2 ?_,by rw [hg]⟩;have h2:=wm hi;rw [hg] at h2;exact (hp.trans h2.symm).cons_inv
theorem zQ {a b:Nat} (h:a<=b):Jm a<=Jm b:=by
 induction h with
 | refl=>exact Nat.le_refl _
 | step _ ih=>exact Nat.le_trans ih (Nat.le_mul_of_pos_right _ (by omega))
theorem uV {n:Nat} {l:LI} (hl:l.length=n+1) (hn:n+1<=12) {acc:Nat} (hacc:acc<l.length) {step:LL×Int->Option ((LL×Int) ⊕ LL)} {r:LL} (hr:r=prm n (l.take acc++l.drop (acc+1)))
  (hs:∀ s,step s=bif decide (s.2<(r.length:Int)) then
   gd (decide (0<=s.2/\s.2<(r.length:Int))) <|
   gd (aQ (([l.getD acc default]:LI).length+(r.getD s.2.toNat default).length) 8) <|
   gd (aQ (s.1.length+1) 24) <|
   gd (Jf .i64 (s.2+(1:Int))) <|
   some (.inl ((s.1++[(([l.getD acc default]:LI)++(r.getD s.2.toNat default))]),(s.2+(1:Int)))) else some (.inr s.1)) :
  Jo (loopO step ((List.range acc).flatMap (fun i=>(prm n (l.take i++l.drop (i+1))).map (l.getD i default :: ·)),(0:Int))) (· = (List.range (acc+1)).flatMap (fun i=>(prm n (l.take i++l.drop (i+1))).map (l.getD i default :: ·))):=by
 have hrl:r.length=Jm n:=by rw [hr];exact wh n _ (by rw [lla,List.length_take,List.length_drop];omega)
 have hf:Jm n<=Jm 11:=zQ (by omega);have h11:Jm 11=39916800:=by decide
 have hrow:∀ k,(r.getD k default).length<=12:=fun k=>by
  by_cases hk:k<r.length
  ·have hm:r.getD k default∈r:=by rw [gdq,geq hk];exact List.getElem_mem _
   have hll:(l.take acc++l.drop (acc+1)).length=n:=by rw [lla,List.length_take,List.length_drop];omega
   have := ((mg hll).1 (show r.getD k default∈prm n (l.take acc++l.drop (acc+1)) by rw [<- hr];exact hm)).length_eq;rw [this,hll];omega
  ·rw [gdq,gen (by omega)];exact Nat.zero_le _
 have hpre:((List.range acc).flatMap (fun i=>(prm n (l.take i++l.drop (i+1))).map (l.getD i default :: ·))).length<=12*39916800:=by
  have e:=bz (l:=List.range acc) (f:=fun i=>(prm n (l.take i++l.drop (i+1))).map (l.getD i default :: ·)) (m:=Jm n) fun i hi=>by
   have := List.mem_range.1 hi;rw [llm,wh n _ (by rw [lla,List.length_take,List.length_drop];omega)]
  rw [e,List.length_range];exact Nat.mul_le_mul (by omega) (by omega)
 refine (bQ r.length _ (fun k=>[l.getD acc default::r.getD k default]) (fun k hk=>?_) ?_).mono fun v hv=>?_
 ·rw [hs];have hkl:((List.range k).flatMap fun k=>[l.getD acc default::r.getD k default]).length=k*1:=by rw [bz (m:=1) fun _ _=>rfl,List.length_range]
  refine .bifD (fun _ => .gdD ⟨by simp only [];omega,by simp only [];omega⟩ (.gd (au (by have := hrow k;simp only [tnn,List.length_singleton];omega) rfl) (.gd (Gj (by simp only [lla];omega) rfl) (.gdI (by simp only [];omega) (.pure ?_))))) fun h=>absurd (show (k:Int)<(r.length:Int) by omega) h;simp only [tnn,aU,List.append_assoc]
  rfl
 ·rw [hs];exact .bifD (fun h=>absurd h (by simp only [];omega)) fun _ => .pure rfl
 ·rw [hv,aU,aW r fun x=>[l.getD acc default::x],iD,<- hr]
theorem uW:∀ (n:Nat) (l:LI),l.length=n->n<=12->∀ m,n<m->Jo (df m l) (· = prm n l)
 | _,_,_,_,0,h=>by omega
 | 0,l,hl,hn,m+1,_=>by
  show Jo (db _ l) _;unfold db;exact .bif (fun _ => .pure rfl) fun h=>by rw [hl] at h;cases h
 | n+1,l,hl,hn,m+1,hm=>by
  show Jo (db _ l) _;unfold db;refine .bif (fun h=>by rw [hl] at h;have := eq_of_beq h;omega) fun _=>Jo.bind (P:=(· = prm (n+1) l)) ?_ fun v hv => .pure hv;refine (bQ l.length [] (fun i=>(prm n (l.take i++l.drop (i+1))).map (l.getD i default :: ·)) (fun k hk=>?_) ?_).mono fun v hv=>?_
  ·unfold fD;simp only [List.nil_append,tnn];refine .bifD (fun _=>?_) fun h=>absurd (show (k:Int)<(l.length:Int) by omega) h;refine Jo.bind (P:=(· = (List.range (k+1)).flatMap fun i=>(prm n (l.take i++l.drop (i+1))).map (l.getD i default :: ·))) ?_ fun v hv => .gdI (by omega) (.pure (by rw [hv];rfl));refine .gdD ⟨by omega,by omega⟩ ((oK (by omega)).bind fun v16 h16 => .gdI (by omega) ?_);subst v16;refine Jo.bind (P:=(· = l.take k++l.drop (k+1))) ?_ fun v21 h21=>?_
   ·unfold ju;refine .gdD ⟨by omega,by omega,by omega,by omega⟩ (.pure ?_);rw [tnn,show ((k:Int)+1).toNat=k+1 by omega]
   subst v21;refine (uW n _ (by rw [lla,List.length_take,List.length_drop];omega) (by omega) m (by omega)).bind fun v25 h25=>?_;exact uV hl hn hk h25 fun s=>by unfold iw;rfl
  ·unfold fD;exact .bifD (fun h=>absurd h (by simp only [];omega)) fun _ => .pure rfl
  ·rw [hv]
   rfl
theorem xD:∀ (n:Nat) (l:LI),l.length=n->n<=12->∀ m,n<m->Jo (bZ m l) (· = prm n l)
 | _,_,_,_,0,h=>by omega
 | 0,l,hl,hn,m+1,_=>by
  show Jo (bY _ l) _;unfold bY;exact .bif (fun _ => .pure rfl) fun h=>by rw [hl] at h;cases h
 | n+1,l,hl,hn,m+1,hm=>by
  show Jo (bY _ l) _;unfold bY;refine .bif (fun h=>by rw [hl] at h;have := eq_of_beq h;omega) fun _=>Jo.bind (P:=(· = prm (n+1) l)) ?_ fun v hv => .pure hv;refine (bQ l.length [] (fun i=>(prm n (l.take i++l.drop (i+1))).map (l.getD i default :: ·)) (fun k hk=>?_) ?_).mono fun v hv=>?_
  ·unfold eU;simp only [List.nil_append,tnn];refine .bifD (fun _=>?_) fun h=>absurd (show (k:Int)<(l.length:Int) by omega) h;refine Jo.bind (P:=(· = (List.range (k+1)).flatMap fun i=>(prm n (l.take i++l.drop (i+1))).map (l.getD i default :: ·))) ?_ fun v hv => .gdI (by omega) (.pure (by rw [hv];rfl));have e1:((l.drop (0:Int).toNat).take (k-(0:Int).toNat))=l.take k:=by simp
   have e2:((l.drop ((k:Int)+1).toNat).take (l.length-((k:Int)+1).toNat))=l.drop (k+1):=by
    rw [show ((k:Int)+1).toNat=k+1 by omega];exact List.take_of_length_le (by rw [List.length_drop];exact Nat.le_refl _)
   rw [e1,e2];have g1:(l.take k).length<=12:=by rw [List.length_take];omega
   have g2:(l.drop (k+1)).length<=12:=by rw [List.length_drop];omega
   refine .gdD ⟨by omega,by omega,by omega⟩ (.gd (au (by simp only [List.length_nil];omega) rfl) (.gdI (by omega) (.gdD ⟨by omega,by omega,by omega⟩ (.gd (au (by omega) rfl) ?_))));refine (xD n _ (by rw [lla,List.length_take,List.length_drop];omega) (by omega) m (by omega)).bind fun v25 h25=>?_;refine uV hl hn hk h25 fun s=>?_;unfold gI;simp only [tnn];rw [jq (decide_eq_true (show 0<=(k:Int)/\(k:Int)<(l.length:Int) by omega))]
  ·unfold eU;exact .bifD (fun h=>absurd h (by simp only [];omega)) fun _ => .pure rfl
  ·rw [hv]
   rfl
theorem rA {α:Type} {f:Nat->Option α} {v:α} (n:Nat) (h:∀ m,n<m->Jo (f m) (· = v)):Jo (DK f) (· = v):=Jo.of (yx (n+1) fun m hm=>(h m hm).eq) rfl
theorem Gl (l:LI) (h:l.length<=12):Jo (kZ l) (· = prm l.length l):=rA l.length fun m hm=>uW l.length l rfl h m hm
theorem Ht (l:LI) (h:l.length<=12):Jo (kv l) (· = prm l.length l):=rA l.length fun m hm=>xD l.length l rfl h m hm
section
variable {p:List (List Jh)}
def chE (p:List (List Jh)) (i:Nat):LI:=if (ev p (i:Int)).Reads=true then (Jr p (ev p (i:Int)).Loc).filter (fun n => !decide (n=(i:Int))) else [-1]
def chF (p:List (List Jh)):LL:=(List.range (evs p).length).map (chE p)
def chL (p:List (List Jh)) (l:Nat):LL:=(prm (Jr p (l:Int)).tail.length (Jr p (l:Int)).tail).map ((l:Int) :: ·)
def Js (p:List (List Jh)):List (LL):=[chL p 0,chL p 1,chL p 2]
def bM (p:List (List Jh)):List Ji:=(ja (chF p)).flatMap fun f=>(ja (Js p)).map fun o=>⟨f,o⟩
abbrev Jt (p:List (List Jh)):List (List Ins):=p.map fun r=>r.map gy
theorem xE (q:Jj->Bool) (f:Ins->Bool) (h:∀ t k x,x.Op≠4->q ⟨t,k,x.Loc,rdX x,wrX x⟩=f (gy x)) (h4:∀ x:Jh,x.Op=4->f (gy x)=false) (t:Nat) (row:List Jh):∀ r:Nat,r<=row.length->((evR t row r).filter q).length=((row.take r).map gy).countP f
 | 0,_=>by simp [evR]
 | r+1,hr=>by
  have ih:=xE q f h h4 t row r (by omega);have e:row.getD r default=row[r]:=by rw [gdq,geq (by omega)];rfl
  rw [evR,List.filter_append,lla,ih,<- List.take_append_getElem (show r<row.length by omega),List.map_append,List.countP_append,e]
  congr 1
  unfold evI
  by_cases ho:row[r].Op=4
  ·rw [if_pos ho];simp [h4 _ ho]
  ·rw [if_neg ho];have := h t r row[r] ho
   by_cases hf:f (gy row[r])=true
   ·rw [hf] at this;rw [List.filter_cons_of_pos (by rw [this])];simp [hf]
   ·have hf':f (gy row[r])=false:=by simpa using hf
    rw [hf'] at this;rw [List.filter_cons_of_neg (by rw [this];decide)];simp [hf']
theorem xG (q:Jj->Bool) (f:Ins->Bool) (h:∀ (t k:Int) x,x.Op≠4->q ⟨t,k,x.Loc,rdX x,wrX x⟩=f (gy x)) (h4:∀ x:Jh,x.Op=4->f (gy x)=false):((evs p).filter q).length=(ev0.filter q).length+kW f (Jt p):=by
 have key:∀ n:Nat,n<=p.length->((evP p n).filter q).length=(ev0.filter q).length+kW f ((Jt p).take n):=fun n=>by
  induction n with
  | zero=>intro _;simp [evP,kW]
  | succ n ih=>
   intro hn;have e:p.getD n default=p[n]:=by rw [gdq,geq (by omega)];rfl
   have hn':n<(Jt p).length:=by rw [llm];omega
   rw [evP,List.filter_append,lla,ih (by omega),xE q f (fun t k=>h t k) h4 n _ _ (Nat.le_refl _),cG f (Jt p) n hn',List.take_length,Nat.add_assoc,e]
   congr 2
   simp
 have := key p.length (Nat.le_refl _);rw [show (Jt p).take p.length=Jt p from List.take_of_length_le (by simp)] at this;exact this
theorem yT {l:Nat} (hl:l<3):(Jr p (l:Int)).length=cw (Jt p) (l:Int)+1:=by
 have h1:(Jr p (l:Int)).length=((evs p).filter fun e=>e.Writes&&decide (e.Loc=(l:Int))).length:=by
  rw [<- qG (fun e:Jj=>e.Writes&&decide (e.Loc=(l:Int))) default (evs p)];unfold Jr;rw [List.filter_map,llm]
  congr 2
 rw [h1,xG _ (aV (l:Int) wrB) (fun t k x ho=>?_) (fun x ho=>?_)]
 ·have : (ev0.filter fun e=>e.Writes&&decide (e.Loc=(l:Int))).length=1:=by
   match l,hl with
   | 0,_=>rfl
   | 1,_=>rfl
   | 2,_=>rfl
  rw [this];unfold cw;omega
 ·unfold aV gy wrB wrO wrX;simp only;rw [Bool.and_comm,show (x.Loc==(l:Int))=decide (x.Loc=(l:Int)) from Fe _ _]
 ·unfold aV gy wrB wrO;simp [ho]
theorem yU {l:Nat} (hl:l<3):((evs p).filter fun e=>e.Reads&&decide (e.Loc=(l:Int))).length=cr (Jt p) (l:Int):=by
 rw [xG _ (aV (l:Int) rdB) (fun t k x ho=>?_) (fun x ho=>?_)]
 ·have : (ev0.filter fun e=>e.Reads&&decide (e.Loc=(l:Int))).length=0:=by
   match l,hl with
   | 0,_=>rfl
   | 1,_=>rfl
   | 2,_=>rfl
  rw [this];unfold cr;omega
 ·unfold aV gy rdB rdO rdX;simp only;rw [Bool.and_comm,show (x.Loc==(l:Int))=decide (x.Loc=(l:Int)) from Fe _ _]
 ·unfold aV gy rdB rdO;simp [ho]
def gE (w:Nat->Nat) (e:Jj):Nat:=if e.Reads=true then w e.Loc.toNat+1 else 1
theorem Gm (w:Nat->Nat) (L:List Jj) (h:∀ e∈L,e.Reads=true->0<=e.Loc/\e.Loc<=2):iN (L.map (gE w))=(w 0+1) ^ (L.filter fun e=>e.Reads&&decide (e.Loc=((0:Nat):Int))).length*(w 1+1) ^ (L.filter fun e=>e.Reads&&decide (e.Loc=((1:Nat):Int))).length*(w 2+1) ^ (L.filter fun e=>e.Reads&&decide (e.Loc=((2:Nat):Int))).length:=by
 induction L with
 | nil=>rfl
 | cons e L ih=>
  have ih:=ih fun a ha=>h a (List.mem_cons_of_mem _ ha);show gE w e*iN (L.map (gE w))=_;rw [ih];unfold gE
  by_cases hr:e.Reads=true
  ·obtain ⟨h0,h2⟩:=h e List.mem_cons_self hr;have hc:e.Loc=0\/e.Loc=1\/e.Loc=2:=by omega
   rcases hc with hc | hc | hc <;> simp [hr,hc,Nat.pow_succ] <;> ac_rfl
  ·simp [hr]
theorem Gn (hp:PV p) {e:Jj} (h:e∈evs p):0<=e.Loc/\e.Loc<=2:=by
 obtain ⟨i,hi,rfl⟩:=List.getElem_of_mem h;have := jE hp (n:=(i:Int)) (by omega) (by omega);unfold ev at this;rw [tnn,gdq,geq hi] at this;exact this
theorem Gp (hp:PV p) {i:Nat} (hi:i<(evs p).length):(chE p i).length<=gE (fun l=>cw (Jt p) (l:Int)) ((evs p).getD i default):=by
 have he:(evs p).getD i default=ev p (i:Int):=by unfold ev;rw [tnn]
 have hl:=jE hp (n:=(i:Int)) (by omega) (by omega);rw [he];unfold chE gE
 split
 ·have := yT (p:=p) (l:=(ev p (i:Int)).Loc.toNat) (by omega);rw [Int.toNat_of_nonneg hl.1] at this;have h2:=List.length_filter_le (fun n => !decide (n=(i:Int))) (Jr p (ev p (i:Int)).Loc);simp only [Int.toNat_of_nonneg hl.1];omega
 ·exact Nat.le_refl _
theorem mh {l:Nat} (hl:l<3):(chL p l).length=Jm (cw (Jt p) (l:Int)):=by
 unfold chL;rw [llm,wh _ _ rfl,List.length_tail,yT hl,Nat.add_sub_cancel]
theorem EE (hv:aZ (Jt p)=true):iN ((evs p).map (gE fun l=>cw (Jt p) (l:Int)))*(Jm (cw (Jt p) 0)*Jm (cw (Jt p) 1)*Jm (cw (Jt p) 2))<=3000:=by
 have hp:=PV.of hv;simp only [aZ,bae,dte] at hv;have h3:=hv.2;rw [Gm _ _ fun e he _=>Gn hp he,yU (by omega),yU (by omega),yU (by omega)];refine Nat.le_trans (Nat.le_of_eq ?_) h3;show _=1*Hd (Jt p) 0*Hd (Jt p) 1*Hd (Jt p) 2;unfold Hd;rw [Nat.one_mul];show _=_ ^ cr (Jt p) ((0:Nat):Int)*Jm (cw (Jt p) ((0:Nat):Int))*(_ ^ cr (Jt p) ((1:Nat):Int)*Jm (cw (Jt p) ((1:Nat):Int)))*(_ ^ cr (Jt p) ((2:Nat):Int)*Jm (cw (Jt p) ((2:Nat):Int)));simp only [Int.ofNat_zero,Int.natCast_one,Int.cast_ofNat_Int]
 ac_rfl
structure Few (p:List (List Jh)):Prop where
 f:∀ k,(ja ((chF p).take k)).length<=3000/\(ja ((chF p).drop k)).length<=3000
 o:∀ k,(ja ((Js p).take k)).length<=3000/\(ja ((Js p).drop k)).length<=3000
 all:(ja (chF p)).length*(ja (Js p)).length<=3000
 w:∀ l:Nat,l<3->(Jr p (l:Int)).length<=8/\(chL p l).length<=3000
theorem few (hv:aZ (Jt p)=true):Few p:=by
 have hp:=PV.of hv;have hE:=EE hv;have hgs:∀ a∈(evs p).map (gE fun l=>cw (Jt p) (l:Int)),1<=a:=fun a ha=>by
  obtain ⟨e,_,rfl⟩:=List.mem_map.1 ha;unfold gE
  split <;> omega
 have f0:=pW (cw (Jt p) 0);have f1:=pW (cw (Jt p) 1);have f2:=pW (cw (Jt p) 2);have g0:=oJ hgs;have hfs:∀ a∈(Js p).map List.length,1<=a:=fun a ha=>by
  simp only [Js,List.map_cons,List.map_nil,List.mem_cons,List.not_mem_nil,or_false] at ha;rcases ha with rfl | rfl | rfl
  ·rw [mh (by omega)];exact pW _
  ·rw [mh (by omega)];exact pW _
  ·rw [mh (by omega)];exact pW _
 have hO:iN ((Js p).map List.length)=Jm (cw (Jt p) 0)*Jm (cw (Jt p) 1)*Jm (cw (Jt p) 2):=by
  show (chL p 0).length*((chL p 1).length*((chL p 2).length*1))=_;rw [mh (by omega),mh (by omega),mh (by omega),Nat.mul_one,Nat.mul_assoc]
  rfl
 have hOpos:=oJ hfs;have hA:iN ((evs p).map (gE fun l=>cw (Jt p) (l:Int)))<=3000:=Nat.le_trans (Nat.le_mul_of_pos_right _ (by rw [<- hO];exact hOpos)) hE;have hB:iN ((Js p).map List.length)<=3000:=by rw [hO];exact Nat.le_trans (Nat.le_mul_of_pos_left _ g0) hE
 have hmono:∀ k,iN (((chF p).map List.length).take k)<=iN (((evs p).map (gE fun l=>cw (Jt p) (l:Int))).take k)/\iN (((chF p).map List.length).drop k)<=iN (((evs p).map (gE fun l=>cw (Jt p) (l:Int))).drop k):=fun k=>by
  have hlen:(chF p).length=(evs p).length:=by simp [chF]
  have hget:∀ i:Nat,i<(evs p).length->((chF p).map List.length).getD i 0<=((evs p).map (gE fun l=>cw (Jt p) (l:Int))).getD i 0:=fun i hi=>by
   have := Gp hp hi;rw [gdq,geq hi] at this;rw [gdq,gdq,List.getElem?_map,List.getElem?_map,geq hi];unfold chF;rw [List.getElem?_map,List.getElem?_range hi];exact this
  constructor
  ·refine uS (by simp [hlen]) fun i hi=>?_;have hi':i<k/\i<(evs p).length:=by
    rw [List.length_take,llm,hlen] at hi;omega
   rw [gdq,gdq,List.getElem?_take,List.getElem?_take,if_pos hi'.1,if_pos hi'.1,<- gdq,<- gdq];exact hget i hi'.2
  ·refine uS (by simp [hlen]) fun i hi=>?_;have hi':k+i<(evs p).length:=by
    rw [List.length_drop,llm,hlen] at hi;omega
   rw [gdq,gdq,List.getElem?_drop,List.getElem?_drop,<- gdq,<- gdq];exact hget _ hi'
 refine ⟨fun k=>⟨?_,?_⟩,fun k=>⟨?_,?_⟩,?_,fun l hl=>?_⟩
 ·rw [ll,List.map_take];exact Nat.le_trans (hmono k).1 (Nat.le_trans (uT hgs k) hA)
 ·rw [ll,List.map_drop];exact Nat.le_trans (hmono k).2 (Nat.le_trans (uU hgs k) hA)
 ·rw [ll,List.map_take];exact Nat.le_trans (uT hfs k) hB
 ·rw [ll,List.map_drop];exact Nat.le_trans (uU hfs k) hB
 ·rw [ll,ll,hO];have := (hmono (evs p).length).1;rw [List.take_of_length_le (by simp [chF]),List.take_of_length_le (by simp)] at this;exact Nat.le_trans (Nat.mul_le_mul_right _ this) hE
 ·have hf:Jm (cw (Jt p) (l:Int))<=3000:=by
   rw [<- mh hl];have h0:(chL p l).length∈(Js p).map List.length:=by
    match l,hl with
    | 0,_=>simp [Js]
    | 1,_=>simp [Js]
    | 2,_=>simp [Js]
   refine Nat.le_trans ?_ hB
   match l,hl with
   | 0,_=>exact Nat.le_mul_of_pos_right _ (Nat.mul_pos (hfs _ (by simp [Js])) (Nat.mul_pos (hfs _ (by simp [Js])) Nat.one_pos))
   | 1,_=>
    refine Nat.le_trans ?_ (Nat.le_mul_of_pos_left _ (hfs _ (by simp [Js])));exact Nat.le_mul_of_pos_right _ (Nat.mul_pos (hfs _ (by simp [Js])) Nat.one_pos)
   | 2,_=>
    refine Nat.le_trans ?_ (Nat.le_mul_of_pos_left _ (hfs _ (by simp [Js])));refine Nat.le_trans ?_ (Nat.le_mul_of_pos_left _ (hfs _ (by simp [Js])));exact Nat.le_of_eq (Nat.mul_one _).symm
  refine ⟨?_,by rw [mh hl];exact hf⟩;rw [yT hl];rcases Nat.lt_or_ge (cw (Jt p) (l:Int)) 7 with h | h
  ·omega
  ·have := zQ h;have h7:Jm 7=5040:=by decide
   omega
end
section
variable {p:List (List Jh)}
theorem zS (hp:PV p) (l:Int):Jo (bV (evs p) l) (· = Jr p l):=by
 have hel:=iz hp.vs;unfold bV;refine Jo.bind (P:=(· = Jr p l)) ?_ fun v hv => .pure hv;refine Jo.loop (fun z=>∃ n:Nat,n<=(evs p).length/\z=(((List.range n).map fun (i:Nat)=>(i:Int)).filter (Wl p l),(n:Int))) (fun z=>(((evs p).length:Int)-z.2).toNat) ⟨0,by omega,rfl⟩ fun z ⟨n,h1,h2⟩ => ?_;subst h2;unfold dD;have en:(evs p).getD n default=ev p (n:Int):=by unfold ev;rw [tnn]
 simp only [tnn,en];refine .bifD (fun hk=>?_) fun hk => .pure ?_
 ·have hsl:(((List.range n).map fun (i:Nat)=>(i:Int)).filter (Wl p l)).length<=n:=Nat.le_trans (List.length_filter_le _ _) (by simp);have hst:((List.range (n+1)).map fun (i:Nat)=>(i:Int)).filter (Wl p l)=((List.range n).map fun (i:Nat)=>(i:Int)).filter (Wl p l)++if Wl p l (n:Int) then [(n:Int)] else []:=by
   rw [List.range_succ,List.map_append,List.filter_append]
   congr 1
   by_cases h:Wl p l (n:Int)=true
   ·rw [if_pos h];simp [h]
   ·rw [if_neg h];simp [h]
  refine Jo.bind (P:=(· = ((List.range (n+1)).map fun (i:Nat)=>(i:Int)).filter (Wl p l))) (.gdD ⟨by omega,hk⟩ (Jo.bind (P:=(· = Wl p l (n:Int))) (.bif (fun h => .pure ?_) fun h => .pure ?_) fun b hb => .bif (fun h => .gd (au (by omega) rfl) (.pure ?_)) fun h => .pure ?_)) fun v hv => .gdI (by omega) (.pure ⟨⟨n+1,by omega,by rw [hv];rfl⟩,by simp only [];omega⟩)
  ·unfold Wl;rw [h,Bool.true_and];exact Fe _ _
  ·unfold Wl;rw [h];rfl
  ·rw [hst,<- hb,h];rfl
  ·rw [hst,<- hb,h];simp
 ·have : n=(evs p).length:=by omega
  rw [this]
  rfl
theorem zT (hp:PV p) (l:Int):Jo (bW (evs p) l) (· = Jr p l):=yP hp l
def nq (i:Int) (n:Int):Bool := !decide (n=i)
theorem EF (v:LI) (i:Int) (hl:v.length<=1000000):Jo (aB v i) (· = v.filter (nq i)):=by
 unfold aB;have heq:∀ a:Int,Jo (da a i) (· = decide (a=i)):=fun a=>by unfold da;exact .pure (Fe a i)
 refine Jo.bind (P:=fun r:Int=>(r = -1/\∀ n∈v,n≠i)\/(0<=r/\r<(v.length:Int)/\v.getD r.toNat default=i/\∀ n∈v.take r.toNat,n≠i)) ?_ fun r hr=>?_
 ·unfold aL;refine Jo.sum (PS:=fun _=>∀ n∈v,n≠i) (PW:=fun r:Int=>(r = -1/\∀ n∈v,n≠i)\/(0<=r/\r<(v.length:Int)/\v.getD r.toNat default=i/\∀ n∈v.take r.toNat,n≠i)) ?_ fun _ h => .pure (.inl ⟨rfl,h⟩);refine Jo.loop (fun z=>∃ k:Nat,k<=v.length/\z=(k:Int)/\∀ n∈v.take k,n≠i) (fun z=>((v.length:Int)-z).toNat) ⟨0,by omega,rfl,by simp⟩ fun z ⟨k,h1,h2,h3⟩ => ?_;subst h2;unfold aY;simp only [tnn];refine .bifD (fun hk => .gdD ⟨by omega,hk⟩ ((heq _).bind fun b hb=>?_)) fun hk => .pure ?_
  ·subst hb;refine .bifD (fun he => .pure (.inr ⟨by omega,hk,by rw [tnn];exact he,by rw [tnn];exact h3⟩)) fun he => .gdI (by omega) (.pure ⟨⟨k+1,by omega,rfl,fun n hn=>?_⟩,by omega⟩);rw [dQ (by omega),List.mem_append,List.mem_singleton] at hn;rcases hn with hn | rfl
   ·exact h3 n hn
   ·exact he
  ·rwa [show k=v.length by omega,List.take_length] at h3
 rcases hr with ⟨rfl,h⟩ | ⟨r0,r1,r2,r3⟩
 ·refine .bif (fun _ => .pure ?_) fun h=>by cases h
  rw [List.filter_eq_self.2 fun n hn=>by unfold nq;rw [decide_eq_false (h n hn)];rfl]
 ·refine .bif (fun h=>by have := eq_of_beq h;omega) fun _=>?_;refine Jo.bind (P:=fun z=>z.1.length=v.length/\(0<=z.2/\z.2<=(v.length:Int))/\z.1.take z.2.toNat=v.filter (nq i)) (.gdI (by omega) ?_) fun z ⟨z1,⟨z2,z3⟩,z4⟩ => ?_
  ·refine Jo.loop (fun z=>∃ j k:Nat,j<=v.length/\k<=j/\z.2.1=(j:Int)/\z.2.2=(k:Int)/\z.1.length=v.length/\(∀ q:Nat,j<=q->z.1[q]? = v[q]?)/\z.1.take k=(v.take j).filter (nq i)) (fun z=>((v.length:Int)-z.2.1).toNat) ⟨r.toNat+1,r.toNat,by omega,by omega,by simp only [];omega,by simp only [];omega,rfl,fun _ _=>rfl,?_⟩ fun z ⟨j,k,h1,h2,h3,h4,h5,h6,h7⟩ => ?_
   ·simp only [];rw [dQ (by omega),List.filter_append,List.filter_eq_self.2 fun n hn=>by unfold nq;rw [decide_eq_false (r3 n hn)];rfl,r2];simp [nq]
   ·obtain ⟨s,z1,z2⟩:=z;simp only at h3 h4 h5 h6 h7;subst h3 h4;unfold aF;simp only [tnn,h5];refine .bifD (fun hk=>?_) fun hk => .pure ⟨h5,⟨by simp only [];omega,by simp only [];omega⟩,?_⟩
    ·have hj:j<v.length:=by omega
     have e1:s.getD j default=v.getD j default:=by rw [gdq,gdq,h6 j (Nat.le_refl _)]
     rw [e1];refine Jo.bind (P:=fun z:List Int×Int=>∃ k:Nat,k<=j+1/\z.2=(k:Int)/\z.1.length=v.length/\(∀ q:Nat,j+1<=q->z.1[q]? = v[q]?)/\z.1.take k=(v.take (j+1)).filter (nq i)) (.gdD ⟨by omega,hk⟩ ((heq _).bind fun b hb=>?_)) fun z ⟨k',g1,g2,g3,g4,g5⟩ => .gdI (by omega) (.pure ⟨⟨j+1,k',by omega,g1,rfl,g2,g3,g4,g5⟩,by simp only [];omega⟩);subst hb;rw [dQ hj,List.filter_append];refine .bif (fun hn=>?_) fun hn=>?_
     ·refine .gdD ⟨by omega,by omega⟩ (.gdI (by omega) (.pure ⟨k+1,by omega,rfl,by simp [h5],fun q hq=>?_,?_⟩))
      ·simp only [];rw [List.getElem?_set_ne (by omega)];exact h6 q (by omega)
      ·simp only [];have hks:k<s.length:=by omega
       rw [List.take_add_one,List.getElem?_set_self hks,List.take_set_of_le (Nat.le_refl _),h7]
       congr 1
       rw [List.filter_cons_of_pos (show nq i (v.getD j default)=true from hn)]
       rfl
     ·refine .pure ⟨k,by omega,rfl,h5,fun q hq=>h6 q (by omega),?_⟩;simp only [];rw [h7,List.filter_cons_of_neg (show ¬ nq i (v.getD j default)=true from fun h=>by rw [show nq i (v.getD j default)=false from hn] at h;cases h)];simp
    ·simp only [];rw [tnn,h7,show j=v.length by omega,List.take_length]
  ·refine .gdD ⟨by omega,by omega⟩ (.gdD ⟨z2,by omega,by omega⟩ (.gdD ⟨by omega,z2,by omega⟩ (.pure ?_)));rw [<- z4];simp only [cpy,Nat.zero_add,show (0:Int).toNat=0 from rfl,List.drop_zero,Nat.sub_zero]
   split
   ·rw [List.append_assoc,List.take_append_of_le_length (by rw [List.length_take];omega),List.take_take,Nat.min_self]
   ·rfl
theorem AP (x:Ji) (h1:x.From.length<=100000) (h2:x.Order.length<=100000) (h3:∀ i,(x.Order.getD i default).length<=100000):Jo (dK x) (· = x):=by
 unfold dK;refine (oK (by omega)).bind fun v1 e1 => .gdD ⟨by omega,by omega,by omega,by omega⟩ (Jo.bind (P:=(· = x.Order)) ?_ fun s hs => .pure (by rw [e1,hs]));refine Jo.loop (fun z=>∃ k:Nat,k<=x.Order.length/\z=(x.Order.take k++List.replicate (x.Order.length-k) [],(k:Int))) (fun z=>((x.Order.length:Int)-z.2).toNat) ⟨0,by omega,by simp⟩ fun z ⟨k,g1,g2⟩ => ?_;subst g2;unfold fK;simp only [tnn];refine .bifD (fun hk=>?_) fun hk => .pure ?_
 ·have hk':k<x.Order.length:=by omega
  refine .gdD ⟨by omega,hk⟩ ((oK (by have := h3 k;omega)).bind fun v12 e12 => .gdD ⟨by omega,?_⟩ (.gdI (by omega) (.pure ⟨⟨k+1,by omega,?_⟩,by simp only [];omega⟩)))
  ·simp only [lla,List.length_take,List.length_replicate];omega
  ·rw [e12,dQ hk',List.set_append_right _ _ (by rw [List.length_take];omega),List.length_take,Nat.min_eq_left (by omega),Nat.sub_self,show x.Order.length-k=(x.Order.length-(k+1))+1 by omega,List.replicate_succ,List.set_cons_zero,List.append_assoc]
   rfl
 ·rw [show k=x.Order.length by omega,Nat.sub_self,List.take_length];simp
theorem De (x:Ji) (h1:x.From.length<=100000) (h2:x.Order.length<=100000) (h3:∀ i,(x.Order.getD i default).length<=100000):Jo (gJ x) (· = x):=by
 unfold gJ;refine .gd (au (by simp only [List.length_nil];omega) rfl) (Jo.bind (P:=(· = x.Order)) ?_ fun s hs => .pure (by rw [hs];rfl));refine Jo.loop (fun z=>∃ k:Nat,k<=x.Order.length/\z=(x.Order.take k,(k:Int))) (fun z=>((x.Order.length:Int)-z.2).toNat) ⟨0,by omega,by simp⟩ fun z ⟨k,g1,g2⟩ => ?_;subst g2;unfold iU;simp only [tnn,List.nil_append];refine .bifD (fun hk=>?_) fun hk => .pure ?_
 ·have hk':k<x.Order.length:=by omega
  refine .gdD ⟨by omega,hk⟩ (.gd (au (by have := h3 k;simp only [List.length_nil];omega) rfl) (.gd (au (by rw [List.length_take];omega) rfl) (.gdI (by omega) (.pure ⟨⟨k+1,by omega,?_⟩,by simp only [];omega⟩))));rw [dQ hk']
  rfl
 ·rw [show k=x.Order.length by omega,List.take_length]
theorem zU (l:Nat) (hl:l<3):∃ t,Jr p (l:Int)=(l:Int)::t:=Et hl
theorem yV {f:LI} (h:f∈ja (chF p)):f.length=(evs p).length:=by
 rw [(fI.1 h).1];simp [chF]
theorem Df (F:Few p) {o:LL} (h:o∈ja (Js p)):o.length=3/\∀ i,(o.getD i default).length<=100:=by
 obtain ⟨h1,h2⟩:=fI.1 h;refine ⟨h1,fun i=>?_⟩
 by_cases hi:i<3
 ·obtain ⟨y,hy,e⟩:=h2 i hi;rw [gdq,e];have hw:=(F.w i hi).1;have hy':y∈chL p i:=by
   match i,hi with
   | 0,_=>exact hy
   | 1,_=>exact hy
   | 2,_=>exact hy
  unfold chL at hy';obtain ⟨r,hr,rfl⟩:=List.mem_map.1 hy';have := ((mg rfl).1 hr).length_eq;rw [List.length_tail] at this;show ((i:Int)::r).length<=100;rw [llc];omega
 ·rw [gdq,gen (by rw [h1];exact Nat.le_of_not_lt hi)];exact Nat.zero_le _
theorem getD_in {α:Type} [Inhabited α] {l:List α} {i:Nat} (h:i<l.length):l.getD i default∈l:=by
 rw [gdq,geq h];exact List.getElem_mem _
theorem Gq (FF:LL) (OO s30:List (LL)) (hO:Jo (d9 s30) (· = OO)) (hall:FF.length*OO.length<=3000) (hn:FF.length<=3000) (hn2:OO.length<=3000) (hf:∀ f∈FF,f.length<=24) (ho:∀ o∈OO,o.length=3/\∀ i,(o.getD i default).length<=100) :
  Jo (loopO (bJ s30 FF) (([]:List Ji),(0:Int))) (· = FF.flatMap fun f=>OO.map fun o=>(⟨f,o⟩:Ji)):=by
 have hpre:∀ j,j<=FF.length->((List.range j).flatMap fun j=>OO.map fun o=>(⟨FF.getD j default,o⟩:Ji)).length<=3000:=fun j hj=>by
  have := kJ (fun j=>OO.map fun o=>(⟨FF.getD j default,o⟩:Ji)) hj;rw [aW FF fun f=>OO.map fun o=>(⟨f,o⟩:Ji),bz (l:=FF) (f:=fun f=>OO.map fun o=>(⟨f,o⟩:Ji)) (m:=OO.length) fun _ _=>llm _] at this;exact Nat.le_trans this hall
 refine (bQ FF.length [] (fun j=>OO.map fun o=>(⟨FF.getD j default,o⟩:Ji)) (fun j hj=>?_) ?_).mono fun v hv=>?_
 ·have hfj:=hf _ (getD_in hj);have hpj:=hpre (j+1) hj;rw [aU,lla,llm] at hpj;unfold bJ;simp only [List.nil_append,tnn];refine .bifD (fun _=>?_) fun h=>absurd (show (j:Int)<(FF.length:Int) by omega) h;refine Jo.bind (P:=(· = (List.range (j+1)).flatMap fun j=>OO.map fun o=>(⟨FF.getD j default,o⟩:Ji))) (.gdD ⟨by omega,by omega⟩ ?_) fun v hv => .gdI (by omega) (.pure (by rw [hv];rfl));refine hO.bind fun v86 h86=>?_;subst v86;generalize hpe:(List.range j).flatMap (fun j=>OO.map fun o=>(⟨FF.getD j default,o⟩:Ji))=pre at hpj ⊢;generalize hfg:FF.getD j default=f at hfj ⊢;have hstep:∀ s:List Ji×Int,bI FF (pre,(j:Int)) OO s=bif decide (s.2<(OO.length:Int)) then
    gd (decide (0<=s.2/\s.2<(OO.length:Int)))<|Option.bind (dK (⟨f,OO.getD s.2.toNat default⟩:Ji)) fun v99=>
    gd (aQ (s.1.length+1) 48)<|gd (Jf .i64 (s.2+(1:Int)))<|some (.inl ((s.1++[v99]),(s.2+(1:Int)))) else some (.inr s.1):=fun s=>by
   unfold bI;simp only [tnn,hfg]
  generalize bI FF (pre,(j:Int)) OO=step at hstep ⊢;refine (bQ OO.length pre (fun i=>[(⟨f,OO.getD i default⟩:Ji)]) (fun i hi=>?_) ?_).mono fun v hv=>?_
  ·have hil:((List.range i).flatMap fun i=>[(⟨f,OO.getD i default⟩:Ji)]).length=i*1:=by rw [bz (m:=1) fun _ _=>rfl,List.length_range]
   obtain ⟨ho1,ho2⟩:=ho _ (getD_in hi);rw [hstep];simp only [tnn];refine .bifD (fun _ => .gdD ⟨by omega,by omega⟩ ((AP ⟨f,OO.getD i default⟩ (Nat.le_trans hfj (by omega)) (by rw [ho1];omega) (fun i=>Nat.le_trans (ho2 i) (by omega))).bind fun v99 h99 => .gd (au (by rw [lla];omega) rfl) (.gdI (by omega) (.pure ?_)))) fun h=>absurd (show (i:Int)<(OO.length:Int) by omega) h;rw [h99,aU,List.append_assoc]
   rfl
  ·rw [hstep];exact .bifD (fun h=>absurd h (by simp only [];omega)) fun _ => .pure rfl
  ·rw [hv,aW OO fun o=>[(⟨f,o⟩:Ji)],iD,aU,hpe,hfg]
 ·unfold bJ;exact .bifD (fun h=>absurd h (by simp only [];omega)) fun _ => .pure rfl
 ·rw [hv,List.nil_append];exact aW FF fun f=>OO.map fun o=>(⟨f,o⟩:Ji)
theorem xH (hv:aZ (Jt p)=true):Jo (dh p) (· = bM p):=by
 have hp:=PV.of hv;have F:=few hv;have hel:=iz hp.vs;unfold dh;refine (FX hp.vs).bind fun v1 e1=>?_;subst v1;have hen:∀ n:Nat,(evs p).getD n default=ev p (n:Int):=fun n=>by unfold ev;rw [tnn]
 refine Jo.bind (P:=(· = chF p)) ?_ fun s2 h2=>?_
 ·refine (bQ (evs p).length [] (fun i=>[chE p i]) (fun k hk=>?_) ?_).mono fun v hv=>by rw [hv,List.nil_append,iD];rfl
  ·unfold dU;have hkl:((List.range k).flatMap fun i=>[chE p i]).length=k*1:=by rw [bz (m:=1) fun _ _=>rfl,List.length_range]
   simp only [List.nil_append,tnn,hen];refine .bifD (fun _ => .gdD ⟨by omega,by omega⟩ (Jo.bind (P:=(· = chE p k)) ?_ fun v hv => .gd (au (by omega) rfl) (.gdI (by omega) (.pure (by rw [hv,aU];rfl))))) fun h=>absurd (show (k:Int)<((evs p).length:Int) by omega) h;have hl:=jE hp (n:=(k:Int)) (by omega) (by omega);refine .bif (fun hr=>?_) fun hr => .pure (by unfold chE;rw [if_neg (by rw [hr];decide)]);refine (zS hp _).bind fun v17 h17=>?_;subst v17;have hw:=(F.w (ev p (k:Int)).Loc.toNat (by omega)).1;rw [Int.toNat_of_nonneg hl.1] at hw;refine (EF _ _ (by omega)).bind fun v21 h21 => .pure ?_;rw [h21];unfold chE;rw [if_pos hr]
   rfl
  ·unfold dU;exact .bifD (fun h=>absurd h (by simp only [];omega)) fun _ => .pure rfl
 subst s2;refine Jo.bind (P:=(· = Js p)) ?_ fun s30 h30=>?_
 ·refine (bQ 3 [] (fun l=>[chL p l]) (fun l hl=>?_) ?_).mono fun v hv=>by rw [hv];rfl
  ·unfold dI;have hkl:((List.range l).flatMap fun i=>[chL p i]).length=l*1:=by rw [bz (m:=1) fun _ _=>rfl,List.length_range]
   simp only [List.nil_append];refine .bifD (fun _=>?_) fun h=>absurd (show (l:Int)<3 by omega) h;refine Jo.bind (P:=(· = (List.range (l+1)).flatMap fun i=>[chL p i])) (Jo.bind (P:=(· = chL p l)) ?_ fun v hv => .gd (au (by omega) rfl) (.pure (by rw [hv,aU]))) fun v hv => .gdI (by omega) (.pure (by rw [hv];rfl));refine (zS hp _).bind fun v44 h44=>?_;subst v44;have hw:=(F.w l hl).1;obtain ⟨t,ht⟩:=zU (p:=p) l hl;refine .gdD ⟨by omega,by rw [ht,llc];omega,by omega⟩ ?_;have e:(((Jr p (l:Int)).drop (1:Int).toNat).take (((Jr p (l:Int)).length:Int).toNat-(1:Int).toNat))=(Jr p (l:Int)).tail:=by
    rw [ht];simp
   rw [e];refine (Gl _ (by rw [List.length_tail];omega)).bind fun v46 h46=>?_;have hpl:v46.length<=3000:=by
    have := (F.w l hl).2;rw [h46];unfold chL at this
    rwa [llm] at this
   have hrow:∀ i,(v46.getD i default).length<=100:=fun i=>by
    by_cases hi:i<v46.length
    ·have hm:=getD_in hi;rw [show v46=prm (Jr p (l:Int)).tail.length (Jr p (l:Int)).tail from h46] at hm;have := ((mg rfl).1 hm).length_eq;rw [<- h46,List.length_tail] at this;omega
    ·rw [gdq,gen (by omega)];exact Nat.zero_le _
   refine (bQ v46.length [] (fun i=>[(l:Int)::v46.getD i default]) (fun i hi=>?_) ?_).mono fun v hv=>?_
   ·unfold dH;have hil:((List.range i).flatMap fun i=>[(l:Int)::v46.getD i default]).length=i*1:=by rw [bz (m:=1) fun _ _=>rfl,List.length_range]
    simp only [List.nil_append,tnn];refine .bifD (fun _ => .gdD ⟨by omega,by omega⟩ (.gd (au (by have := hrow i;simp only [List.length_singleton];omega) rfl) (.gd (au (by omega) rfl) (.gdI (by omega) (.pure (by rw [aU];rfl)))))) fun h=>absurd (show (i:Int)<(v46.length:Int) by omega) h
   ·unfold dH;exact .bifD (fun h=>absurd h (by simp only [];omega)) fun _ => .pure rfl
   ·rw [hv,List.nil_append,aW v46 fun x=>[(l:Int)::x],iD,h46]
    rfl
  ·unfold dI;exact .bifD (fun h=>absurd h (by simp only [];omega)) fun _ => .pure rfl
 subst s30;refine Jo.bind (P:=(· = bM p)) ?_ fun v hv => .pure hv;refine (mQ (chF p) (by simp [chF];omega) fun k _=>Nat.le_trans (F.f k).1 (by omega)).bind fun v72 h72=>?_;subst v72;have h0:=(F.f (chF p).length).1;rw [List.take_length] at h0;have h1:=(F.o (Js p).length).1;rw [List.take_length] at h1;exact Gq (ja (chF p)) (ja (Js p)) (Js p) (p8 (Js p) (by simp [Js]) fun k _=>Nat.le_trans (F.o k).1 (by omega)) F.all h0 h1 (fun f hf=>by rw [yV hf];exact hel) (fun o ho=>Df F ho)
end
section
variable {p:List (List Jh)}
theorem yX {α β:Type} (q:α->Bool) (f:α->List β) (l:List α):(l.filter q).flatMap f=l.flatMap fun y=>if q y=true then f y else []:=by
 induction l with
 | nil=>rfl
 | cons a l ih=>
  by_cases h:q a=true
  ·rw [List.filter_cons_of_pos h,List.flatMap_cons,List.flatMap_cons,ih,if_pos h]
  ·rw [List.filter_cons_of_neg h,List.flatMap_cons,ih,if_neg h,List.nil_append]
theorem AQ (i:Int) (rest:LL) (c:LI) (hc:c.length<=3000) (hr:rest.length<=3000) (hrow:∀ k,(rest.getD k default).length<=100) (hall:((c.filter (nq i)).flatMap fun y=>rest.map (y :: ·)).length<=3000) :
  Jo (loopO (cn i rest c) (([]:LL),(0:Int))) (· = (c.filter (nq i)).flatMap fun y=>rest.map (y :: ·)):=by
 rw [yX] at hall ⊢;rw [<- aW c] at hall ⊢;generalize hg:(fun k=>if nq i (c.getD k default)=true then rest.map (c.getD k default :: ·) else [])=g at hall ⊢;have hgk:∀ k,g k=if nq i (c.getD k default)=true then rest.map (c.getD k default :: ·) else []:=fun k=>by rw [<- hg]
 refine (bQ c.length [] g (fun k hk=>?_) ?_).mono fun v hv=>by rw [hv,List.nil_append]
 ·have hpre:=Nat.le_trans (kJ g (show k+1<=c.length by omega)) hall;rw [aU,lla] at hpre;unfold cn;simp only [List.nil_append];refine .bifD (fun _=>?_) fun h=>absurd (show (k:Int)<(c.length:Int) by omega) h;refine Jo.bind (P:=(· = (List.range (k+1)).flatMap g)) ?_ fun v hv => .gdI (by omega) (.pure (by rw [hv];rfl));rw [aU];have hk1:=hgk k;generalize (List.range k).flatMap g=pre at hpre ⊢;generalize g k=gk at hk1 hpre ⊢;subst hk1;have hstep:∀ s:LL×Int,cm i rest c (pre,(k:Int)) s=(Option.bind (bif decide (s.2<(rest.length:Int)) then gd (decide (0<=(k:Int)/\(k:Int)<(c.length:Int)))<|some ((c.getD k default) != i) else some false) fun s23=>
    bif s23 then
     gd (decide (0<=(k:Int)/\(k:Int)<(c.length:Int)))<|gd (decide (0<=s.2/\s.2<(rest.length:Int)))<|gd (aQ (([(c.getD k default)]:LI).length+(rest.getD s.2.toNat default).length) 8) <|
     gd (aQ (s.1.length+1) 24)<|gd (Jf .i64 (s.2+(1:Int)))<|some (.inl ((s.1++[(([(c.getD k default)]:LI)++(rest.getD s.2.toNat default))]),(s.2+(1:Int))))
    else some (.inr s.1)):=fun s=>by
   unfold cm;simp only [tnn]
  generalize cm i rest c (pre,(k:Int))=step at hstep ⊢;generalize c.getD k default=y at hstep hpre ⊢
  by_cases hy:y=i
  ·have hn : ¬ nq i y=true:=by unfold nq;rw [decide_eq_true hy];decide
   rw [if_neg hn] at hpre ⊢;rw [gm,hstep];have : Jo (bif decide ((0:Int)<(rest.length:Int)) then gd (decide (0<=(k:Int)/\(k:Int)<(c.length:Int)))<|some (y != i) else some false) (· = false) := .bifD (fun _ => .gdD ⟨by omega,by omega⟩ (.pure (by rw [hy];simp))) fun _ => .pure rfl;rw [show (bif decide (((pre,(0:Int)):LL×Int).2<(rest.length:Int)) then gd (decide (0<=(k:Int)/\(k:Int)<(c.length:Int)))<|some (y != i) else some false)=some false from this.eq];exact .of rfl (by simp)
  ·have hn:nq i y=true:=by unfold nq;rw [decide_eq_false hy];rfl
   have hne:(y != i)=true:=by simpa using hy
   rw [if_pos hn,llm] at hpre;rw [if_pos hn];refine (bQ rest.length pre (fun j=>[y::rest.getD j default]) (fun j hj=>?_) ?_).mono fun v hv=>?_
   ·have hil:((List.range j).flatMap fun j=>[y::rest.getD j default]).length=j*1:=by rw [bz (m:=1) fun _ _=>rfl,List.length_range]
    rw [hstep];refine Jo.bind (P:=(· = true)) (.bifD (fun _ => .gdD ⟨by omega,by omega⟩ (.pure hne)) fun h=>absurd (show (j:Int)<(rest.length:Int) by omega) h) fun b hb=>?_;subst hb;simp only [tnn,cond_true];refine .gdD ⟨by omega,by omega⟩ (.gdD ⟨by omega,by omega⟩ (.gd (au (by have := hrow j;simp only [List.length_singleton];omega) rfl) (.gd (au (by rw [lla];omega) rfl) (.gdI (by omega) (.pure ?_)))));rw [aU,List.append_assoc]
    rfl
   ·rw [hstep];refine Jo.bind (P:=(· = false)) (.bifD (fun h=>absurd h (by simp only [];omega)) fun _ => .pure rfl) fun b hb=>?_;subst hb;exact .pure rfl
   ·rw [hv,aW rest fun x=>[y::x],iD]
 ·unfold cn;exact .bifD (fun h=>absurd h (by simp only [];omega)) fun _ => .pure rfl
theorem EG {i:Nat} (h:i<(evs p).length):(chF p).drop i=chE p i::(chF p).drop (i+1):=by
 have hl:i<(chF p).length:=by simp [chF];exact h
 rw [List.drop_eq_getElem_cons hl]
 congr 1
 simp [chF]
theorem xI (hv:aZ (Jt p)=true):∀ (n m i:Nat),i+n=(evs p).length->n<m->Jo (dM m (evs p) (i:Int)) (· = ja ((chF p).drop i))
 | _,0,_,_,h=>by omega
 | 0,m+1,i,hi,_=>by
  show Jo (bX _ (evs p) (i:Int)) _;unfold bX;refine .bif (fun _ => .pure ?_) fun h=>by rw [show i=(evs p).length by omega] at h;simp at h
  rw [List.drop_eq_nil_of_le (by simp [chF] <;> omega)]
  rfl
 | n+1,m+1,i,hi,hm=>by
  have hp:=PV.of hv;have F:=few hv;have hel:=iz hp.vs;have hen:∀ n:Nat,(evs p).getD n default=ev p (n:Int):=fun n=>by unfold ev;rw [tnn]
  have hl:=jE hp (n:=(i:Int)) (by omega) (by omega);show Jo (bX _ (evs p) (i:Int)) _;unfold bX;refine .bif (fun h=>by have := eq_of_beq h;omega) fun _ => .gdI (by omega) ?_;refine (xI hv n m (i+1) (by omega) (by omega)).bind fun v3 h3=>?_;have hi':i<(evs p).length:=by omega
  have hr:=(F.f (i+1)).2;have hF:=(F.f i).2;have hrow:∀ k,(v3.getD k default).length<=100:=fun k=>by
   by_cases hk:k<v3.length
   ·have hm:=getD_in hk;rw [show v3=ja ((chF p).drop (i+1)) from h3] at hm;have := (fI.1 hm).1;rw [<- h3,List.length_drop] at this;simp only [chF,llm,List.length_range] at this;omega
   ·rw [gdq,gen (by omega)];exact Nat.zero_le _
  rw [EG hi'] at hF ⊢;rw [<- h3] at hr;have hE:ja (chE p i::(chF p).drop (i+1))=(chE p i).flatMap fun y=>v3.map (y :: ·):=by rw [h3];rfl
  rw [hE] at hF ⊢;clear hE;generalize hS:(if (ev p (i:Int)).Reads=true then Jr p (ev p (i:Int)).Loc else [-1])=c;have hcf:chE p i=c.filter (nq (i:Int)):=by
   unfold chE;rw [<- hS]
   split
   ·rfl
   ·unfold nq;rw [List.filter_cons_of_pos (by simp <;> omega)]
    rfl
  have hcl:c.length<=8:=by
   rw [<- hS]
   split
   ·have hw:=(F.w (ev p (i:Int)).Loc.toNat (by omega)).1
    rwa [Int.toNat_of_nonneg hl.1] at hw
   ·decide
  refine Jo.bind (P:=(· = c)) (.gdD ⟨by omega,by omega⟩ ?_) fun s4 h4=>?_
  ·simp only [tnn,hen];refine .bif (fun h=>((zT hp _).bind fun v7 h7 => .pure ?_)) fun h => .pure ?_
   ·rw [h7,<- hS,if_pos h]
   ·rw [<- hS,if_neg (by rw [h];decide)]
  subst s4;rw [hcf] at hF ⊢;exact (AQ (i:Int) v3 c (by omega) hr hrow hF).bind fun s8 h8 => .pure h8
theorem Hu (hv:aZ (Jt p)=true):Jo (ku (evs p) 0) (· = ja (chF p)):=rA (evs p).length fun m hm=>xI hv (evs p).length m 0 (by omega) hm
theorem yY (l:Int) (v3:List (LL)) (v4:LI) (v6:LL) (h40:v4.getD 0 default=l) (h4:0<v4.length) (hn6:v6.length<=3000) (hn3:v3.length<=3000) (hr6:∀ k,(v6.getD k default).length<=100) (hr3:∀ k,(v3.getD k default).length<=100) (hall:(v6.flatMap fun r=>v3.map ((l::r) :: ·)).length<=3000) :
  Jo (loopO (bL v3 v4 v6) (([]:List (LL)),(0:Int))) (· = v6.flatMap fun r=>v3.map ((l::r) :: ·)):=by
 rw [<- aW v6] at hall ⊢;generalize hg:(fun k=>v3.map ((l::v6.getD k default) :: ·))=g at hall ⊢;have hgk:∀ k,g k=v3.map ((l::v6.getD k default) :: ·):=fun k=>by rw [<- hg]
 refine (bQ v6.length [] g (fun k hk=>?_) ?_).mono fun v hv=>by rw [hv,List.nil_append]
 ·have hpre:=Nat.le_trans (kJ g (show k+1<=v6.length by omega)) hall;have hrk:=hr6 k;rw [aU,lla] at hpre;unfold bL;simp only [List.nil_append,tnn,show (0:Int).toNat=0 from rfl,h40];refine .bifD (fun _=>?_) fun h=>absurd (show (k:Int)<(v6.length:Int) by omega) h;refine Jo.bind (P:=(· = (List.range (k+1)).flatMap g)) (.gdD ⟨by omega,by omega⟩ (.gdD ⟨by omega,by omega⟩ (.gd (au (by simp only [List.length_singleton];omega) rfl) ?_))) fun v hv => .gdI (by omega) (.pure (by rw [hv];rfl));rw [aU];have hk1:=hgk k;generalize (List.range k).flatMap g=pre at hpre ⊢;generalize g k=gk at hk1 hpre ⊢;subst hk1;rw [llm] at hpre;have hstep:∀ s:List (LL)×Int,bK v3 v4 v6 (pre,(k:Int)) s=bif decide (s.2<(v3.length:Int)) then
    gd (decide (0<=s.2/\s.2<(v3.length:Int)))<|gd (aQ (([(([l]:LI)++(v6.getD k default))]:LL).length+(v3.getD s.2.toNat default).length) 24)<|gd (aQ (s.1.length+1) 24)<|gd (Jf .i64 (s.2+(1:Int))) <|
    some (.inl ((s.1++[(([(([l]:LI)++(v6.getD k default))]:LL)++(v3.getD s.2.toNat default))]),(s.2+(1:Int)))) else some (.inr s.1):=fun s=>by
   unfold bK;simp only [tnn,show (0:Int).toNat=0 from rfl,h40]
  generalize bK v3 v4 v6 (pre,(k:Int))=step at hstep ⊢;generalize v6.getD k default=y at hstep ⊢;refine (bQ v3.length pre (fun j=>[(l::y)::v3.getD j default]) (fun j hj=>?_) ?_).mono fun v hv=>?_
  ·have hil:((List.range j).flatMap fun j=>[(l::y)::v3.getD j default]).length=j*1:=by rw [bz (m:=1) fun _ _=>rfl,List.length_range]
   rw [hstep];simp only [tnn];refine .bifD (fun _ => .gdD ⟨by omega,by omega⟩ (.gd (au (by have := hr3 j;simp only [List.length_singleton];omega) rfl) (.gd (au (by rw [lla];omega) rfl) (.gdI (by omega) (.pure ?_))))) fun h=>absurd (show (j:Int)<(v3.length:Int) by omega) h;rw [aU,List.append_assoc]
   rfl
  ·rw [hstep];exact .bifD (fun h=>absurd h (by simp only [];omega)) fun _ => .pure rfl
  ·rw [hv,aW v3 fun x=>[(l::y)::x],iD]
 ·unfold bL;exact .bifD (fun h=>absurd h (by simp only [];omega)) fun _ => .pure rfl
theorem EH {l:Nat} (h:l<3):(Js p).drop l=chL p l::(Js p).drop (l+1):=by
 match l,h with
 | 0,_=>rfl
 | 1,_=>rfl
 | 2,_=>rfl
theorem sW (hv:aZ (Jt p)=true):∀ (n m l:Nat),l+n=3->n<m->Jo (dw m (evs p) (l:Int)) (· = ja ((Js p).drop l))
 | _,0,_,_,h=>by omega
 | 0,m+1,l,hl,_=>by
  show Jo (bH _ (evs p) (l:Int)) _;unfold bH;refine .bifD (fun _ => .pure ?_) fun h=>absurd (show (2:Int)<(l:Int) by omega) h;rw [List.drop_eq_nil_of_le (by simp [Js] <;> omega)]
  rfl
 | n+1,m+1,l,hl,hm=>by
  have hp:=PV.of hv;have F:=few hv;have hl3:l<3:=by omega
  show Jo (bH _ (evs p) (l:Int)) _;unfold bH;refine .bifD (fun h=>absurd h (by omega)) fun _ => .gdI (by omega) ?_;refine (sW hv n m (l+1) (by omega) (by omega)).bind fun v3 h3=>(zT hp _).bind fun v4 h4=>?_;subst v4;have hw:=(F.w l hl3).1;obtain ⟨t,ht⟩:=zU (p:=p) l hl3;refine .gdD ⟨by omega,by rw [ht,llc];omega,by omega⟩ ?_;have e:(((Jr p (l:Int)).drop (1:Int).toNat).take (((Jr p (l:Int)).length:Int).toNat-(1:Int).toNat))=(Jr p (l:Int)).tail:=by
   rw [ht];simp
  rw [e];refine (Ht _ (by rw [List.length_tail];omega)).bind fun v6 h6=>?_;have hn6:v6.length<=3000:=by
   have := (F.w l hl3).2;rw [h6];unfold chL at this
   rwa [llm] at this
  have hr6:∀ i,(v6.getD i default).length<=100:=fun i=>by
   by_cases hi:i<v6.length
   ·have hm:=getD_in hi;rw [show v6=prm (Jr p (l:Int)).tail.length (Jr p (l:Int)).tail from h6] at hm;have := ((mg rfl).1 hm).length_eq;rw [<- h6,List.length_tail] at this;omega
   ·rw [gdq,gen (by omega)];exact Nat.zero_le _
  have hn3:=(F.o (l+1)).2;have hO:=(F.o l).2;have hr3:∀ k,(v3.getD k default).length<=100:=fun k=>by
   by_cases hk:k<v3.length
   ·have hm:=getD_in hk;rw [show v3=ja ((Js p).drop (l+1)) from h3] at hm;have := (fI.1 hm).1;rw [<- h3,List.length_drop] at this;simp only [Js,llc,List.length_nil] at this;omega
   ·rw [gdq,gen (by omega)];exact Nat.zero_le _
  rw [EH hl3] at hO ⊢;rw [<- h3] at hn3;have hE:ja (chL p l::(Js p).drop (l+1))=v6.flatMap fun r=>v3.map (((l:Int)::r) :: ·):=by
   show ((prm (Jr p (l:Int)).tail.length (Jr p (l:Int)).tail).map ((l:Int) :: ·)).flatMap (fun y=>(ja ((Js p).drop (l+1))).map (y :: ·))=_;rw [<- h6,<- h3,List.flatMap_map]
  rw [hE] at hO ⊢;exact (yY (l:Int) v3 (Jr p (l:Int)) v6 (by rw [ht];rfl) (by rw [ht];simp) hn6 hn3 hr6 hr3 hO).bind fun s7 h7 => .pure h7
theorem Gs (hv:aZ (Jt p)=true):Jo (jA (evs p) 0) (· = ja (Js p)):=rA 3 fun m hm=>sW hv 3 m 0 (by omega) hm
theorem Gt (FF:LL) (OO:List (LL)) (hall:FF.length*OO.length<=3000) (hn:FF.length<=3000) (hn2:OO.length<=3000) (hf:∀ f∈FF,f.length<=24) (ho:∀ o∈OO,o.length=3/\∀ i,(o.getD i default).length<=100) :
  Jo (loopO (eB FF OO) (([]:List Ji),(0:Int))) (· = FF.flatMap fun f=>OO.map fun o=>(⟨f,o⟩:Ji)):=by
 have hpre:∀ j,j<=FF.length->((List.range j).flatMap fun j=>OO.map fun o=>(⟨FF.getD j default,o⟩:Ji)).length<=3000:=fun j hj=>by
  have := kJ (fun j=>OO.map fun o=>(⟨FF.getD j default,o⟩:Ji)) hj;rw [aW FF fun f=>OO.map fun o=>(⟨f,o⟩:Ji),bz (l:=FF) (f:=fun f=>OO.map fun o=>(⟨f,o⟩:Ji)) (m:=OO.length) fun _ _=>llm _] at this;exact Nat.le_trans this hall
 refine (bQ FF.length [] (fun j=>OO.map fun o=>(⟨FF.getD j default,o⟩:Ji)) (fun j hj=>?_) ?_).mono fun v hv=>?_
 ·have hfj:=hf _ (getD_in hj);have hpj:=hpre (j+1) hj;rw [aU,lla,llm] at hpj;unfold eB;simp only [List.nil_append];refine .bifD (fun _=>?_) fun h=>absurd (show (j:Int)<(FF.length:Int) by omega) h;refine Jo.bind (P:=(· = (List.range (j+1)).flatMap fun j=>OO.map fun o=>(⟨FF.getD j default,o⟩:Ji))) ?_ fun v hv => .gdI (by omega) (.pure (by rw [hv];rfl));generalize hpe:(List.range j).flatMap (fun j=>OO.map fun o=>(⟨FF.getD j default,o⟩:Ji))=pre at hpj ⊢;generalize hfg:FF.getD j default=f at hfj;have hstep:∀ s:List Ji×Int,dN FF OO (pre,(j:Int)) s=bif decide (s.2<(OO.length:Int)) then
    gd (decide (0<=(j:Int)/\(j:Int)<(FF.length:Int)))<|gd (decide (0<=s.2/\s.2<(OO.length:Int)))<|Option.bind (gJ (⟨f,OO.getD s.2.toNat default⟩:Ji)) fun v99=>
    gd (aQ (s.1.length+1) 48)<|gd (Jf .i64 (s.2+(1:Int)))<|some (.inl ((s.1++[v99]),(s.2+(1:Int)))) else some (.inr s.1):=fun s=>by
   unfold dN;simp only [tnn,hfg]
  generalize dN FF OO (pre,(j:Int))=step at hstep ⊢;refine (bQ OO.length pre (fun i=>[(⟨f,OO.getD i default⟩:Ji)]) (fun i hi=>?_) ?_).mono fun v hv=>?_
  ·have hil:((List.range i).flatMap fun i=>[(⟨f,OO.getD i default⟩:Ji)]).length=i*1:=by rw [bz (m:=1) fun _ _=>rfl,List.length_range]
   obtain ⟨ho1,ho2⟩:=ho _ (getD_in hi);rw [hstep];simp only [tnn];refine .bifD (fun _ => .gdD ⟨by omega,by omega⟩ (.gdD ⟨by omega,by omega⟩ ((De ⟨f,OO.getD i default⟩ (Nat.le_trans hfj (by omega)) (by rw [ho1];omega) (fun i=>Nat.le_trans (ho2 i) (by omega))).bind fun v99 h99 => .gd (au (by rw [lla];omega) rfl) (.gdI (by omega) (.pure ?_))))) fun h=>absurd (show (i:Int)<(OO.length:Int) by omega) h;rw [h99,aU,List.append_assoc]
   rfl
  ·rw [hstep];exact .bifD (fun h=>absurd h (by simp only [];omega)) fun _ => .pure rfl
  ·rw [hv,aW OO fun o=>[(⟨f,o⟩:Ji)],iD,aU,hpe,hfg]
 ·unfold eB;exact .bifD (fun h=>absurd h (by simp only [];omega)) fun _ => .pure rfl
 ·rw [hv,List.nil_append];exact aW FF fun f=>OO.map fun o=>(⟨f,o⟩:Ji)
theorem Dg (hv:aZ (Jt p)=true):Jo (jV p) (· = bM p):=by
 have hp:=PV.of hv;have F:=few hv;have hel:=iz hp.vs;unfold jV;refine (yL hp.vs).bind fun v1 e1=>?_;subst v1;refine (Hu hv).bind fun v2 h2=>(Gs hv).bind fun v3 h3=>?_;subst v2 v3;have h0:=(F.f (chF p).length).1;rw [List.take_length] at h0;have h1:=(F.o (Js p).length).1;rw [List.take_length] at h1;exact (Gt (ja (chF p)) (ja (Js p)) F.all h0 h1 (fun f hf=>by rw [yV hf];exact hel) (fun o ho=>Df F ho)).bind fun s4 h4 => .pure h4
end
section
variable {p:List (List Jh)} {x:XS} {F F':LI}
def Gu (p:List (List Jh)):LI:=(List.range (evs p).length).map fun (i:Nat)=>(i:Int)
theorem Cand.congr (C:Cand p x F) (h:∀ n,n∈F'↔n∈F):Cand p x F':=
 ⟨fun n=>(h n).trans (C.mem n),C.flen,C.olen,fun l hl=>⟨(C.ods l hl).nd,fun n=>by rw [(C.ods l hl).mem,h]⟩,C.hd,fun i hi hr=>C.rdc i ((h i).1 hi) hr,fun i hi hr=>C.ne i ((h i).1 hi) hr,fun i hi hr=>C.frN i ((h i).1 hi) hr⟩
theorem Cand.rng (C:Cand p x F):Cand p x (Gu p):=C.congr fun n=>(nI n).trans (C.mem n).symm
theorem zV (l:Int):(Jr p l).Nodup:=List.Pairwise.filter _ Fh
theorem sZ {c:Ji} (hp:PV p) (h:c∈bM p):Cand p (c.From,c.Order) (Gu p):=by
 unfold bM at h;simp only [List.mem_flatMap,List.mem_map] at h;obtain ⟨f,hf,o,ho,rfl⟩:=h;obtain ⟨f1,f2⟩:=fI.1 hf;obtain ⟨o1,o2⟩:=fI.1 ho;have hfl:=yV hf;have oget:∀ l:Nat,l<3->∃ r,o.getD l []=(l:Int)::r/\r.Perm (Jr p (l:Int)).tail:=fun l hl=>by
  obtain ⟨y,hy,e⟩:=o2 l hl;have hy':y∈chL p l:=by
   match l,hl with
   | 0,_=>exact hy
   | 1,_=>exact hy
   | 2,_=>exact hy
  unfold chL at hy';obtain ⟨r,hr,rfl⟩:=List.mem_map.1 hy';exact ⟨r,by rw [gdq,e];rfl,(mg rfl).1 hr⟩
 have operm:∀ l:Nat,l<3->(o.getD l []).Perm (Jr p (l:Int)):=fun l hl=>by
  obtain ⟨r,e,hr⟩:=oget l hl;obtain ⟨t,ht⟩:=zU (p:=p) l hl;rw [e];rw [ht] at hr ⊢;exact hr.cons _
 have fget:∀ i:Nat,i<(evs p).length->f.getD i default∈chE p i:=fun i hi=>by
  obtain ⟨y,hy,e⟩:=f2 i (by simp [chF];exact hi);rw [gdq,e];simpa [chF] using hy
 have odn:∀ l:Int,0<=l/\l<=2->(od (f,o) l).Perm (Jr p l):=fun l hl=>by
  have := operm l.toNat (by omega);rw [Int.toNat_of_nonneg hl.1] at this;exact this
 have rd:∀ i:Int,i∈Gu p->(ev p i).Reads=true->f.getD i.toNat default∈Jr p (ev p i).Loc/\f.getD i.toNat default≠i:=fun i hi hr=>by
  obtain ⟨i0,i1⟩:=(nI i).1 hi;have := fget i.toNat (by omega);unfold chE at this;rw [Int.toNat_of_nonneg i0,if_pos hr,List.mem_filter] at this;exact ⟨this.1,by simpa using this.2⟩
 refine ⟨fun n=>nI n,hfl,o1,fun l hl=>⟨(odn l hl).nodup_iff.2 (zV l),fun n=>?_⟩,fun l hl=>?_,fun i hi hr=>?_,fun i hi hr=>(rd i hi hr).2,fun i hi hr=>?_⟩
 ·rw [(odn l hl).mem_iff];unfold Jr;rw [List.mem_filter];unfold Wl;rw [bae,dte];exact Iff.rfl
 ·obtain ⟨r,e,_⟩:=oget l hl;exact ⟨r,by unfold od;rw [tnn];exact e⟩
 ·obtain ⟨i0,i1⟩:=(nI i).1 hi;exact (odn _ (jE hp i0 i1)).mem_iff.2 (rd i hi hr).1
 ·obtain ⟨i0,i1⟩:=(nI i).1 hi;have := fget i.toNat (by omega);unfold chE at this;rw [Int.toNat_of_nonneg i0,if_neg (by rw [hr];decide)] at this;simpa using this
theorem lm (hp:PV p) (C:Cand p x (Gu p)):(⟨x.1,x.2⟩:Ji)∈bM p:=by
 unfold bM;simp only [List.mem_flatMap,List.mem_map];refine ⟨x.1,fI.2 ⟨by rw [C.flen];simp [chF],fun i hi=>?_⟩,x.2,fI.2 ⟨C.olen,fun l hl=>?_⟩,rfl⟩
 ·have hi':i<(evs p).length:=by simpa [chF] using hi
  have hm:(i:Int)∈Gu p:=(nI _).2 ⟨by omega,by omega⟩;refine ⟨x.1.getD i default,?_,by rw [gdq,geq (by rw [C.flen];exact hi')];rfl⟩;simp only [chF,List.getElem_map,List.getElem_range];unfold chE
  split
  ·rename_i hr;have h1:=C.rdc _ hm hr;have h2:=C.ne _ hm hr;rw [tnn] at h1 h2;have hl:=jE hp (n:=(i:Int)) (by omega) (by omega);refine List.mem_filter.2 ⟨?_,by simpa using h2⟩;have h3:=((C.ods _ hl).mem _).1 h1;unfold Jr;rw [List.mem_filter];refine ⟨h3.1,?_⟩;unfold Wl;rw [h3.2.1,Bool.true_and,dte];exact h3.2.2
  ·rename_i hr;have := C.frN _ hm (by simpa using hr);rw [tnn] at this;rw [this];exact List.mem_singleton.2 rfl
 ·have hl':l<3:=hl;obtain ⟨t,ht⟩:=C.hd l hl';obtain ⟨w,hw⟩:=zU (p:=p) l hl';have hg:x.2[l]? = some ((l:Int)::t):=by
   have h1:l<x.2.length:=by rw [C.olen];exact hl'
   unfold od at ht;rw [tnn,gdq,geq h1] at ht;rw [geq h1];exact congrArg some ht
  refine ⟨(l:Int)::t,?_,hg⟩;have hpm:((l:Int)::t).Perm ((l:Int)::w):=by
   rw [<- ht,<- hw];have O:=C.ods (l:Int) (by omega);refine (List.perm_ext_iff_of_nodup O.nd (zV _)).2 fun n=>?_;rw [O.mem];unfold Jr;rw [List.mem_filter];unfold Wl;rw [bae,dte];exact Iff.rfl
  have hin:(l:Int)::t∈chL p l:=by
   unfold chL;refine List.mem_map.2 ⟨t,(mg rfl).2 ?_,rfl⟩;rw [hw];exact hpm.cons_inv
  match l,hl' with
  | 0,_=>exact hin
  | 1,_=>exact hin
  | 2,_=>exact hin
def TrL (p:List (List Jh)) (o:LI):Prop:=Whole p o/\Gr p (nE p (fw p o o.length)) (Gu p) (fun _=>0) o
theorem kK (hv:aZ (Jt p)=true) {c:Ji} (h:c∈bM p):∃ l b,av p ⟨c.From,c.Order⟩=some (l,b)/\cK p (jO p (bef p (c.From,c.Order)) (evs p).length)=some (l,b)/\l.length<=21/\(b=true->TrL p l/\nE p (fw p l l.length)=(c.From,c.Order)) /\
  (∀ s,Whole p s->nE p (fw p s s.length)=(c.From,c.Order)->b=true):=by
 have hp:=PV.of hv;obtain ⟨l,b,h1,h2,h3,_,h5,h6⟩:=AL hp hv (sZ hp h);refine ⟨l,b,h1,h2,h3,fun hb=>?_,h6⟩;obtain ⟨g1,g2,g3⟩:=h5 hb;exact ⟨⟨g1,by rw [g2];exact g3⟩,g2⟩
theorem mN {s:LI} (hw:Whole p s):Cand p (nE p (fw p s s.length)) (Gu p):=(RunOf.cand (PV.of hw.1) (oD (PV.of hw.1) hw)).rng
theorem Dh {a:Nat->Nat} {r:LI} (h:Gr p x F a r):StA p a->r.length=mu p a:=by
 induction h with
 | @nil b h=>
  intro _;unfold mu;have : (List.range p.length).map (fun t=>(p.getD t default).length-b t)=(List.range p.length).map fun _=>0:=List.map_congr_left fun t ht=>by
   rw [h t (List.mem_range.1 ht),Nat.sub_self]
  rw [this];have h0:∀ n:Nat,((List.range n).map fun _=>0).sum=0:=fun n=>by
   induction n with
   | zero=>rfl
   | succ n ih=>rw [List.range_succ,List.map_append,List.sum_append,ih];rfl
  exact (h0 _).symm
 | cons h _ _ ih=>
  intro ha;have := xw h.1 h.2.1;rw [llc,ih (ha.adv h.2.1)];omega
theorem Ft {o:LI} (h:TrL p o):o.length=mu p fun _=>0:=Dh h.2 fun _ _=>Nat.zero_le _
theorem Di {a b:LI} (k:Nat) (ha:k<a.length) (hb:k<b.length):cmpL (a.drop k) (b.drop k)=if a.getD k default<b.getD k default then -1 else if b.getD k default<a.getD k default then 1 else cmpL (a.drop (k+1)) (b.drop (k+1)):=by
 have e1:a.getD k default=a[k]:=by rw [gdq,geq ha];rfl
 have e2:b.getD k default=b[k]:=by rw [gdq,geq hb];rfl
 rw [List.drop_eq_getElem_cons ha,List.drop_eq_getElem_cons hb,cmpL,e1,e2]
theorem zW {a b:LI} (h:a.length=b.length) (hl:a.length<=1000000):Jo (gT a b) (· = cmpL a b):=by
 unfold gT;refine Jo.sum (PS:=fun _=>cmpL a b=0) (PW:=(· = cmpL a b)) ?_ fun _ h0 => .pure h0.symm;refine Jo.loop (fun z=>∃ k:Nat,k<=a.length/\z=(k:Int)/\cmpL a b=cmpL (a.drop k) (b.drop k)) (fun z=>((a.length:Int)-z).toNat) ⟨0,by omega,rfl,rfl⟩ fun z ⟨k,h1,h2,h3⟩ => ?_;subst h2;unfold lF;simp only [tnn];refine Jo.bind (P:=(· = decide (k<a.length))) (.bifD (fun hk => .pure ?_) fun hk => .pure ?_) fun c hc=>?_
 ·rw [decide_eq_true (show k<a.length by omega)];exact decide_eq_true (by omega)
 ·rw [decide_eq_false (show ¬ k<a.length by omega)]
 subst hc;refine .bifD (fun hk=>?_) fun hk => .pure ?_
 ·rw [Di k hk (by omega)] at h3;refine .gdD ⟨by omega,by omega⟩ (.gdD ⟨by omega,by omega⟩ (.bifD (fun hlt => .pure ?_) fun hge => .bifD (fun hlt => .pure ?_) fun hge2 => .gdI (by omega) (.pure ⟨⟨k+1,by omega,rfl,?_⟩,by omega⟩)))
  ·rw [if_pos hlt] at h3;exact h3.symm
  ·rw [if_neg hge,if_pos hlt] at h3;exact h3.symm
  ·rw [if_neg hge,if_neg hge2] at h3;exact h3
 ·rw [h3,List.drop_eq_nil_of_le (by omega),List.drop_eq_nil_of_le (by omega)]
  rfl
theorem Gv {l:LL} {o:LI} (hs:l.Pairwise ltL) (hn:l.length<=100000) (hr:∀ r∈l,r.length=o.length) (ho:o.length<=1000):Jo (j3 l o) fun q=>q.Pairwise ltL/\(∀ r,r∈q↔r∈l\/r=o)/\q.length<=l.length+1:=by
 have hrD:∀ i,i<l.length->(l.getD i default).length=o.length:=fun i hi=>hr _ (getD_in hi);unfold j3;refine Jo.bind (P:=fun z:Int=>∃ k:Nat,k<=l.length/\z=(k:Int)/\(∀ r∈l.take k,ltL r o)/\(k<l.length -> ¬ ltL (l.getD k default) o)) ?_ fun z ⟨k,h1,h2,h3,h4⟩ => ?_
 ·refine Jo.loop (fun z=>∃ k:Nat,k<=l.length/\z=(k:Int)/\∀ r∈l.take k,ltL r o) (fun z=>((l.length:Int)-z).toNat) ⟨0,by omega,rfl,by simp⟩ fun z ⟨k,h1,h2,h3⟩ => ?_;subst h2;unfold mb;simp only [tnn];refine Jo.bind (P:=fun c:Bool=>c=true↔k<l.length/\ltL (l.getD k default) o) (.bifD (fun hk => .gdD ⟨by omega,hk⟩ ((zW (hrD k (by omega)) (by rw [hrD k (by omega)];omega)).bind fun v hv => .pure ?_)) fun hk => .pure ⟨fun e=>(by cases e),fun e=>absurd e.1 (by omega)⟩) fun c hc=>?_
  ·subst hv;rw [dte];exact ⟨fun e=>⟨by omega,e⟩,fun e=>e.2⟩
  ·refine .bif (fun h=>?_) fun h => .pure ⟨k,h1,rfl,h3,fun hk hlt=>?_⟩
   ·obtain ⟨g1,g2⟩:=hc.1 h;refine .gdI (by omega) (.pure ⟨⟨k+1,by omega,rfl,fun r hr' => ?_⟩,by omega⟩);rw [dQ g1,List.mem_append,List.mem_singleton] at hr';rcases hr' with hr' | rfl
    ·exact h3 r hr'
    ·exact g2
   ·rw [hc.2 ⟨hk,hlt⟩] at h
    cases h
 subst h2;simp only [tnn];refine Jo.bind (P:=fun c:Bool=>c=true↔k<l.length/\l.getD k default=o) (.bifD (fun hk => .gdD ⟨by omega,hk⟩ ((zW (hrD k (by omega)) (by rw [hrD k (by omega)];omega)).bind fun v hv => .pure ?_)) fun hk => .pure ⟨fun e=>(by cases e),fun e=>absurd e.1 (by omega)⟩) fun c hc=>?_
 ·subst hv;rw [beq_iff_eq];exact ⟨fun e=>⟨by omega,cmpL_eq e⟩,fun e=>by rw [e.2,jv]⟩
 ·refine .bif (fun h => .pure ?_) fun h=>?_
  ·obtain ⟨g1,g2⟩:=hc.1 h;refine ⟨hs,fun r=>⟨.inl,fun h=>?_⟩,by omega⟩;rcases h with h | rfl
   ·exact h
   ·rw [<- g2];exact getD_in g1
  ·have e1:((l.drop (0:Int).toNat).take (k-(0:Int).toNat))=l.take k:=by simp
   have e2:((l.drop k).take (l.length-k))=l.drop k:=List.take_of_length_le (by rw [List.length_drop];exact Nat.le_refl _);rw [e1,e2];have g1:(l.take k).length<=l.length:=by rw [List.length_take];omega
   have g2:(l.drop k).length<=l.length:=by rw [List.length_drop];omega
   refine .gdD ⟨by omega,by omega,by omega⟩ (.gd (au (by simp only [List.length_nil];omega) rfl) (.gd (au (by simp only [List.nil_append];omega) rfl) (.gdD ⟨by omega,by omega,by omega⟩ (.gd (au (by simp only [List.nil_append,lla,List.length_singleton];omega) rfl) (.pure ?_)))));rw [List.nil_append,List.append_assoc];have hlt:∀ r∈l.drop k,ltL o r:=fun r hr'=>by
    have hk:k<l.length:=by
     rcases Nat.lt_or_ge k l.length with h | h
     ·exact h
     ·rw [List.drop_eq_nil_of_le h] at hr';cases hr'
    have hne:l.getD k default≠o:=fun e=>by rw [hc.2 ⟨hk,e⟩] at h;cases h
    have hko:ltL o (l.getD k default):=by
     rcases kX (l.getD k default) o with g | g | g
     ·exact absurd g (h4 hk)
     ·exact absurd g hne
     ·exact g
    have hdk:l.drop k=l.getD k default::l.drop (k+1):=by
     rw [gdq,geq hk];exact List.drop_eq_getElem_cons hk
    have hsd:(l.drop k).Pairwise ltL:=hs.sublist (List.drop_sublist k l);rw [hdk] at hr' hsd;rcases List.mem_cons.1 hr' with rfl | hr'
    ·exact hko
    ·exact jl hko ((List.pairwise_cons.1 hsd).1 r hr')
   refine ⟨?_,fun r=>?_,?_⟩
   ·refine List.pairwise_append.2 ⟨hs.sublist (List.take_sublist k l),List.pairwise_cons.2 ⟨hlt,hs.sublist (List.drop_sublist k l)⟩,fun a ha b hb=>?_⟩;rcases List.mem_cons.1 hb with rfl | hb
    ·exact h3 a ha
    ·exact jl (h3 a ha) (hlt b hb)
   ·have : r∈l↔r∈l.take k\/r∈l.drop k:=by rw [<- List.mem_append,List.take_append_drop]
    rw [this];simp only [List.mem_append,List.mem_cons,List.cons_append,List.nil_append]
    constructor
    ·rintro (h | rfl | h)
     ·exact .inl (.inl h)
     ·exact .inr rfl
     ·exact .inl (.inr h)
    ·rintro ((h | h) | rfl)
     ·exact .inl h
     ·exact .inr (.inr h)
     ·exact .inr (.inl rfl)
   ·simp only [lla,List.length_singleton,List.length_take,List.length_drop,llc,List.length_nil];omega
theorem Dj {a b:LL} (ha:a.Pairwise ltL) (hb:b.Pairwise ltL) (h:∀ o,o∈a↔o∈b):a=b:=by
 refine kY ((List.perm_ext_iff_of_nodup (ha.imp fun h=>Cu h) (hb.imp fun h=>Cu h)).2 h) (ha.imp fun h=>vM.2 (.inl h)) (hb.imp fun h=>vM.2 (.inl h))
theorem AR (hsz:p.length<=1048576/\total p<=1048576):∃ q,dL p=some q/\bD p=some q/\(aZ (Jt p)=false->q=[])/\(aZ (Jt p)=true->q.Pairwise ltL/\(∀ o,o∈q↔TrL p o)/\q.length<=3000):=by
 have hI:az p=some (aZ (Jt p)):=jq (decide_eq_true hsz);have hS:aR p=some (aZ (Jt p)):=jq (decide_eq_true hsz)
 cases hv:aZ (Jt p) with
 | false=>
  rw [hv] at hI hS;refine ⟨[],?_,?_,fun _=>rfl,nofun⟩
  ·unfold dL;rw [hI]
   rfl
  ·unfold bD gK;rw [hS];refine Jo.eq (Jo.bind (P:=(· = [])) (.pure rfl) fun v hv=>?_);subst hv;refine Jo.bind (P:=(· = [])) ?_ fun v hv => .pure hv;rw [gm];unfold fP;exact .pure rfl
 | true=>
  rw [hv] at hI hS;have hp:=PV.of hv;have Fw:=few hv;have hcl:(bM p).length<=3000:=by
   unfold bM;rw [bz (m:=(ja (Js p)).length) fun _ _=>llm _];exact Fw.all
  let Q:Nat->LI->Prop:=fun k o=>∃ i,i<k/\∃ l,av p ⟨((bM p).getD i default).From,((bM p).getD i default).Order⟩=some (l,true)/\o=l;have Qtr:∀ o,Q (bM p).length o↔TrL p o:=fun o=>by
   constructor
   ·rintro ⟨i,hi,l,e,rfl⟩;obtain ⟨l',b,h1,_,_,h4,_⟩:=kK hv (getD_in hi);rw [e] at h1;obtain ⟨rfl,rfl⟩:=Prod.mk.inj (osl h1);exact (h4 rfl).1
   ·intro ht;have hm:=lm hp (mN ht.1);obtain ⟨i,hi,e⟩:=List.getElem_of_mem hm;have eD:(bM p).getD i default=⟨(nE p (fw p o o.length)).1,(nE p (fw p o o.length)).2⟩:=by
     rw [gdq,geq hi];exact e
    obtain ⟨l,b,h1,_,_,h4,h5⟩:=kK hv (getD_in hi);rw [eD] at h1 h4 h5;obtain rfl:=h5 o ht.1 rfl;obtain ⟨g1,g2⟩:=h4 rfl;refine ⟨i,hi,l,by rw [eD];exact h1,?_⟩;have g3:=g1.2;rw [g2] at g3;exact ht.2.uniq g3
  have hi:Jo (dL p) fun q=>q.Pairwise ltL/\∀ o,o∈q↔TrL p o:=by
   unfold dL;refine (Jo.of (P:=(· = true)) hI rfl).bind fun v1 h1 => .bif (fun h=>by subst h1;cases h) fun _=>?_;refine Jo.bind (P:=fun l=>(∀ o,o∈l↔TrL p o)/\l.length<=3000/\∀ r∈l,r.length<=21) ?_ fun s3 ⟨h3,h4,h5⟩ => ?_
   ·refine (xH hv).bind fun v4 e4=>?_;subst v4;refine Jo.loop (fun z=>∃ k:Nat,k<=(bM p).length/\z.2=(k:Int)/\(∀ o,o∈z.1↔Q k o)/\z.1.length<=k/\∀ r∈z.1,r.length<=21) (fun z=>(((bM p).length:Int)-z.2).toNat) ⟨0,by omega,rfl,fun o=>⟨fun h=>by simp at h,fun ⟨i,h,_⟩=>absurd h (by omega)⟩,by simp,fun r h=>by simp at h⟩ fun z ⟨k,h1,h2,h3,h4,h5⟩ => ?_;obtain ⟨l,z2⟩:=z;simp only at h2 h3 h4 h5;subst h2;unfold eZ;simp only [tnn];refine .bifD (fun hk=>?_) fun hk => .pure ⟨fun o=>by rw [h3,show k=(bM p).length by omega];exact Qtr o,by omega,h5⟩;have hk':k<(bM p).length:=by omega
    obtain ⟨lk,b,e1,_,e3,_,_⟩:=kK hv (getD_in hk');have hQ:∀ o,Q (k+1) o↔Q k o\/(b=true/\o=lk):=fun o=>by
     constructor
     ·rintro ⟨i,hi,l',e,rfl⟩;rcases Nat.lt_or_ge i k with h | h
      ·exact .inl ⟨i,h,o,e,rfl⟩
      ·obtain rfl:i=k:=by omega
       rw [e] at e1;obtain ⟨rfl,rfl⟩:=Prod.mk.inj (osl e1);exact .inr ⟨rfl,rfl⟩
     ·rintro (⟨i,hi,l',e,rfl⟩ | ⟨rfl,rfl⟩)
      ·exact ⟨i,by omega,o,e,rfl⟩
      ·exact ⟨k,by omega,o,e1,rfl⟩
    refine Jo.bind (P:=fun l'=>(∀ o,o∈l'↔Q (k+1) o)/\l'.length<=k+1/\∀ r∈l',r.length<=21) (.gdD ⟨by omega,hk⟩ ((Jo.of (P:=(· = (lk,b))) e1 rfl).bind fun v18 e18=>?_)) fun l' ⟨g1,g2,g3⟩ => .gdI (by omega) (.pure ⟨⟨k+1,by omega,rfl,g1,g2,g3⟩,by simp only [];omega⟩);subst e18;refine .bif (fun hb => .gd (au (by omega) rfl) (.pure ⟨fun o=>?_,by simp;omega,fun r hr=>?_⟩)) fun hb => .pure ⟨fun o=>?_,by omega,h5⟩
    ·rw [List.mem_append,List.mem_singleton,h3,hQ];exact ⟨fun h=>h.imp id fun e=>⟨hb,e⟩,fun h=>h.imp id fun e=>e.2⟩
    ·rcases List.mem_append.1 hr with h | h
     ·exact h5 r h
     ·rw [List.mem_singleton.1 h];exact e3
    ·rw [h3,hQ];refine ⟨.inl,fun h=>?_⟩;rcases h with h | h
     ·exact h
     ·have : b=false:=hb;rw [h.1] at this
      cases this
   ·refine (AC (by omega) fun r hr=>Nat.le_trans (h5 r hr) (by omega)).bind fun v28 S => .pure ⟨S.lt,fun o=>(S.mem o).trans (h3 o)⟩
  have hs:Jo (bD p) fun q=>q.Pairwise ltL/\(∀ o,o∈q↔TrL p o)/\q.length<=3000:=by
   unfold bD gK;refine Jo.bind (P:=(· = bM p)) ((Jo.of (P:=(· = true)) hS rfl).bind fun v1 h1 => .bif (fun h=>by subst h1;cases h) fun _=>(Dg hv).bind fun v3 h3 => .pure h3) fun v1 h1=>?_;subst v1;refine Jo.bind (P:=fun q=>q.Pairwise ltL/\(∀ o,o∈q↔TrL p o)/\q.length<=3000) ?_ fun v hv => .pure hv;refine Jo.loop (fun z=>∃ k:Nat,k<=(bM p).length/\z.1=(k:Int)/\(∀ o,o∈z.2↔Q k o)/\z.2.length<=k/\z.2.Pairwise ltL) (fun z=>(((bM p).length:Int)-z.1).toNat) ⟨0,by omega,rfl,fun o=>⟨fun h=>by simp at h,fun ⟨i,h,_⟩=>absurd h (by omega)⟩,by simp,.nil⟩ fun z ⟨k,h1,h2,h3,h4,h5⟩ => ?_;obtain ⟨z1,l⟩:=z;simp only at h2 h3 h4 h5;subst h2;unfold fP;simp only [tnn];refine .bifD (fun hk=>?_) fun hk => .pure ⟨h5,fun o=>by rw [h3,show k=(bM p).length by omega];exact Qtr o,by omega⟩;have hk':k<(bM p).length:=by omega
   have hC:=sZ hp (getD_in hk');obtain ⟨lk,b,e1,e2,e3,e4,_⟩:=kK hv (getD_in hk');have hQ:∀ o,Q (k+1) o↔Q k o\/(b=true/\o=lk):=fun o=>by
    constructor
    ·rintro ⟨i,hi,l',e,rfl⟩;rcases Nat.lt_or_ge i k with h | h
     ·exact .inl ⟨i,h,o,e,rfl⟩
     ·obtain rfl:i=k:=by omega
      rw [e] at e1;obtain ⟨rfl,rfl⟩:=Prod.mk.inj (osl e1);exact .inr ⟨rfl,rfl⟩
    ·rintro (⟨i,hi,l',e,rfl⟩ | ⟨rfl,rfl⟩)
     ·exact ⟨i,by omega,o,e,rfl⟩
     ·exact ⟨k,by omega,o,e1,rfl⟩
   have htr:∀ o,Q k o->TrL p o:=fun o ⟨i,hi,l',e,he⟩=>(Qtr o).1 ⟨i,by omega,l',e,he⟩;refine Jo.bind (P:=fun l'=>(∀ o,o∈l'↔Q (k+1) o)/\l'.length<=k+1/\l'.Pairwise ltL) (.gdD ⟨by omega,hk⟩ ?_) fun l' ⟨g1,g2,g3⟩ => .gdI (by omega) (.pure ⟨⟨k+1,by omega,rfl,g1,g2,g3⟩,by simp only [];omega⟩);refine (Es hp (IV hp hC)).bind fun v10 h10=>?_;subst v10;refine (Jo.of (P:=(· = (lk,b))) e2 rfl).bind fun v11 h11=>?_;subst h11;refine .bif (fun hb=>?_) fun hb => .pure ⟨fun o=>?_,by omega,h5⟩
   ·have hlk:=Ft (e4 hb).1;unfold lg;refine Jo.bind (P:=fun l'=>(∀ o,o∈l'↔Q (k+1) o)/\l'.length<=k+1/\l'.Pairwise ltL) (Jo.bind (P:=fun l'=>(∀ o,o∈l'↔Q (k+1) o)/\l'.length<=k+1/\l'.Pairwise ltL) ?_ fun v hv => .pure hv) fun v hv => .pure hv;refine (Gv h5 (by omega) (fun r hr=>by rw [Ft (htr r ((h3 r).1 hr)),hlk]) (show lk.length<=1000 by omega)).mono fun q ⟨q1,q2,q3⟩=>⟨fun o=>?_,by omega,q1⟩;rw [q2,h3,hQ];exact ⟨fun h=>h.imp id fun e=>⟨hb,e⟩,fun h=>h.imp id fun e=>e.2⟩
   ·rw [h3,hQ];refine ⟨.inl,fun h=>?_⟩;rcases h with h | h
    ·exact h
    ·have : b=false:=hb;rw [h.1] at this
     cases this
  obtain ⟨q,e,q1,q2⟩:=hi;obtain ⟨q',e',q1',q2',q3'⟩:=hs;obtain rfl:=Dj q1 q1' fun o=>(q2 o).trans (q2' o).symm;exact ⟨q,e,e',nofun,fun _=>⟨q1,q2,q3'⟩⟩
end
section
variable {p:List (List Jh)}
def uR (p:List (List Jh)) (s:LI):Nat->Jk
 | 0=>v0 p
 | i+1=>Ej (uR p s i) (s.getD i default) (FW (uR p s i) (s.getD i default))
theorem Hv (hp:PV p) {s:LI} {z0:Jn} (h0:Rel p (u0 p) z0) (hg:Good p s s.length):∀ m,m<=s.length->Rea Iz ⟨v0 p⟩ ⟨uR p s m⟩/\Rel p (uR p s m) (zR p s z0 m)/\∀ t:Nat,t<p.length->(zR p s z0 m).at_.getD t default=((s.take m).count (t:Int):Int)
 | 0,_=>⟨.base,h0,fun t ht=>by
   show z0.at_.getD t default=_;rw [h0.a t ht];unfold u0;simp only [z3,List.take_zero,List.count_nil]
   rfl⟩
 | m+1,hm=>by
  obtain ⟨h1,h2,h3⟩:=Hv hp h0 hg m (by omega);have hl:=hp.vs.1;obtain ⟨q1,q2⟩:=hg m (by omega);obtain ⟨n,hn⟩:∃ n:Nat,s.getD m default=n:=⟨(s.getD m default).toNat,by omega⟩;have hnp:n<p.length:=by omega
  have hat:=h3 n hnp;have hpc:=h2.a n hnp;have hup:=h2.up;rw [hn,tnn] at q2;have hlt:(zR p s z0 m).at_.getD n default<((p.getD n default).length:Int):=by rw [hat];omega
  have hc:Ek (uR p s m) n=true:=by
   unfold Ek;rw [hup,<- hpc];exact decide_eq_true hlt
  have hin:FW (uR p s m) (n:Int)=(p.getD n default).getD ((zR p s z0 m).at_.getD n default).toNat default:=by
   unfold FW;rw [hup,<- hpc,tnn]
  have e1:uR p s (m+1)=Ej (uR p s m) (n:Int) (FW (uR p s m) (n:Int)):=by rw [uR,hn]
  have e2:zR p s z0 (m+1)=AJ (zR p s z0 m) (n:Int) ((p.getD n default).getD ((zR p s z0 m).at_.getD n default).toNat default):=by rw [zR,hn,tnn]
  refine ⟨?_,?_,fun t ht=>?_⟩
  ·rw [e1];exact .step (m:=(n:Int)) h1 (vN.2 ⟨n,by rw [hup];exact hnp,rfl,hc⟩)
  ·rw [e1,e2,hin];refine h2.after hp (t:=(n:Int)) ⟨by omega,by omega⟩ (by rw [tnn];exact hlt) ?_;exact hp.ins n _ hnp (by rw [hat];omega)
  ·rw [e2];unfold AJ;simp only [tnn];rw [bq (by rw [h2.al];exact hnp),mL (by omega),hn,hat]
   by_cases e:t=n
   ·subst e;rw [if_pos rfl,if_pos rfl];omega
   ·rw [if_neg e,if_neg (by omega),h3 t ht]
    rfl
theorem xJ (hp:PV p) {s:LI} (hw:Whole p s):s.length<=21:=by
 have hl:=hp.vs.1;have key:∀ s:LI,(∀ v∈s,0<=v/\v<3)->s.length=s.count 0+s.count 1+s.count 2:=fun s=>by
  induction s with
  | nil=>intro _;rfl
  | cons a l ih=>
   intro h;have h1:=ih fun v hv=>h v (List.mem_cons_of_mem _ hv);have h2:=h a List.mem_cons_self;rw [llc,List.count_cons,List.count_cons,List.count_cons];simp only [beq_iff_eq];rcases (by omega:a=0\/a=1\/a=2) with rfl | rfl | rfl <;> simp <;> omega
 have hin:∀ v∈s,0<=v/\v<(p.length:Int):=fun v hv=>by
  obtain ⟨i,hi,e⟩:=List.getElem_of_mem hv;have := (hw.2.1 i hi).1;rw [gdq,geq hi] at this;rw [<- e];exact this
 have := key s fun v hv=>by have := hin v hv;omega
 have hc:∀ t:Nat,s.count (t:Int)<=7:=fun t=>by
  by_cases ht:t<p.length
  ·rw [hw.2.2 t ht];exact hp.vs.2 t
  ·rw [List.count_eq_zero.2 fun hm=>by have := hin _ hm;omega];omega
 have c0:s.count 0<=7:=hc 0;have c1:s.count 1<=7:=hc 1;have c2:s.count 2<=7:=hc 2;omega
theorem Dk {s:LI} {t:Nat} (hg:Good p s s.length) (ht:t<p.length) (h:s.count (t:Int)<(p.getD t default).length):Good p (s++[(t:Int)]) (s++[(t:Int)]).length:=fun j hj=>by
 rw [lla,List.length_singleton] at hj
 by_cases e:j=s.length
 ·subst e;have e1:(s++[(t:Int)]).getD s.length default=t:=by rw [gdq,gar (Nat.le_refl _)];simp
  rw [e1,List.take_append_of_le_length (Nat.le_refl _),List.take_length,tnn];exact ⟨⟨by omega,by omega⟩,h⟩
 ·have e1:(s++[(t:Int)]).getD j default=s.getD j default:=by rw [gdq,gdq,gal (by omega)]
  rw [e1,List.take_append_of_le_length (by omega)];exact hg j (by omega)
theorem xK (hsz:p.length<=1048576/\total p<=1048576) {s:LI} (hw:Whole p s):aN p s=some (El (uR p s s.length),true)/\I3 p (El (uR p s s.length)):=by
 have hp:=PV.of hw.1;have hsl:=xJ hp hw;obtain ⟨o,b,r1,_,r3,r4⟩:=vR p hsz (s:=s) (by omega);obtain rfl:=r3.2 hw;obtain ⟨z0,e0,h0,ho⟩:=r4 rfl;obtain ⟨k1,k2,k3⟩:=Hv hp h0 hw.2.1 s.length (Nat.le_refl _);have hI:=Hf hp (Iv.start p) k1;have e:El (uR p s s.length)=o:=by
  have a1:=(qF hp k2).eq;have a2:=(Em hp hI).eq;rw [a1] at a2;rw [ho];exact (osl a2).symm
 rw [e];refine ⟨r1,⟨_,k1,?_,e⟩⟩;show (He (uR p s s.length)).isEmpty=true
 cases hm:He (uR p s s.length) with
 | nil=>rfl
 | cons m l=>
  exfalso;obtain ⟨t,g1,_,g2⟩:=vN.1 (show m∈He (uR p s s.length) by rw [hm];exact List.mem_cons_self);rw [k2.up] at g1;unfold Ek at g2;rw [k2.up,<- k2.a t g1,k3 t g1,List.take_length,hw.2.2 t g1] at g2;exact absurd (of_decide_eq_true g2) (by omega)
theorem EI (hsz:p.length<=1048576/\total p<=1048576) {s:LI} (hw:Whole p s):∃ l,TrL p l/\El (uR p l l.length)=El (uR p s s.length):=by
 have hv:=hw.1;have hp:=PV.of hv;obtain ⟨l,b,_,_,hl,h4,h5⟩:=kK hv (lm hp (mN hw));obtain rfl:=h5 s hw rfl;obtain ⟨g1,g2⟩:=h4 rfl;refine ⟨l,g1,?_⟩;have hsl:=xJ hp hw;obtain ⟨o,r1,r2,_⟩:=xz hsz (s:=l) (s':=s) (by omega) (by omega) g1.1 hw g2;rw [(xK hsz g1.1).1] at r1;rw [(xK hsz hw).1] at r2;exact (Prod.mk.inj (osl (r1.trans r2.symm))).1
end
theorem Ju:TyF Tryz.prog 3 false 1:=⟨by kernel_rfl,by kernel_rfl,by kernel_rfl,by kernel_rfl⟩
theorem zs3:TyZ Tryz.prog 3 [I (0:Int)]:=⟨by kernel_rfl,by kernel_rfl⟩
theorem ty4:TyF Tryz.prog 4 false 1:=⟨by kernel_rfl,by kernel_rfl,by kernel_rfl,by kernel_rfl⟩
theorem ty5:TyF Tryz.prog 5 false 1:=⟨by kernel_rfl,by kernel_rfl,by kernel_rfl,by kernel_rfl⟩
theorem zs5:TyZ Tryz.prog 5 [Y (0:Int)]:=⟨by kernel_rfl,by kernel_rfl⟩
theorem xL:TyF Tryz.prog 24 false 1:=⟨by kernel_rfl,by kernel_rfl,by kernel_rfl,by kernel_rfl⟩
theorem I5:TyZ Tryz.prog 24 [.nil]:=⟨by kernel_rfl,by kernel_rfl⟩
theorem Fu:TyF Tryz.prog 26 false 1:=⟨by kernel_rfl,by kernel_rfl,by kernel_rfl,by kernel_rfl⟩
theorem jm:TyF Tryz.prog 35 false 1:=⟨by kernel_rfl,by kernel_rfl,by kernel_rfl,by kernel_rfl⟩
theorem I6:TyZ Tryz.prog 35 [.nil]:=⟨by kernel_rfl,by kernel_rfl⟩
theorem tQ:TyF Tryz.prog 48 true 2:=⟨by kernel_rfl,by kernel_rfl,by kernel_rfl,by kernel_rfl⟩
theorem DU:TyZ Tryz.prog 48 [.nil,.nil]:=⟨by kernel_rfl,by kernel_rfl⟩
theorem wu:TyS Tryz.prog 48 [(0,1),(1,1)]:=⟨by kernel_rfl⟩
theorem Bc:TyF Tryz.prog 50 false 1:=⟨by kernel_rfl,by kernel_rfl,by kernel_rfl,by kernel_rfl⟩
theorem I7:TyZ Tryz.prog 50 [.nil]:=⟨by kernel_rfl,by kernel_rfl⟩
theorem ww:TyF Tryz.prog 70 true 4:=⟨by kernel_rfl,by kernel_rfl,by kernel_rfl,by kernel_rfl⟩
theorem GL:TyZ Tryz.prog 70 [I (0:Int),I (0:Int),I (0:Int),I (0:Int)]:=⟨by kernel_rfl,by kernel_rfl⟩
theorem uX:TyS Tryz.prog 70 [(0,1),(1,1),(2,1),(3,1)]:=⟨by kernel_rfl⟩
theorem Dl:TyF Tryz.prog 84 true 5:=⟨by kernel_rfl,by kernel_rfl,by kernel_rfl,by kernel_rfl⟩
theorem DV:TyZ Tryz.prog 84 [I (0:Int),I (0:Int),I (0:Int),Bo false,Bo false]:=⟨by kernel_rfl,by kernel_rfl⟩
theorem jI:TyS Tryz.prog 84 [(0,1),(1,1),(2,1),(3,1),(4,1)]:=⟨by kernel_rfl⟩
theorem IW:TyF Tryz.prog 93 false 1:=⟨by kernel_rfl,by kernel_rfl,by kernel_rfl,by kernel_rfl⟩
theorem IX:TyZ Tryz.prog 95 [.nil,.nil,.nil,.nil,.nil,.v (.map none)]:=⟨by kernel_rfl,by kernel_rfl⟩
theorem wy:TyS Tryz.prog 95 [(0,1),(1,2),(3,1),(4,1),(5,1)]:=⟨by kernel_rfl⟩
theorem Gw:TyF Tryz.prog 97 true 3:=⟨by kernel_rfl,by kernel_rfl,by kernel_rfl,by kernel_rfl⟩
theorem ID:TyZ Tryz.prog 97 [I (0:Int),I (0:Int),I (0:Int)]:=⟨by kernel_rfl,by kernel_rfl⟩
theorem Dm:TyF Tryz.prog 115 true 3:=⟨by kernel_rfl,by kernel_rfl,by kernel_rfl,by kernel_rfl⟩
theorem IE:TyZ Tryz.prog 115 [Y (0:Int),Y (0:Int),Y (0:Int)]:=⟨by kernel_rfl,by kernel_rfl⟩
theorem IG:TyF Tryz.prog 116 true 9:=⟨by kernel_rfl,by kernel_rfl,by kernel_rfl,by kernel_rfl⟩
theorem II:TyS Tryz.prog 118 [(0,1),(1,3),(4,9),(13,3)]:=⟨by kernel_rfl⟩
theorem bR:SlT Tryz.prog 24 35 false 1 [.nil] 24:=⟨Tryz.underlying24,jm,I6,rfl,rfl,by kernel_rfl⟩
theorem tT:SlT Tryz.prog 26 50 false 1 [.nil] 24:=⟨Tryz.underlying26,Bc,I7,rfl,rfl,by kernel_rfl⟩
theorem Ij:SlT Tryz.prog 33 5 false 1 [Y (0:Int)] 1:=⟨Tryz.underlying33,ty5,zs5,rfl,rfl,by kernel_rfl⟩
theorem bh:SlT Tryz.prog 35 3 false 1 [I (0:Int)] 8:=⟨Tryz.underlying35,Ju,zs3,rfl,rfl,by kernel_rfl⟩
theorem DW:SlT Tryz.prog 44 48 true 2 [.nil,.nil] 48:=⟨Tryz.underlying44,tQ,DU,rfl,rfl,by kernel_rfl⟩
theorem yZ:SlT Tryz.prog 50 70 true 4 [I (0:Int),I (0:Int),I (0:Int),I (0:Int)] 32:=⟨Tryz.underlying50,ww,GL,rfl,rfl,by kernel_rfl⟩
theorem pg:SlT Tryz.prog 74 84 true 5 [I (0:Int),I (0:Int),I (0:Int),Bo false,Bo false] 32:=⟨Tryz.underlying74,Dl,DV,rfl,rfl,by kernel_rfl⟩
theorem wz:SlT Tryz.prog 88 24 false 1 [.nil] 24:=⟨Tryz.underlying88,xL,I5,rfl,rfl,by kernel_rfl⟩
theorem IY:KeyA Tryz.prog 97 3 kI3:=by
 obtain ⟨i,hi⟩:=Option.isSome_iff_exists.1 (show (Tryz.prog.info? 3).isSome=true by kernel_rfl);exact Iu Tryz.underlying97 Tryz.underlying3 (by kernel_rfl) hi (by kernel_rfl)
section
variable {α β:Type} [Inhabited β] {f:α->List Value} {s:Nat} {c:β->List AV} {w:World} {fz:Nat->Prop} {v:Value}
theorem xM {u x:Value} (h:FRel w fz (.v u) x):x=u:=by
 cases h with
 | v _=>rfl
theorem p9 {e:β->α} (hf:∀ x,c x=(f (e x)).map AV.v) (hs:∀ x,(f (e x)).length=s) {l:List β} (h:FRel w fz (eL c l) v):Sl f s w 0 w.heap.size v (l.map e):=by
 unfold eL at h
 cases h with
 | sl us hc hm ha hr hu h1 h=>
  refine ⟨_,_,by rw [llm],by simpa using hc,hm,fun hn=>?_⟩;rw [llm] at hn;obtain ⟨rfl,hg,hlt⟩:=ha hn;refine ⟨_,_,rfl,Nat.zero_le _,hlt,hlt,fun k hk j u hu' => ?_⟩;rw [llm] at hk;rw [List.getElem_map] at hu';have hk0:l.getD k default=l[k]:=by simp [List.getD,hk]
  have hrow:(c (l.getD k default))[j]? = some (.v u):=by rw [hk0,hf,List.getElem?_map,hu'];rfl
  have hs':=hr k hk
  dsimp only at hs'
  rw [hf,llm,hs] at hs';subst hs';have h2:=hu k j _ hk hrow;rw [xM (h k j _ hk hrow)] at h2;exact h2
theorem j6 {e:β->α} (hf:∀ x,c x=(f (e x)).map AV.v) (hs:∀ x,(f (e x)).length=s) {l:List (List β)} (h:FRel w fz (eL (cL c) l) v):iO f s w 0 w.heap.size v (l.map fun r=>r.map e):=by
 unfold eL at h
 cases h with
 | sl us hc hm ha hr hu h1 h=>
  refine ⟨(List.range l.length).map fun i=>us i 0,?_,by simp,fun k hk hk' => ?_⟩
  ·refine ⟨_,_,by rw [llm,List.length_range],by simpa using hc,hm,fun hn=>?_⟩;rw [llm,List.length_range] at hn;obtain ⟨rfl,hg,hlt⟩:=ha hn;refine ⟨_,_,rfl,Nat.zero_le _,hlt,hlt,fun k hk j u hu' => ?_⟩;rw [llm,List.length_range] at hk;rw [List.getElem_map,List.getElem_range] at hu';have hs':=hr k hk;change 1=_ at hs';subst hs'
   match j with
   | 0=>
    have h2:=hu k 0 _ hk rfl;rw [h2];simpa [Bb] using hu'
   | j+1=>simp [Bb] at hu'
  ·rw [llm,List.length_range] at hk;rw [List.getElem_map,List.getElem_map,List.getElem_range];have h2:=h k 0 _ hk rfl;have hk0:l.getD k default=l[k]:=by simp [List.getD,hk]
   rw [hk0] at h2;exact p9 hf hs h2
theorem uY {e:α->β} (hf:∀ x,c (e x)=(f x).map AV.v) (hs:∀ x,(f x).length=s) (hp:∀ x,∀ u∈f x,plain u=true) {l:List α} {hi:Nat} (h:Sl f s w 0 hi v l):FRel w (fun g=>g<w.heap.size) (eL c (l.map e)) v:=by
 obtain ⟨A,cap,rfl,hc,hm,h⟩:=h;have key:∀ (g o:Nat),(0<l.length->A=some ⟨g,o,none⟩/\g<w.heap.size/\∀ (k:Nat) (h:k<l.length) (j:Nat) (u:Value),(f l[k])[j]? = some u->w.cell? ⟨g,o+k*s+j,none⟩=some u)->FRel w (fun g=>g<w.heap.size) (eL c (l.map e)) (.slice A l.length cap):=by
  intro g o hh;have hrow:∀ (i j:Nat) (a:AV),i<l.length->(c ((l.map e).getD i default))[j]? = some a->∃ u,l[i]?.bind (fun x=>(f x)[j]?)=some u/\a = .v u/\plain u=true/\w.cell? ⟨g,o+i*s+j,none⟩=some u:=by
   intro i j a hi ha;have h0:(l.map e).getD i default=e l[i]:=by simp [List.getD,hi]
   rw [h0,hf,List.getElem?_map] at ha
   cases hq:(f l[i])[j]? with
   | none=>rw [hq] at ha;cases ha
   | some u=>
    rw [hq] at ha;refine ⟨u,by rw [geq hi];exact hq,(osl ha).symm,hp _ u (List.mem_of_getElem? hq),(hh (by omega)).2.2 i hi j u hq⟩
  have e0:(l.map e).length=l.length:=by simp
  unfold eL;rw [e0];refine FRel.sl (s:=s) (g:=g) (o:=o) (fun i j=>(l[i]?.bind fun x=>(f x)[j]?).getD (.bool false)) hc hm (fun hn=>⟨(hh hn).1,(hh hn).2.1,(hh hn).2.1⟩) (fun i hi=>?_) (fun i j a hi ha=>?_) (fun i j a hi ha=>?_) (fun i j a hi ha=>?_)
  ·have h0:(l.map e).getD i default=e l[i]:=by simp [List.getD,hi]
   rw [h0,hf,llm,hs]
  ·obtain ⟨u,h1,h2,h3,h4⟩:=hrow i j a hi ha;simp only [h1,Option.getD_some];exact h4
  ·obtain ⟨u,h1,h2,h3,h4⟩:=hrow i j a hi ha;simp only [h1,Option.getD_some];exact rB h3
  ·obtain ⟨u,h1,h2,h3,h4⟩:=hrow i j a hi ha;subst h2;simp only [h1,Option.getD_some];exact .v h3
 by_cases h0:0<l.length
 ·obtain ⟨b,o,hA,_,_,hlt,hcell⟩:=h h0;exact key b o fun _=>⟨hA,hlt,hcell⟩
 ·exact key 0 0 fun h1=>absurd h1 h0
theorem eY {P:Program} {g:FuncId} {ars:List AV} {r:AV} (h:aJ P g ars r) (vs:Array Value) (hl:vs.size=ars.length) (hr:∀ (i:Nat) (a:AV) (v:Value),ars[i]? = some a->vs[i]? = some v->FRel w (fun g=>g<w.heap.size) a v) :
  Calls P g vs w fun e w'=>∃ v fz',e = .returned v/\Below w.heap.size w w'/\FRel w' fz' r v:=
 (h.2 w _ vs (fun g hg=>hg) hl hr).mono fun e w' ⟨v,fz',h1,h2,h3,_⟩=>⟨v,fz',h1,h2,h3⟩
theorem EJ {a:AV} {u:Value} (h:FRel w fz a u):∀ (i:Nat) (a':AV) (v:Value),[a][i]? = some a' -> #[u][i]? = some v->FRel w fz a' v:=by
 intro i a' v h1 h2
 match i with
 | 0=>
  obtain rfl:=osl h1;obtain rfl:u=v:=by simpa using h2
  exact h
 | i+1=>simp at h1
end
theorem Dn {w:World} {v:Value} {hi:Nat} {l:LI} (h:Sl lM 1 w 0 hi v l):FRel w (fun g=>g<w.heap.size) (eL cI l) v:=by
 have := uY (f:=lM) (s:=1) (c:=cI) (e:=id) (fun _=>rfl) (fun _=>rfl) (fun x u hu=>by simp [lM] at hu;subst hu;rfl) h
 rwa [List.map_id] at this
theorem tj {P:Program} {g:FuncId} {ars:List AV} {w:World} {vs:Array Value} (h:aJ P g ars (Bo true)) (hl:vs.size=ars.length) (hr:∀ (i:Nat) (a:AV) (v:Value),ars[i]? = some a->vs[i]? = some v->FRel w (fun g=>g<w.heap.size) a v) :
  Calls P g vs w fun e w'=>e = .returned (.bool true)/\Below w.heap.size w w':=
 (eY h vs hl hr).mono fun e w' ⟨v,fz',h1,h2,h3⟩=>⟨by rw [h1,xM h3],h2⟩
open Go.Shelf Go.RowKit Go.Lib Go.Sort
def Hw:Go.Shelf.Ren:=⟨fun | 6=>70 | 15=>103 | 14=>102 | 28=>126 | 29=>127 | 20=>118 | 21=>119 | 22=>120 | 23=>121 | 24=>122 | 25=>123 | 26=>124 | 27=>125 | 46=>134 | 47=>135 | 48=>136 | 49=>137 | 50=>138 | 57=>141 | n=>n,fun | 22=>24 | 24=>35 | 25=>99 | 3=>3 | 39=>139 | 0=>0 | 53=>161 | 55=>163 | 4=>4 | 46=>154 | 45=>153 | 50=>158 | 5=>5 | 9=>9 | 66=>167 | 70=>171 | 76=>175 | 77=>176 | n=>n,fun | n=>n⟩
theorem Dq:Go.Proofs.SlLaysF.n6 Tryz.prog Hw where
 mixed:=by kernel_rfl
 f6 := ⟨"slices.SortFunc[[][]int,[]int]",by decide,Tryz.func70.trans (congrArg some (by kernel_rfl))⟩
 f14 := ⟨"slices.pdqsortCmpFunc[[]int]",by decide,Tryz.func102.trans (congrArg some (by kernel_rfl))⟩
 f15:=Tryz.func103.trans (congrArg some (by kernel_rfl))
 f20 := ⟨"slices.insertionSortCmpFunc[[]int]",by decide,Tryz.func118.trans (congrArg some (by kernel_rfl))⟩
 f21 := ⟨"slices.heapSortCmpFunc[[]int]",by decide,Tryz.func119.trans (congrArg some (by kernel_rfl))⟩
 f22 := ⟨"slices.breakPatternsCmpFunc[[]int]",by decide,Tryz.func120.trans (congrArg some (by kernel_rfl))⟩
 f23 := ⟨"slices.choosePivotCmpFunc[[]int]",by decide,Tryz.func121.trans (congrArg some (by kernel_rfl))⟩
 f24 := ⟨"slices.reverseRangeCmpFunc[[]int]",by decide,Tryz.func122.trans (congrArg some (by kernel_rfl))⟩
 f25 := ⟨"slices.partialInsertionSortCmpFunc[[]int]",by decide,Tryz.func123.trans (congrArg some (by kernel_rfl))⟩
 f26 := ⟨"slices.partitionEqualCmpFunc[[]int]",by decide,Tryz.func124.trans (congrArg some (by kernel_rfl))⟩
 f27 := ⟨"slices.partitionCmpFunc[[]int]",by decide,Tryz.func125.trans (congrArg some (by kernel_rfl))⟩
 f28:=Tryz.func126.trans (congrArg some (by kernel_rfl))
 f29:=Tryz.func127.trans (congrArg some (by kernel_rfl))
 f46 := ⟨"slices.siftDownCmpFunc[[]int]",by decide,Tryz.func134.trans (congrArg some (by kernel_rfl))⟩
 f47:=Tryz.func135.trans (congrArg some (by kernel_rfl))
 f48:=Tryz.func136.trans (congrArg some (by kernel_rfl))
 f49 := ⟨"slices.medianAdjacentCmpFunc[[]int]",by decide,Tryz.func137.trans (congrArg some (by kernel_rfl))⟩
 f50 := ⟨"slices.medianCmpFunc[[]int]",by decide,Tryz.func138.trans (congrArg some (by kernel_rfl))⟩
 f57 := ⟨"slices.order2CmpFunc[[]int]",by decide,Tryz.func141.trans (congrArg some (by kernel_rfl))⟩
 t0:=Tryz.underlying0
 a0:=Tryz.isAgg0
 z0:=Tryz.sizeOf0
 v0:=Tryz.zeroValue0
 t3:=Tryz.underlying3
 a3:=Tryz.isAgg3
 z3:=Tryz.sizeOf3
 v3:=Tryz.zeroValue3
 t4:=Tryz.underlying4
 a4:=Tryz.isAgg4
 z4:=Tryz.sizeOf4
 v4:=Tryz.zeroValue4
 t5:=Tryz.underlying5
 a5:=Tryz.isAgg5
 z5:=Tryz.sizeOf5
 v5:=Tryz.zeroValue5
 t9:=Tryz.underlying9
 a9:=Tryz.isAgg9
 z9:=Tryz.sizeOf9
 v9:=Tryz.zeroValue9
 t22:=Tryz.underlying24
 a22:=Tryz.isAgg24
 z22:=Tryz.sizeOf24
 v22:=Tryz.zeroValue24
 a24:=Tryz.isAgg35
 z24:=Tryz.sizeOf35
 t25:=Tryz.underlying99
 a25:=Tryz.isAgg99
 z25:=Tryz.sizeOf99
 v25:=Tryz.zeroValue99
 t39:=Tryz.underlying139
 a39:=Tryz.isAgg139
 z39:=Tryz.sizeOf139
 v39:=Tryz.zeroValue139
 t45:=Tryz.underlying153
 a45:=Tryz.isAgg153
 z45:=Tryz.sizeOf153
 v45:=Tryz.zeroValue153
 t46:=Tryz.underlying154
 a46:=Tryz.isAgg154
 z46:=Tryz.sizeOf154
 v46:=Tryz.zeroValue154
 t50:=Tryz.underlying158
 a50:=Tryz.isAgg158
 z50:=Tryz.sizeOf158
 v50:=Tryz.zeroValue158
 t53:=Tryz.underlying161
 a53:=Tryz.isAgg161
 z53:=Tryz.sizeOf161
 v53:=Tryz.zeroValue161
 t55:=Tryz.underlying163
 a55:=Tryz.isAgg163
 z55:=Tryz.sizeOf163
 v55:=Tryz.zeroValue163
 t66:=Tryz.underlying167
 a66:=Tryz.isAgg167
 z66:=Tryz.sizeOf167
 v66:=Tryz.zeroValue167
 t70:=Tryz.underlying171
 a70:=Tryz.isAgg171
 z70:=Tryz.sizeOf171
 v70:=Tryz.zeroValue171
 t76:=Tryz.underlying175
 a76:=Tryz.isAgg175
 z76:=Tryz.sizeOf175
 v76:=Tryz.zeroValue175
 t77:=Tryz.underlying176
 a77:=Tryz.isAgg176
 z77:=Tryz.sizeOf176
 v77:=Tryz.zeroValue176
end
end Go.Proofs.YtlmjnhnpahicmaaGreat
