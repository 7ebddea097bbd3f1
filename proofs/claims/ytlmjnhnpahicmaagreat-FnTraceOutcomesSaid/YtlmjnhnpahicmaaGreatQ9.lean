/- Texts joined. No conditions. -/
import Derived.Test.YtlmjnhnpahicmaaGreatQ8
namespace Go.Proofs.YtlmjnhnpahicmaaGreat
noncomputable section
open Go.RowKit
set_option maxRecDepth 100000
section
variable {p:List (List LD)} {x:XS} {F:LI}
def px (p:List (List LD)) (x:XS) (a:Nat->Nat):XS:=((List.range (evs p).length).map fun (i:Nat)=>if dn p a (i:Int)=true then x.1.getD i default else -1,[(od x 0).take (dc p x a 0),(od x 1).take (dc p x a 1),(od x 2).take (dc p x a 2)])
theorem lc (a:Nat->Nat):(px p x a).1.length=(evs p).length:=by simp [px]
theorem vN {a:Nat->Nat} {i:Nat} (h:i<(evs p).length):(px p x a).1.getD i default=if dn p a (i:Int)=true then x.1.getD i default else -1:=by
 unfold px;simp only [];rw [gdq,List.getElem?_map,List.getElem?_range h]
 rfl
theorem vO {a:Nat->Nat} {l:Nat} (hl:l<3):(px p x a).2.getD l []=(od x (l:Int)).take (dc p x a (l:Int)):=by
 match l,hl with
 | 0,_=>rfl
 | 1,_=>rfl
 | 2,_=>rfl
theorem KD {l k:LL} (hl:l.length=3) (hk:k.length=3) (h:∀ i:Nat,i<3->l.getD i []=k.getD i []):l=k:=by
 match l,hl,k,hk with
 | [a,b,c],_,[d,e,f],_=>
  have h0:a=d:=h 0 (by omega);have h1:b=e:=h 1 (by omega);have h2:c=f:=h 2 (by omega);rw [h0,h1,h2]
theorem I9 {a:Nat->Nat} {t:Nat} (ht:t<p.length) (l:Int):cnt p (adv a t) l p.length=cnt p a l p.length+if wq p t l (a t)=true then 1 else 0:=by
 have e1:adv a t t=a t+1:=by unfold adv;rw [if_pos rfl]
 by_cases h:wq p t l (a t)=true
 ·rw [if_pos h];refine Bi (f:=fun u=>cwr p u l (adv a t u)) (g:=fun u=>cwr p u l (a u)) ht ?_ fun u _ hne=>?_
  ·simp only [e1,ry,if_pos h]
  ·show cwr p u l (adv a t u)=cwr p u l (a u);unfold adv;rw [if_neg hne]
 ·rw [if_neg h,Nat.add_zero];unfold cnt
  congr 1
  apply List.map_congr_left;intro u _
  by_cases hne:u=t
  ·subst hne;rw [e1,ry,if_neg h,Nat.add_zero]
  ·unfold adv;rw [if_neg hne]
theorem Ig (hp:PV p) (R:Cand p x F) {a:Nat->Nat} (ha:StA p a) {t:Nat} (ht:t<p.length) (hk:a t<(p.getD t default).length) {l:Nat} (hl:l<3):dc p x (adv a t) (l:Int)=dc p x a (l:Int)+if wq p t (l:Int) (a t)=true then 1 else 0:=by
 rw [G5 hp R ha hl,G5 hp R (ha.adv hk) hl,I9 ht];omega
theorem Ja (hp:PV p) (R:Cand p x F):px p x (fun _=>0)=x0 p:=by
 have hz:StA p (fun _=>0):=fun t _=>Nat.zero_le _;refine Prod.ext (sM (by rw [lc];simp [x0]) fun i hi=>?_) (KD rfl rfl fun l hl=>?_)
 ·rw [lc] at hi;rw [vN hi];have e:(x0 p).1.getD i default = -1:=by
   show (List.replicate (evs p).length (-1:Int)).getD i default = -1;rw [gdq,List.getElem?_replicate,if_pos hi]
   rfl
  rw [e]
  split
  ·rename_i hd;rcases fQ (p:=p) (n:=(i:Int)) (by omega) (by omega) with h3 | ⟨t,k,h3,e3⟩
   ·have h4:=(kD (p:=p) (l:=i) (by omega)).1;have := R.frN (i:Int) ((R.mem _).2 ⟨by omega,by omega⟩) (by rw [h4]);rw [tnn] at this;exact this
   ·rw [e3] at hd;have := (jl h3).1 hd;omega
  ·rfl
 ·rw [vO hl,G5 hp R hz hl];have hc:cnt p (fun _=>0) (l:Int) p.length=0:=by
   unfold cnt;have : ((List.range p.length).map fun t=>cwr p t (l:Int) 0)=(List.range p.length).map fun _=>0:=rfl;rw [this];have h0:∀ n:Nat,((List.range n).map fun _=>0).sum=0:=fun n=>by
    induction n with
    | zero=>rfl
    | succ n ih=>rw [List.range_succ,List.map_append,List.sum_append,ih];rfl
   exact h0 _
  rw [hc];obtain ⟨t,e⟩:=I3 R hl;rw [e]
  match l,hl with
  | 0,_=>rfl
  | 1,_=>rfl
  | 2,_=>rfl
theorem J6 (hp:PV p) (R:Cand p x F) {a:Nat->Nat} (hf:Gf p a):px p x a=x:=by
 have all:∀ n:Int,n∈F->dn p a n=true:=fun n hn=>by
  obtain ⟨n0,n1⟩:=(R.mem n).1 hn;rcases fQ n0 n1 with h | ⟨t,k,h,rfl⟩
  ·exact oO n0 h
  ·refine (jl h).2 ?_;rw [hf t h.t];exact h.k
 refine Prod.ext (sM (by rw [lc,R.flen]) fun i hi=>?_) (KD rfl R.olen fun l hl=>?_)
 ·rw [lc] at hi;rw [vN hi,if_pos (all _ ((R.mem _).2 ⟨by omega,by omega⟩))]
 ·have O:=R.ods (l:Int) (by omega);rw [vO hl];have e:dc p x a (l:Int)=(od x (l:Int)).length:=by
   unfold dc;rw [List.filter_eq_self.2 fun n hn=>all n ((O.mem n).1 hn).1]
  rw [e,List.take_length]
  rfl
theorem Ha (hp:PV p) (R:Cand p x F) {a:Nat->Nat} (ha:StA p a) {t:Nat} (ht:t<p.length) (hk:a t<(p.getD t default).length) (hf:vK p t (a t)):px p x (adv a t)=px p x a:=by
 have hB:=mE R ht hk;unfold nxt at hB;rw [if_pos hf] at hB;have hd:∀ n:Int,n∈F->(dn p (adv a t) n=true↔dn p a n=true):=fun n hn=>by rw [hB n hn];simp
 refine Prod.ext (sM (by rw [lc,lc]) fun i hi=>?_) (KD rfl rfl fun l hl=>?_)
 ·rw [lc] at hi;rw [vN hi,vN hi];have := hd (i:Int) ((R.mem _).2 ⟨by omega,by omega⟩)
  by_cases h:dn p a (i:Int)=true
  ·rw [if_pos h,if_pos (this.2 h)]
  ·rw [if_neg h,if_neg (fun e=>h (this.1 e))]
 ·have hw : ¬ wq p t (l:Int) (a t)=true:=fun h=>by
   unfold wq at h;rw [bae] at h;exact KC h.1 hf
  rw [vO hl,vO hl,Ig hp R ha ht hk hl,if_neg hw,Nat.add_zero]
theorem Jb (hp:PV p) (R:Cand p x F) {a:Nat->Nat} (ha:StA p a) {t:Nat} (hc:GR p x a t) (hf : ¬ vK p t (a t)):stX p (px p x a) (base p t (a t):Int)=px p x (adv a t):=by
 have hI:Isn p t (a t):=⟨hc.1,hc.2.1,hf⟩;have hev:=hI.ev.1;have hb:=hI.ev.2;have hcan:I0 p x a (base p t (a t):Int):=hc.2.2 _ (by unfold nxt;rw [if_neg hf]);have hB:=mE R hc.1 hc.2.1;unfold nxt at hB;rw [if_neg hf] at hB;have hn:(base p t (a t):Int)∈F:=FG R hI;have hnd:dn p a (base p t (a t):Int)=false:=by
  cases hd:dn p a (base p t (a t):Int) with
  | false=>rfl
  | true=>have := (jl hI).1 hd;omega
 have hin:=hp.ins t (a t) hc.1 hc.2.1;have x1:0<=(ins p t (a t)).Loc:=hin.1;have x2:(ins p t (a t)).Loc<=2:=hin.2.1;unfold I0 at hcan;rw [hev,tnn] at hcan;simp only at hcan;obtain ⟨d1,d2⟩:=xB hp R a (l:=(ins p t (a t)).Loc) ⟨x1,x2⟩;have hev':(evs p).getD (base p t (a t):Int).toNat default=⟨t,(a t:Nat),(ins p t (a t)).Loc,rdX (ins p t (a t)),wrX (ins p t (a t))⟩:=hev;have hord:(px p x a).2.getD (ins p t (a t)).Loc.toNat []=(od x (ins p t (a t)).Loc).take (dc p x a (ins p t (a t)).Loc):=by
  have := vO (p:=p) (x:=x) (a:=a) (l:=(ins p t (a t)).Loc.toNat) (by omega);rw [Int.toNat_of_nonneg x1] at this;exact this
 have hlen:((od x (ins p t (a t)).Loc).take (dc p x a (ins p t (a t)).Loc)).length=dc p x a (ins p t (a t)).Loc:=by rw [List.length_take];omega
 unfold stX;rw [hev'];simp only [hord,tnn];refine Prod.ext (sM ?_ fun i hi=>?_) (KD (by simp only [List.length_set];rfl) rfl fun l hl=>?_)
 ·simp only []
  split
  ·rw [List.length_set,lc,lc]
  ·rw [lc,lc]
 ·simp only [] at hi ⊢;have hi':i<(evs p).length:=by
   split at hi
   ·rw [List.length_set,lc] at hi;exact hi
   ·rw [lc] at hi;exact hi
  have hBi:=hB (i:Int) ((R.mem _).2 ⟨by omega,by omega⟩);rw [vN hi']
  by_cases e:i=base p t (a t)
  ·subst e;rw [if_pos (hBi.2 (.inr rfl))]
   split
   ·rename_i hr;rw [bQ (by rw [lc];exact hb),if_pos rfl,hlen,hcan.1 hr,gdq,List.getElem?_take,if_pos (by omega),<- gdq]
    congr 1
    omega
   ·rename_i hr;rw [vN hi',hnd];have := R.frN _ hn (by rw [hev];exact Bool.eq_false_iff.2 hr);rw [tnn] at this;rw [this]
    rfl
  ·have hiff:dn p (adv a t) (i:Int)=true↔dn p a (i:Int)=true:=by
    rw [hBi];refine ⟨fun h=>?_,.inl⟩;rcases h with h | h
    ·exact h
    ·injection h with h;exact absurd (by omega) e
   have key:(px p x a).1.getD i default=if dn p (adv a t) (i:Int)=true then x.1.getD i default else -1:=by
    rw [vN hi']
    by_cases h:dn p a (i:Int)=true
    ·rw [if_pos h,if_pos (hiff.2 h)]
    ·rw [if_neg h,if_neg fun e=>h (hiff.1 e)]
   split
   ·rw [bQ (by rw [lc];exact hb),if_neg e,key]
   ·exact key
 ·simp only [];rw [qZ (by show _<3;omega),vO hl,vO hl,Ig hp R ha hc.1 hc.2.1 hl]
  by_cases e:l=(ins p t (a t)).Loc.toNat
  ·have el:(l:Int)=(ins p t (a t)).Loc:=by omega
   rw [if_pos e,el];have hwq:wq p t (ins p t (a t)).Loc (a t)=wrX (ins p t (a t)):=by unfold wq;simp
   rw [hwq]
   split
   ·rename_i hw;rw [<- hcan.2 hw];have hlt:dc p x a (ins p t (a t)).Loc<(od x (ins p t (a t)).Loc).length:=by
     have O:=R.ods (ins p t (a t)).Loc ⟨x1,x2⟩;have hm:(base p t (a t):Int)∈od x (ins p t (a t)).Loc:=(O.mem _).2 ⟨hn,by rw [hev];exact hw,by rw [hev]⟩;exact List.length_filter_lt_length_iff_exists.2 ⟨_,hm,by rw [hnd];decide⟩
    rw [gdq,geq hlt];exact List.take_append_getElem hlt
   ·rw [Nat.add_zero]
  ·rw [if_neg e];have hwq : ¬ wq p t (l:Int) (a t)=true:=by
    unfold wq;rw [bae,decide_eq_true_eq];intro h;exact e (by omega)
   rw [if_neg hwq,Nat.add_zero]
theorem Cv (s r:LI):∀ m,m<=s.length->iI p (s++r) m=iI p s m
 | 0,_=>rfl
 | m+1,hm=>by
  have e1:(s++r).getD m default=s.getD m default:=by rw [gdq,gal (by omega),<- gdq]
  have e2:(s++r).take m=s.take m:=List.take_append_of_le_length (by omega);rw [iI,iI,Cv s r m (by omega)];unfold LO LP;rw [e1,e2]
inductive Ch (p:List (List LD)) (x:XS):(Nat->Nat)->List Int->Prop
 | nil {a:Nat->Nat} (h:Gf p a):Ch p x a []
 | cons {a:Nat->Nat} {t:Nat} {r:LI} (h:GR p x a t) (k:Ch p x (adv a t) r):Ch p x a ((t:Int)::r)
theorem KT (hp:PV p) (R:Cand p x F) {a:Nat->Nat} {r:LI} (h:Gr p x F a r):Closed p x F a->Ch p x a r:=by
 induction h with
 | nil h=>exact fun _ => .nil h
 | cons h _ _ ih=>exact fun hC => .cons (xH hp R hC h) (ih (pK R hC h))
theorem Hd (hp:PV p) (R:Cand p x F) {a:Nat->Nat} {r:LI} (h:Ch p x a r):StA p a->∀ pre:LI,(∀ t:Nat,t<p.length->pre.count (t:Int)=a t)->Good p pre pre.length->rf p (iI p pre pre.length)=px p x a ->
  Good p (pre++r) (pre++r).length/\(∀ t:Nat,t<p.length->(pre++r).count (t:Int)=(p.getD t default).length)/\rf p (iI p (pre++r) (pre++r).length)=x:=by
 induction h with
 | nil h=>
  intro _ pre h1 h2 h3;rw [List.append_nil];exact ⟨h2,fun t ht=>by rw [h1 t ht,h t ht],by rw [h3,J6 hp R h]⟩
 | @cons a t r h _ ih=>
  intro ha pre h1 h2 h3;have ht:=h.1;have hk:=h.2.1;have e0:(pre++[(t:Int)]).getD pre.length default=(t:Int):=by rw [gdq,gar (Nat.le_refl _)];simp
  have e1:(pre++[(t:Int)]).take pre.length=pre:=by simp
  have hT:LO (pre++[(t:Int)]) pre.length=t:=by unfold LO;rw [e0];omega
  have hK:LP (pre++[(t:Int)]) pre.length=a t:=by unfold LP;rw [e0,e1,h1 t ht]
  have := ih (ha.adv hk) (pre++[(t:Int)]) (fun u hu=>?_) (fun j hj=>?_) ?_
  ·rw [List.append_assoc] at this;exact this
  ·rw [List.count_append,h1 u hu,List.count_singleton];unfold adv
   by_cases e:u=t
   ·subst e;simp
   ·rw [if_neg e,if_neg (by simp;omega),Nat.add_zero]
  ·rw [lla,List.length_singleton] at hj;rcases Nat.lt_or_ge j pre.length with hj' | hj'
   ·have := h2 j hj';rw [gdq,gal hj',<- gdq,List.take_append_of_le_length (by omega)];exact this
   ·have : j=pre.length:=by omega
    subst this;rw [e0,e1,h1 t ht,tnn];exact ⟨by omega,hk⟩
  ·rw [lla,List.length_singleton,iI,Cv pre [(t:Int)] _ (Nat.le_refl _),hT,hK];unfold sK
   split
   ·rename_i hf;rw [List.append_nil,h3,Ha hp R ha ht hk hf]
   ·rename_i hf;rw [vI,h3,Jb hp R ha h hf]
theorem Gr.congr {F':LI} (hF:∀ n:Int,n∈F↔n∈F') {a:Nat->Nat} {r:LI} (h:Gr p x F a r):Gr p x F' a r:=by
 have key:∀ {a:Nat->Nat} {t:Nat},eB p x F a t↔eB p x F' a t:=fun {a t}=>by
  unfold eB qc;refine ⟨fun h=>⟨h.1,h.2.1,fun n hn i hi hb=>h.2.2 n hn i ((hF i).2 hi) hb⟩,fun h=>⟨h.1,h.2.1,fun n hn i hi hb=>h.2.2 n hn i ((hF i).1 hi) hb⟩⟩
 induction h with
 | nil h=>exact .nil h
 | cons h hl _ ih=>exact .cons (key.1 h) (fun u hu hr=>hl u hu (key.2 hr)) ih
end
section
variable {p:List (List LD)} {x:XS} {F:LI}
structure TrC (p:List (List LD)) (x:XS) (nm:List (List Int)) (s:ZTr):Prop where
 tp:s.p=p
 tx:s.x=⟨x.1,x.2⟩
 tn:s.number=nm
def J7 (p:List (List LD)) (x:XS) (nm:LL) (a:Nat->Nat) (sch:LI) (v:ZTr×Bool):Prop:=
 (v.2=false/\TrC p x nm v.1/\v.1.schedule=sch)\/(v.2=true/\∃ r,Ch p x a r/\v.1.schedule=sch++r)
theorem zS (hp:PV p) (R:Cand p x F) {nm:LL} (hnm:Nums p nm):∀ (m:Nat) (s:ZTr) (pc:Z3i),TrC p x nm s->NNp pc->StA p (aP pc)->s.schedule.length+mu p (aP pc)<=21->mu p (aP pc)<m ->
  LN (ax m s pc) (J7 p x nm (aP pc) s.schedule)
 | 0,_,_,_,_,_,_,h=>by omega
 | m+1,s,pc,hT,hN,hS,hb,hm=>by
  have hl:=hp.vs.1;obtain ⟨sp,⟨sf,so⟩,sn,sch,fl⟩:=s;obtain ⟨t1,t2,t3⟩:=hT;simp only at t1 t2 t3 hb;replace t1:=t1.symm;replace t3:=t3.symm;subst t1 t3;injection t2 with t5 t6;subst t5 t6;show LN (aU (ax m) _ pc) _;unfold aU;simp only [];refine .bif (fun hk => .pure (.inl ⟨rfl,⟨rfl,rfl,rfl⟩,rfl⟩)) fun _=>?_;refine (FD hp hN _ rfl).bind fun b hfb => .bif (fun hb1 => .pure (.inr ⟨rfl,[],.nil (hfb.1 hb1),by simp⟩)) fun hb1=>?_;refine LN.sum (PS:=fun w=>w.1=p/\w.2.1=x.1/\w.2.2.1=x.2/\w.2.2.2.1=nm/\w.2.2.2.2.1=sch) (PW:=J7 p x nm (aP pc) sch) ?_ fun w ⟨w2,w3,w4,w5,w6⟩ => .pure (.inl ⟨rfl,⟨w2,by simp only [];rw [w3,w4],w5⟩,w6⟩);refine LN.loop (fun z=>∃ n:Nat,n<=p.length/\z.1=p/\z.2.1=x.1/\z.2.2.1=x.2/\z.2.2.2.1=nm/\z.2.2.2.2.1=sch/\z.2.2.2.2.2.2=(n:Int)) (fun z=>((p.length:Int)-z.2.2.2.2.2.2).toNat) ⟨0,by omega,rfl,rfl,rfl,rfl,rfl,rfl⟩ fun z ⟨n,n1,z1,z2,z3,z4,z5,z7⟩ => ?_;obtain ⟨a1,a2,a3,a4,a5,a6,a7⟩:=z;simp only at z1 z2 z3 z4 z5 z7;replace z1:=z1.symm;replace z4:=z4.symm;replace z5:=z5.symm;subst z1 z2 z3 z4 z5 z7;unfold bO;simp only [tnn];refine .bifD (fun hk=>?_) fun hk => .pure ⟨rfl,rfl,rfl,rfl,rfl⟩;have hn:n<p.length:=by omega
  refine LN.sum (PS:=fun w=>w.1=p/\w.2.1=x.1/\w.2.2.1=x.2/\w.2.2.2.1=nm/\w.2.2.2.2.1=sch) ?_ fun w ⟨w1,w2,w3,w4,w5⟩ => .gdI (by omega) (.pure ⟨⟨n+1,by omega,w1,w2,w3,w4,w5,rfl⟩,by simp only [];omega⟩);refine (FA hp R hnm hN hS hn).bind fun v23 h23 => .bif (fun hc => .pure ⟨rfl,rfl,rfl,rfl,rfl⟩) fun hc=>?_;have hcan:GR p x (aP pc) n:=h23.1 (by simpa using hc);have hg:=xG hN (t:=n) (by omega);obtain ⟨g1,g2⟩:=Ie hN (t:=n) (by omega);have hS':=hS.adv hcan.2.1;have hmu:=zN hcan.1 hcan.2.1;have hrow:=hp.vs.2 n;have hlt:=hcan.2.1;refine .gdD ⟨by omega,by omega⟩ (.gdI (by rw [hg];omega) (.gd (au (by omega) rfl) ?_));refine (zS hp R hnm m ⟨p,⟨x.1,x.2⟩,nm,sch++[(n:Int)],a6⟩ _ ⟨rfl,rfl,rfl⟩ g2 (by rw [g1];exact hS') (by rw [g1];simp only [lla,List.length_singleton];omega) (by rw [g1];omega)).bind fun v hv=>?_;rw [g1] at hv;rcases hv with ⟨e1,⟨e2,e3,e4⟩,e6⟩ | ⟨e1,r,e2,e3⟩
  ·refine .bif (fun e=>by rw [e1] at e;cases e) fun _=>?_;have hlen:v.1.schedule.length=sch.length+1:=by rw [e6];simp
   refine .gdI (by omega) (.gdD ⟨by omega,by omega,by omega⟩ (.pure ⟨e2,by rw [e3],by rw [e3],e4,?_⟩));simp only [];rw [hlen,e6,show ((((sch.length+1:Nat):Int)-1).toNat-(0:Int).toNat)=sch.length by omega];simp
  ·refine .bif (fun _ => .pure (.inr ⟨rfl,(n:Int)::r,.cons hcan e2,?_⟩)) fun e=>by rw [e1] at e;cases e
   simp only [];rw [e3,List.append_assoc]
   rfl
theorem zT (hp:PV p) (R:Cand p x F):LN (bg p ⟨x.1,x.2⟩) fun v=>(v.2=true->Ch p x (fun _=>0) v.1)/\(v.2=false->v.1=[]):=by
 unfold bg;refine (vH hp).bind fun v1 ⟨n1,n2⟩ => ?_;have hz:aP ⟨0,0,0⟩=fun _=>0:=by
  funext t
  unfold aP
  split
  ·rename_i h
   match t,h with
   | 0,_=>rfl
   | 1,_=>rfl
   | 2,_=>rfl
  ·rfl
 have hN:NNp ⟨0,0,0⟩:=⟨Int.le_refl 0,Int.le_refl 0,Int.le_refl 0⟩;have hmu:=GY hp (fun _=>0);obtain ⟨v,e,hv⟩:=zS hp R ⟨n1,n2⟩ 22 ⟨p,⟨x.1,x.2⟩,v1,[],[]⟩ ⟨0,0,0⟩ ⟨rfl,rfl,rfl⟩ hN (by rw [hz];exact fun t _=>Nat.zero_le _) (by rw [hz];simpa using hmu) (by rw [hz];omega);rw [hz] at hv;have hfx:fP ⟨p,⟨x.1,x.2⟩,v1,[],[]⟩ ⟨0,0,0⟩=some v:=yn 22 fun n hn=>FC _ _ hn v e;refine (LN.of (P:=(· = v)) hfx rfl).bind fun w hw=>?_;subst hw;rcases hv with ⟨e1,_,_⟩ | ⟨e1,r,e2,e3⟩
 ·exact .bif (fun _ => .pure ⟨fun e=>(by cases e),fun _=>rfl⟩) fun e=>by rw [e1] at e;cases e
 ·refine .bif (fun e=>by rw [e1] at e;cases e) fun _ => .pure ⟨fun _=>?_,fun e=>(by cases e)⟩;simp only [];rw [e3];exact e2
theorem Cw (hp:PV p) (hv:bq (p.map fun r=>r.map iV)=true) (R:Cand p x F) {l:LI} (h:Ch p x (fun _=>0) l):Whole p l/\rf p (iI p l l.length)=x:=by
 obtain ⟨h1,h2,h3⟩:=Hd hp R h (fun t _=>Nat.zero_le _) [] (fun t _=>rfl) (fun j hj=>by simp at hj) (by rw [Ja hp R];rfl);rw [List.nil_append] at h1 h2 h3;exact ⟨⟨hv,h1,h2⟩,h3⟩
theorem J8 {a:Nat->Nat} {r:LI} (h:Gr p x F a r):r.length<=mu p a:=by
 induction h with
 | nil _=>exact Nat.zero_le _
 | cons h _ _ ih=>
  have := zN h.1 h.2.1;rw [List.length_cons];omega
theorem Dn (hp:PV p) (hv:bq (p.map fun r=>r.map iV)=true) (R:Cand p x F):∃ l b,bg p ⟨x.1,x.2⟩=some (l,b)/\dM p (lC p (bef p x) (evs p).length)=some (l,b)/\l.length<=21/\(b=false->l=[]) /\
  (b=true->Whole p l/\rf p (iI p l l.length)=x/\Gr p x F (fun _=>0) l)/\(∀ s,Whole p s->rf p (iI p s s.length)=x->b=true):=by
 obtain ⟨w,e,w1,w2⟩:=zT hp R;obtain ⟨v,e',v1,v2⟩:=zO hp R;obtain ⟨l,b⟩:=w;obtain ⟨l',b'⟩:=v;simp only at w1 w2 v1 v2;have key:∀ s,Whole p s->rf p (iI p s s.length)=x->b=true/\b'=true/\l=l':=fun s hw hx=>by
  have R':=rq hp hw;rw [hx] at R';obtain ⟨u,e1,u1,u2⟩:=Bj hp R';obtain ⟨u',e1',u1',u2'⟩:=G3 hp R';rw [e] at e1;rw [e'] at e1';obtain rfl:=osl e1;obtain rfl:=osl e1';exact ⟨u1,u1',u2.uniq u2'⟩
 cases b' with
 | true=>
  have hG:=v1 rfl;obtain ⟨h1,h2⟩:=Cw hp hv R (KT hp R hG (nB hp R));obtain ⟨k1,_,k3⟩:=key _ h1 h2;subst k1 k3;exact ⟨l,true,e,e',Nat.le_trans (J8 hG) (GY hp _),fun h=>(by cases h),fun _=>⟨h1,h2,hG⟩,fun _ _ _=>rfl⟩
 | false=>
  obtain ⟨g1,_⟩:=v2 rfl
  cases b with
  | true=>
   obtain ⟨h1,h2⟩:=Cw hp hv R (w1 rfl);have := (key _ h1 h2).2.1
   cases this
  | false=>
   have := w2 rfl;subst this g1;exact ⟨[],false,e,e',by simp,fun _=>rfl,fun h=>(by cases h),fun s hw hx=>(key s hw hx).1⟩
end
section
variable {α β:Type}
theorem da {step:List α×Int->Option ((List α×Int) ⊕ List α)} (n:Nat) (a:List α) (h:Nat->List α) (hs:∀ k,k<n->LN (step (a++(List.range k).flatMap h,(k:Int))) (· = .inl (a++(List.range (k+1)).flatMap h,((k+1:Nat):Int))))
  (he:LN (step (a++(List.range n).flatMap h,(n:Int))) (· = .inr (a++(List.range n).flatMap h))):LN (loopO step (a,(0:Int))) (· = a++(List.range n).flatMap h):=by
 refine LN.loop (fun s=>∃ k:Nat,k<=n/\s=(a++(List.range k).flatMap h,(k:Int))) (fun s=>((n:Int)-s.2).toNat) ⟨0,Nat.zero_le _,by simp⟩ fun s ⟨k,hk,e⟩ => ?_;subst e
 by_cases hlt:k<n
 ·refine (hs k hlt).mono fun v hv=>?_;subst hv;exact ⟨⟨k+1,hlt,rfl⟩,by simp only [];omega⟩
 ·obtain rfl:k=n:=by omega
  exact he.mono fun v hv=>by subst hv;rfl
theorem aZ (h:Nat->List α) (k:Nat):(List.range (k+1)).flatMap h=(List.range k).flatMap h++h k:=by
 rw [List.range_succ,List.flatMap_append];simp
theorem mH (h:Nat->List α) {k n:Nat} (hk:k<=n):((List.range k).flatMap h).length<=((List.range n).flatMap h).length:=by
 induction hk with
 | refl=>exact Nat.le_refl _
 | step _ ih=>rw [aZ,lla];omega
theorem sN {l:List α} {f g:α->List β} (h:∀ a∈l,f a=g a):l.flatMap f=l.flatMap g:=by
 induction l with
 | nil=>rfl
 | cons a l ih=>
  rw [List.flatMap_cons,List.flatMap_cons,h a List.mem_cons_self,ih fun b hb=>h b (List.mem_cons_of_mem _ hb)]
theorem bv [Inhabited α] (l:List α) (f:α->List β):(List.range l.length).flatMap (fun k=>f (l.getD k default))=l.flatMap f:=by
 induction l using uE with
 | h0=>rfl
 | hs l a ih=>
  have e:(l++[a]).getD l.length default=a:=by rw [gdq,gar (Nat.le_refl _)];simp
  rw [lla,List.length_singleton,aZ,e,List.flatMap_append,<- ih]
  congr 1
  ·refine sN fun k hk=>?_;rw [gdq,gal (List.mem_range.1 hk),<- gdq]
  ·simp
theorem jS (l:List α) (f:α->β):l.flatMap (fun a=>[f a])=l.map f:=by
 induction l with
 | nil=>rfl
 | cons a l ih=>rw [List.flatMap_cons,ih];rfl
theorem cu {l:List α} {f:α->List β} {m:Nat} (h:∀ a∈l,(f a).length=m):(l.flatMap f).length=l.length*m:=by
 induction l with
 | nil=>simp
 | cons a l ih=>
  rw [List.flatMap_cons,lla,h a List.mem_cons_self,ih fun b hb=>h b (List.mem_cons_of_mem _ hb),List.length_cons,Nat.add_mul];omega
def lg:List (List α)->List (List α)
 | []=>[[]]
 | c::cs=>c.flatMap fun y=>(lg cs).map (y :: ·)
theorem rz (cs:List (List α)) (c:List α):lg (cs++[c])=(lg cs).flatMap fun x=>c.map fun y=>x++[y]:=by
 induction cs with
 | nil=>
  show c.flatMap (fun y=>[[y]])=[[]].flatMap fun x=>c.map fun y=>x++[y];rw [jS];simp
 | cons d ds ih=>
  show d.flatMap (fun z=>(lg (ds++[c])).map (z :: ·))=(d.flatMap fun z=>(lg ds).map (z :: ·)).flatMap fun x=>c.map fun y=>x++[y];rw [ih,List.flatMap_assoc];refine sN fun z _=>?_;rw [List.map_flatMap,List.flatMap_map];refine sN fun x _=>?_;rw [List.map_map]
  rfl
theorem iA:∀ {cs:List (List α)} {x:List α},x∈lg cs↔x.length=cs.length/\∀ (i:Nat) (h:i<cs.length),∃ y∈cs[i],x[i]? = some y
 | [],x=>by
  show x∈[[]]↔_;rw [List.mem_singleton]
  constructor
  ·rintro rfl;exact ⟨rfl,fun i h=>by simp at h⟩
  ·rintro ⟨h,_⟩;exact List.eq_nil_of_length_eq_zero h
 | c::cs,x=>by
  show x∈c.flatMap (fun y=>(lg cs).map (y :: ·))↔_;simp only [List.mem_flatMap,List.mem_map]
  constructor
  ·rintro ⟨y,hy,z,hz,rfl⟩;obtain ⟨h1,h2⟩:=iA.1 hz;refine ⟨by simp [h1],fun i hi=>?_⟩
   match i with
   | 0=>exact ⟨y,hy,rfl⟩
   | i+1=>exact h2 i (by simpa using hi)
  ·rintro ⟨h1,h2⟩
   match x,h1 with
   | y::z,h1=>
    obtain ⟨y',hy',e⟩:=h2 0 (by simp);obtain rfl:y=y':=by simpa using e
    exact ⟨y,hy',z,iA.2 ⟨by simpa using h1,fun i hi=>h2 (i+1) (by simpa using hi)⟩,rfl⟩
def kg (l:List Nat):Nat:=l.foldr (· * ·) 1
theorem nC:∀ cs:List (List α),(lg cs).length=kg (cs.map List.length)
 | []=>rfl
 | c::cs=>by
  show (c.flatMap fun y=>(lg cs).map (y :: ·)).length=c.length*kg (cs.map List.length);rw [<- nC cs];exact cu fun y _=>List.length_map _
theorem tT (l k:List Nat):kg (l++k)=kg l*kg k:=by
 induction l with
 | nil=>show kg k=1*_;rw [Nat.one_mul]
 | cons a l ih=>
  show a*kg (l++k)=a*kg l*kg k;rw [ih,Nat.mul_assoc]
theorem xI {l k:List Nat} (hl:l.length=k.length) (h:∀ i:Nat,i<l.length->l.getD i 0<=k.getD i 0):kg l<=kg k:=by
 induction l generalizing k with
 | nil=>
  obtain rfl:=List.eq_nil_of_length_eq_zero hl.symm;exact Nat.le_refl _
 | cons a l ih=>
  match k,hl with
  | b::k,hl=>
   refine Nat.mul_le_mul ?_ (ih (by simpa using hl) fun i hi=>?_)
   ·have := h 0 (by simp);simpa using this
   ·have := h (i+1) (by simpa using hi);simpa using this
theorem rA {l:List Nat} (h:∀ a∈l,1<=a):1<=kg l:=by
 induction l with
 | nil=>exact Nat.le_refl _
 | cons a l ih=>exact Nat.mul_pos (h a List.mem_cons_self) (ih fun b hb=>h b (List.mem_cons_of_mem _ hb))
theorem xJ {l:List Nat} (h:∀ a∈l,1<=a) (k:Nat):kg (l.take k)<=kg l:=by
 have e:=tT (l.take k) (l.drop k);rw [List.take_append_drop] at e;have := rA (l:=l.drop k) fun a ha=>h a (List.mem_of_mem_drop ha);rw [e];exact Nat.le_mul_of_pos_right _ this
theorem xK {l:List Nat} (h:∀ a∈l,1<=a) (k:Nat):kg (l.drop k)<=kg l:=by
 have e:=tT (l.take k) (l.drop k);rw [List.take_append_drop] at e;have := rA (l:=l.take k) fun a ha=>h a (List.mem_of_mem_take ha);rw [e];exact Nat.le_mul_of_pos_left _ this
end
theorem eC {α:Type} [Inhabited α] {l:List α} {k:Nat} (h:k<l.length):l.take (k+1)=l.take k++[l.getD k default]:=by
 rw [<- List.take_append_getElem h,gdq,geq h]
 rfl
theorem Jc {n m:Nat} (hn:n<=1000000000) (hm:Nat.ble m 1000=true):aS n m=true:=by
 have h1:=nlb hm;have h2:n*m<=1000000000*1000:=Nat.mul_le_mul hn h1;exact decide_eq_true ⟨by omega,by omega⟩
theorem rB {s:LI} (h:s.length<=4000000):LN (aT s) (· = s):=by
 unfold aT nilK;have hc:gd (aS (([]:LI).length+s.length) 8) (some (([]:LI)++s))=some s:=iS (au (by simpa using h) rfl);rw [hc]
 cases s with
 | nil=>exact .of (by simp) rfl
 | cons a s=>exact .pure rfl
theorem pR (chs:LL) (hn:chs.length<=100) (hb:∀ k,k<=chs.length->(lg (chs.take k)).length<=100000):LN (fL chs) (· = lg chs):=by
 unfold fL;refine LN.bind (P:=(· = lg chs)) ?_ fun v hv => .pure hv;refine LN.loop (fun s=>∃ k:Nat,k<=chs.length/\s=((k:Int),lg (chs.take k))) (fun s=>((chs.length:Int)-s.1).toNat) ⟨0,Nat.zero_le _,rfl⟩ fun s ⟨k,hk,e⟩ => ?_;subst e;unfold j5;simp only [];refine .bifD (fun hlt=>?_) fun hge => .pure (by rw [show k=chs.length by omega,List.take_length]);have hlt:k<chs.length:=by omega
 have hb1:=hb (k+1) (by omega);have hb0:=hb k (by omega);rw [eC hlt,rz] at hb1;refine LN.bind (P:=(· = lg (chs.take (k+1)))) (.gdD ⟨by omega,by omega⟩ (LN.bind (P:=(· = lg (chs.take (k+1)))) ?_ fun v hv => .pure hv)) fun v hv => .gdI (by omega) (.pure ⟨⟨k+1,by omega,by rw [hv];rfl⟩,by simp only [];omega⟩);rw [eC hlt,rz];generalize hall:lg (chs.take k)=all at *;have hrow:∀ j,(all.getD j default).length<=100:=fun j=>by
  by_cases hj:j<all.length
  ·have hm:all.getD j default∈all:=by rw [gdq,geq hj];exact List.getElem_mem _
   rw [<- hall] at hm;have := (iA.1 hm).1;rw [<- hall,this,List.length_take];omega
  ·rw [gdq,List.getElem?_eq_none (by omega)];exact Nat.zero_le _
 have hch:((chs.getD k default)).length<=100000\/all=[]:=by
  cases all with
  | nil=>exact .inr rfl
  | cons a l=>
   left
   rw [List.flatMap_cons,lla,List.length_map] at hb1;omega
 have hch':0<all.length->(chs.getD k default).length<=100000:=fun h0=>by
  rcases hch with h | h
  ·exact h
  ·rw [h] at h0;cases h0
 have hFl:=hb1;rw [<- bv all] at hFl;refine (da all.length [] (fun j=>(chs.getD k default).map fun y=>all.getD j default++[y]) (fun j hj=>?_) ?_).mono fun v hv=>?_
 ·unfold cZ;simp only [List.nil_append,tnn];refine .bifD (fun _=>?_) fun h=>absurd (show (j:Int)<(all.length:Int) by omega) h;refine LN.bind (P:=(· = (List.range (j+1)).flatMap fun j=>(chs.getD k default).map fun y=>all.getD j default++[y])) (.gdD ⟨by omega,by omega⟩ ?_) fun v hv => .gdI (by omega) (.pure (by rw [hv];rfl));have hc:=hch' (by omega);have hF1:=Nat.le_trans (mH (fun j=>(chs.getD k default).map fun y=>all.getD j default++[y]) (show j<=all.length by omega)) hFl;refine (da (chs.getD k default).length _ (fun i=>[all.getD j default++[(chs.getD k default).getD i default]]) (fun i hi=>?_) ?_).mono fun v hv=>?_
  ·unfold cW;simp only [tnn];have hil:((List.range i).flatMap fun i=>[all.getD j default++[(chs.getD k default).getD i default]]).length=i*1:=by rw [cu (m:=1) fun _ _=>rfl,List.length_range]
   refine .bifD (fun _=>?_) fun h=>absurd (show (i:Int)<((chs.getD k default).length:Int) by omega) h;refine .gdD ⟨by omega,by omega⟩ ((rB (by have := hrow j;omega)).bind fun v35 h35=>?_);subst h35;refine .gd (au (by have := hrow j;omega) rfl) (.gd (au (by simp only [lla];omega) rfl) (.gdI (by omega) (.pure ?_)));simp only [aZ,List.append_assoc]
   rfl
  ·unfold cW;exact .bifD (fun h=>absurd h (by simp only [tnn];omega)) fun _ => .pure rfl
  ·rw [hv,aZ,bv (chs.getD k default) fun y=>[all.getD j default++[y]],jS]
 ·unfold cZ;exact .bifD (fun h=>absurd h (by simp only [];omega)) fun _ => .pure rfl
 ·rw [hv,List.nil_append];exact bv all fun x=>(chs.getD k default).map fun y=>x++[y]
theorem Dq {s:LL} (h:s.length<=4000000):LN (iY s) (· = s):=by
 unfold iY nilK;have hc:gd (aS (([]:LL).length+s.length) 24) (some (([]:LL)++s))=some s:=iS (au (by simpa using h) rfl);rw [hc]
 cases s with
 | nil=>exact .of (by simp) rfl
 | cons a s=>exact .pure rfl
theorem sO (chs:List (LL)) (hn:chs.length<=100) (hb:∀ k,k<=chs.length->(lg (chs.take k)).length<=100000):LN (fU chs) (· = lg chs):=by
 unfold fU;refine LN.bind (P:=(· = lg chs)) ?_ fun v hv => .pure hv;refine LN.loop (fun s=>∃ k:Nat,k<=chs.length/\s=((k:Int),lg (chs.take k))) (fun s=>((chs.length:Int)-s.1).toNat) ⟨0,Nat.zero_le _,rfl⟩ fun s ⟨k,hk,e⟩ => ?_;subst e;unfold lH;simp only [];refine .bifD (fun hlt=>?_) fun hge => .pure (by rw [show k=chs.length by omega,List.take_length]);have hlt:k<chs.length:=by omega
 have hb1:=hb (k+1) (by omega);have hb0:=hb k (by omega);rw [eC hlt,rz] at hb1;refine LN.bind (P:=(· = lg (chs.take (k+1)))) (.gdD ⟨by omega,by omega⟩ (LN.bind (P:=(· = lg (chs.take (k+1)))) ?_ fun v hv => .pure hv)) fun v hv => .gdI (by omega) (.pure ⟨⟨k+1,by omega,by rw [hv];rfl⟩,by simp only [];omega⟩);rw [eC hlt,rz];generalize hall:lg (chs.take k)=all at *;have hrow:∀ j,(all.getD j default).length<=100:=fun j=>by
  by_cases hj:j<all.length
  ·have hm:all.getD j default∈all:=by rw [gdq,geq hj];exact List.getElem_mem _
   rw [<- hall] at hm;have := (iA.1 hm).1;rw [<- hall,this,List.length_take];omega
  ·rw [gdq,List.getElem?_eq_none (by omega)];exact Nat.zero_le _
 have hch:((chs.getD k default)).length<=100000\/all=[]:=by
  cases all with
  | nil=>exact .inr rfl
  | cons a l=>
   left
   rw [List.flatMap_cons,lla,List.length_map] at hb1;omega
 have hch':0<all.length->(chs.getD k default).length<=100000:=fun h0=>by
  rcases hch with h | h
  ·exact h
  ·rw [h] at h0;cases h0
 have hFl:=hb1;rw [<- bv all] at hFl;refine (da all.length [] (fun j=>(chs.getD k default).map fun y=>all.getD j default++[y]) (fun j hj=>?_) ?_).mono fun v hv=>?_
 ·unfold eY;simp only [List.nil_append,tnn];refine .bifD (fun _=>?_) fun h=>absurd (show (j:Int)<(all.length:Int) by omega) h;refine LN.bind (P:=(· = (List.range (j+1)).flatMap fun j=>(chs.getD k default).map fun y=>all.getD j default++[y])) (.gdD ⟨by omega,by omega⟩ ?_) fun v hv => .gdI (by omega) (.pure (by rw [hv];rfl));have hc:=hch' (by omega);have hF1:=Nat.le_trans (mH (fun j=>(chs.getD k default).map fun y=>all.getD j default++[y]) (show j<=all.length by omega)) hFl;refine (da (chs.getD k default).length _ (fun i=>[all.getD j default++[(chs.getD k default).getD i default]]) (fun i hi=>?_) ?_).mono fun v hv=>?_
  ·unfold eX;simp only [tnn];have hil:((List.range i).flatMap fun i=>[all.getD j default++[(chs.getD k default).getD i default]]).length=i*1:=by rw [cu (m:=1) fun _ _=>rfl,List.length_range]
   refine .bifD (fun _=>?_) fun h=>absurd (show (i:Int)<((chs.getD k default).length:Int) by omega) h;refine .gdD ⟨by omega,by omega⟩ ((Dq (by have := hrow j;omega)).bind fun v35 h35=>?_);subst h35;refine .gd (au (by have := hrow j;omega) rfl) (.gd (au (by simp only [lla];omega) rfl) (.gdI (by omega) (.pure ?_)));simp only [aZ,List.append_assoc]
   rfl
  ·unfold eX;exact .bifD (fun h=>absurd h (by simp only [tnn];omega)) fun _ => .pure rfl
  ·rw [hv,aZ,bv (chs.getD k default) fun y=>[all.getD j default++[y]],jS]
 ·unfold eY;exact .bifD (fun h=>absurd h (by simp only [];omega)) fun _ => .pure rfl
 ·rw [hv,List.nil_append];exact bv all fun x=>(chs.getD k default).map fun y=>x++[y]
def prm:Nat->LI->LL
 | 0,_=>[[]]
 | n+1,l=>(List.range l.length).flatMap fun i=>(prm n (l.take i++l.drop (i+1))).map (l.getD i default :: ·)
theorem yN:∀ (n:Nat) (l:LI),l.length=n->(prm n l).length=LK n
 | 0,_,_=>rfl
 | n+1,l,h=>by
  show ((List.range l.length).flatMap fun i=>(prm n (l.take i++l.drop (i+1))).map (l.getD i default :: ·)).length=LK n*(n+1);rw [cu (m:=LK n) fun i hi=>?_,List.length_range,h,Nat.mul_comm];have := List.mem_range.1 hi;rw [List.length_map,yN n _ (by rw [lla,List.length_take,List.length_drop];omega)]
theorem Cy {l:LI} {i:Nat} (h:i<l.length):(l.getD i default::(l.take i++l.drop (i+1))).Perm l:=by
 have e:l=l.take i++(l.getD i default::l.drop (i+1)):=by
  rw [gdq,geq h];simp
 exact (List.perm_middle.symm).trans (List.Perm.of_eq e.symm)
theorem oP:∀ {n:Nat} {l:LI},l.length=n->∀ {o:LI},o∈prm n l↔o.Perm l
 | 0,l,h,o=>by
  obtain rfl:=List.eq_nil_of_length_eq_zero h;show o∈[[]]↔_;rw [List.mem_singleton,List.perm_nil]
 | n+1,l,h,o=>by
  show o∈(List.range l.length).flatMap (fun i=>(prm n (l.take i++l.drop (i+1))).map (l.getD i default :: ·))↔_;simp only [List.mem_flatMap,List.mem_map,List.mem_range]
  constructor
  ·rintro ⟨i,hi,r,hr,rfl⟩;have := (oP (by rw [lla,List.length_take,List.length_drop];omega)).1 hr;exact (this.cons _).trans (Cy hi)
  ·intro hp
   match o,hp.length_eq with
   | [],e=>rw [h] at e;cases e
   | a::r,e=>
    have ha:a∈l:=hp.mem_iff.1 List.mem_cons_self;have hi:=List.idxOf_lt_length_of_mem ha;have hg:l.getD (l.idxOf a) default=a:=by
     rw [gdq,geq hi];exact List.getElem_idxOf hi
    refine ⟨l.idxOf a,hi,r,(oP (by rw [lla,List.length_take,List.length_drop];omega)).2 ?_,by rw [hg]⟩;have h2:=Cy hi;rw [hg] at h2;exact (hp.trans h2.symm).cons_inv
theorem Cz {a b:Nat} (h:a<=b):LK a<=LK b:=by
 induction h with
 | refl=>exact Nat.le_refl _
 | step _ ih=>exact Nat.le_trans ih (Nat.le_mul_of_pos_right _ (by omega))
theorem xL {n:Nat} {l:LI} (hl:l.length=n+1) (hn:n+1<=12) {acc:Nat} (hacc:acc<l.length) {step:LL×Int->Option ((LL×Int) ⊕ LL)} {r:LL} (hr:r=prm n (l.take acc++l.drop (acc+1)))
  (hs:∀ s,step s=bif decide (s.2<(r.length:Int)) then
   gd (decide (0<=s.2/\s.2<(r.length:Int))) <|
   gd (aS (([l.getD acc default]:LI).length+(r.getD s.2.toNat default).length) 8) <|
   gd (aS (s.1.length+1) 24) <|
   gd (LB .i64 (s.2+(1:Int))) <|
   some (.inl ((s.1++[(([l.getD acc default]:LI)++(r.getD s.2.toNat default))]),(s.2+(1:Int)))) else some (.inr s.1)) :
  LN (loopO step ((List.range acc).flatMap (fun i=>(prm n (l.take i++l.drop (i+1))).map (l.getD i default :: ·)),(0:Int))) (· = (List.range (acc+1)).flatMap (fun i=>(prm n (l.take i++l.drop (i+1))).map (l.getD i default :: ·))):=by
 have hrl:r.length=LK n:=by rw [hr];exact yN n _ (by rw [lla,List.length_take,List.length_drop];omega)
 have hf:LK n<=LK 11:=Cz (by omega);have h11:LK 11=39916800:=by decide
 have hrow:∀ k,(r.getD k default).length<=12:=fun k=>by
  by_cases hk:k<r.length
  ·have hm:r.getD k default∈r:=by rw [gdq,geq hk];exact List.getElem_mem _
   have hll:(l.take acc++l.drop (acc+1)).length=n:=by rw [lla,List.length_take,List.length_drop];omega
   have := ((oP hll).1 (show r.getD k default∈prm n (l.take acc++l.drop (acc+1)) by rw [<- hr];exact hm)).length_eq;rw [this,hll];omega
  ·rw [gdq,List.getElem?_eq_none (by omega)];exact Nat.zero_le _
 have hpre:((List.range acc).flatMap (fun i=>(prm n (l.take i++l.drop (i+1))).map (l.getD i default :: ·))).length<=12*39916800:=by
  have e:=cu (l:=List.range acc) (f:=fun i=>(prm n (l.take i++l.drop (i+1))).map (l.getD i default :: ·)) (m:=LK n) fun i hi=>by
   have := List.mem_range.1 hi;rw [List.length_map,yN n _ (by rw [lla,List.length_take,List.length_drop];omega)]
  rw [e,List.length_range];exact Nat.mul_le_mul (by omega) (by omega)
 refine (da r.length _ (fun k=>[l.getD acc default::r.getD k default]) (fun k hk=>?_) ?_).mono fun v hv=>?_
 ·rw [hs];have hkl:((List.range k).flatMap fun k=>[l.getD acc default::r.getD k default]).length=k*1:=by rw [cu (m:=1) fun _ _=>rfl,List.length_range]
  refine .bifD (fun _ => .gdD ⟨by simp only [];omega,by simp only [];omega⟩ (.gd (au (by have := hrow k;simp only [tnn,List.length_singleton];omega) rfl) (.gd (Jc (by simp only [lla];omega) rfl) (.gdI (by simp only [];omega) (.pure ?_))))) fun h=>absurd (show (k:Int)<(r.length:Int) by omega) h;simp only [tnn,aZ,List.append_assoc]
  rfl
 ·rw [hs];exact .bifD (fun h=>absurd h (by simp only [];omega)) fun _ => .pure rfl
 ·rw [hv,aZ,bv r fun x=>[l.getD acc default::x],jS,<- hr]
theorem xM:∀ (n:Nat) (l:LI),l.length=n->n<=12->∀ m,n<m->LN (d9 m l) (· = prm n l)
 | _,_,_,_,0,h=>by omega
 | 0,l,hl,hn,m+1,_=>by
  show LN (dZ _ l) _;unfold dZ;exact .bif (fun _ => .pure rfl) fun h=>by rw [hl] at h;cases h
 | n+1,l,hl,hn,m+1,hm=>by
  show LN (dZ _ l) _;unfold dZ;refine .bif (fun h=>by rw [hl] at h;have := eq_of_beq h;omega) fun _=>LN.bind (P:=(· = prm (n+1) l)) ?_ fun v hv => .pure hv;refine (da l.length [] (fun i=>(prm n (l.take i++l.drop (i+1))).map (l.getD i default :: ·)) (fun k hk=>?_) ?_).mono fun v hv=>?_
  ·unfold il;simp only [List.nil_append,tnn];refine .bifD (fun _=>?_) fun h=>absurd (show (k:Int)<(l.length:Int) by omega) h;refine LN.bind (P:=(· = (List.range (k+1)).flatMap fun i=>(prm n (l.take i++l.drop (i+1))).map (l.getD i default :: ·))) ?_ fun v hv => .gdI (by omega) (.pure (by rw [hv];rfl));refine .gdD ⟨by omega,by omega⟩ ((rB (by omega)).bind fun v16 h16 => .gdI (by omega) ?_);subst v16;refine LN.bind (P:=(· = l.take k++l.drop (k+1))) ?_ fun v21 h21=>?_
   ·unfold kT;refine .gdD ⟨by omega,by omega,by omega,by omega⟩ (.pure ?_);rw [tnn,show ((k:Int)+1).toNat=k+1 by omega]
   subst v21;refine (xM n _ (by rw [lla,List.length_take,List.length_drop];omega) (by omega) m (by omega)).bind fun v25 h25=>?_;exact xL hl hn hk h25 fun s=>by unfold jM;rfl
  ·unfold il;exact .bifD (fun h=>absurd h (by simp only [];omega)) fun _ => .pure rfl
  ·rw [hv]
   rfl
theorem zU:∀ (n:Nat) (l:LI),l.length=n->n<=12->∀ m,n<m->LN (dB m l) (· = prm n l)
 | _,_,_,_,0,h=>by omega
 | 0,l,hl,hn,m+1,_=>by
  show LN (dA _ l) _;unfold dA;exact .bif (fun _ => .pure rfl) fun h=>by rw [hl] at h;cases h
 | n+1,l,hl,hn,m+1,hm=>by
  show LN (dA _ l) _;unfold dA;refine .bif (fun h=>by rw [hl] at h;have := eq_of_beq h;omega) fun _=>LN.bind (P:=(· = prm (n+1) l)) ?_ fun v hv => .pure hv;refine (da l.length [] (fun i=>(prm n (l.take i++l.drop (i+1))).map (l.getD i default :: ·)) (fun k hk=>?_) ?_).mono fun v hv=>?_
  ·unfold gI;simp only [List.nil_append,tnn];refine .bifD (fun _=>?_) fun h=>absurd (show (k:Int)<(l.length:Int) by omega) h;refine LN.bind (P:=(· = (List.range (k+1)).flatMap fun i=>(prm n (l.take i++l.drop (i+1))).map (l.getD i default :: ·))) ?_ fun v hv => .gdI (by omega) (.pure (by rw [hv];rfl));have e1:((l.drop (0:Int).toNat).take (k-(0:Int).toNat))=l.take k:=by simp
   have e2:((l.drop ((k:Int)+1).toNat).take (l.length-((k:Int)+1).toNat))=l.drop (k+1):=by
    rw [show ((k:Int)+1).toNat=k+1 by omega];exact List.take_of_length_le (by rw [List.length_drop];exact Nat.le_refl _)
   rw [e1,e2];have g1:(l.take k).length<=12:=by rw [List.length_take];omega
   have g2:(l.drop (k+1)).length<=12:=by rw [List.length_drop];omega
   refine .gdD ⟨by omega,by omega,by omega⟩ (.gd (au (by simp only [List.length_nil];omega) rfl) (.gdI (by omega) (.gdD ⟨by omega,by omega,by omega⟩ (.gd (au (by omega) rfl) ?_))));refine (zU n _ (by rw [lla,List.length_take,List.length_drop];omega) (by omega) m (by omega)).bind fun v25 h25=>?_;refine xL hl hn hk h25 fun s=>?_;unfold jc;simp only [tnn];rw [iS (decide_eq_true (show 0<=(k:Int)/\(k:Int)<(l.length:Int) by omega))]
  ·unfold gI;exact .bifD (fun h=>absurd h (by simp only [];omega)) fun _ => .pure rfl
  ·rw [hv]
   rfl
theorem uH {α:Type} {f:Nat->Option α} {v:α} (n:Nat) (h:∀ m,n<m->LN (f m) (· = v)):LN (Es f) (· = v):=LN.of (yn (n+1) fun m hm=>(h m hm).eq) rfl
theorem Jd (l:LI) (h:l.length<=12):LN (m9 l) (· = prm l.length l):=uH l.length fun m hm=>xM l.length l rfl h m hm
theorem J9 (l:LI) (h:l.length<=12):LN (l8 l) (· = prm l.length l):=uH l.length fun m hm=>zU l.length l rfl h m hm
section
variable {p:List (List LD)}
def chE (p:List (List LD)) (i:Nat):LI:=if (ev p (i:Int)).Reads=true then (LQ p (ev p (i:Int)).Loc).filter (fun n => !decide (n=(i:Int))) else [-1]
def chF (p:List (List LD)):LL:=(List.range (evs p).length).map (chE p)
def chL (p:List (List LD)) (l:Nat):LL:=(prm (LQ p (l:Int)).tail.length (LQ p (l:Int)).tail).map ((l:Int) :: ·)
def chO (p:List (List LD)):List (LL):=[chL p 0,chL p 1,chL p 2]
def gm (p:List (List LD)):List LF:=(lg (chF p)).flatMap fun f=>(lg (chO p)).map fun o=>⟨f,o⟩
abbrev LR (p:List (List LD)):List (List Ins):=p.map fun r=>r.map iV
theorem zV (q:LG->Bool) (f:Ins->Bool) (h:∀ t k x,x.Op≠4->q ⟨t,k,x.Loc,rdX x,wrX x⟩=f (iV x)) (h4:∀ x:LD,x.Op=4->f (iV x)=false) (t:Nat) (row:List LD):∀ r:Nat,r<=row.length->((evR t row r).filter q).length=((row.take r).map iV).countP f
 | 0,_=>by simp [evR]
 | r+1,hr=>by
  have ih:=zV q f h h4 t row r (by omega);have e:row.getD r default=row[r]:=by rw [gdq,geq (by omega)];rfl
  rw [evR,List.filter_append,lla,ih,<- List.take_append_getElem (show r<row.length by omega),List.map_append,List.countP_append,e]
  congr 1
  unfold evI
  by_cases ho:row[r].Op=4
  ·rw [if_pos ho];simp [h4 _ ho]
  ·rw [if_neg ho];have := h t r row[r] ho
   by_cases hf:f (iV row[r])=true
   ·rw [hf] at this;rw [List.filter_cons_of_pos (by rw [this])];simp [hf]
   ·have hf':f (iV row[r])=false:=by simpa using hf
    rw [hf'] at this;rw [List.filter_cons_of_neg (by rw [this];decide)];simp [hf']
theorem zW (q:LG->Bool) (f:Ins->Bool) (h:∀ (t k:Int) x,x.Op≠4->q ⟨t,k,x.Loc,rdX x,wrX x⟩=f (iV x)) (h4:∀ x:LD,x.Op=4->f (iV x)=false):((evs p).filter q).length=(ev0.filter q).length+m6 f (LR p):=by
 have key:∀ n:Nat,n<=p.length->((evP p n).filter q).length=(ev0.filter q).length+m6 f ((LR p).take n):=fun n=>by
  induction n with
  | zero=>intro _;simp [evP,m6]
  | succ n ih=>
   intro hn;have e:p.getD n default=p[n]:=by rw [gdq,geq (by omega)];rfl
   have hn':n<(LR p).length:=by rw [List.length_map];omega
   rw [evP,List.filter_append,lla,ih (by omega),zV q f (fun t k=>h t k) h4 n _ _ (Nat.le_refl _),dK f (LR p) n hn',List.take_length,Nat.add_assoc,e]
   congr 2
   simp
 have := key p.length (Nat.le_refl _);rw [show (LR p).take p.length=LR p from List.take_of_length_le (by simp)] at this;exact this
theorem Bm {l:Nat} (hl:l<3):(LQ p (l:Int)).length=cw (LR p) (l:Int)+1:=by
 have h1:(LQ p (l:Int)).length=((evs p).filter fun e=>e.Writes&&decide (e.Loc=(l:Int))).length:=by
  rw [<- tQ (fun e:LG=>e.Writes&&decide (e.Loc=(l:Int))) default (evs p)];unfold LQ;rw [List.filter_map,List.length_map]
  congr 2
 rw [h1,zW _ (bi (l:Int) wrB) (fun t k x ho=>?_) (fun x ho=>?_)]
 ·have : (ev0.filter fun e=>e.Writes&&decide (e.Loc=(l:Int))).length=1:=by
   match l,hl with
   | 0,_=>rfl
   | 1,_=>rfl
   | 2,_=>rfl
  rw [this];unfold cw;omega
 ·unfold bi iV wrB wrO wrX;simp only;rw [Bool.and_comm,show (x.Loc==(l:Int))=decide (x.Loc=(l:Int)) from H8 _ _]
 ·unfold bi iV wrB wrO;simp [ho]
theorem Bn {l:Nat} (hl:l<3):((evs p).filter fun e=>e.Reads&&decide (e.Loc=(l:Int))).length=cr (LR p) (l:Int):=by
 rw [zW _ (bi (l:Int) rdB) (fun t k x ho=>?_) (fun x ho=>?_)]
 ·have : (ev0.filter fun e=>e.Reads&&decide (e.Loc=(l:Int))).length=0:=by
   match l,hl with
   | 0,_=>rfl
   | 1,_=>rfl
   | 2,_=>rfl
  rw [this];unfold cr;omega
 ·unfold bi iV rdB rdO rdX;simp only;rw [Bool.and_comm,show (x.Loc==(l:Int))=decide (x.Loc=(l:Int)) from H8 _ _]
 ·unfold bi iV rdB rdO;simp [ho]
def gE (w:Nat->Nat) (e:LG):Nat:=if e.Reads=true then w e.Loc.toNat+1 else 1
theorem Je (w:Nat->Nat) (L:List LG) (h:∀ e∈L,e.Reads=true->0<=e.Loc/\e.Loc<=2):kg (L.map (gE w))=(w 0+1) ^ (L.filter fun e=>e.Reads&&decide (e.Loc=((0:Nat):Int))).length*(w 1+1) ^ (L.filter fun e=>e.Reads&&decide (e.Loc=((1:Nat):Int))).length*(w 2+1) ^ (L.filter fun e=>e.Reads&&decide (e.Loc=((2:Nat):Int))).length:=by
 induction L with
 | nil=>rfl
 | cons e L ih=>
  have ih:=ih fun a ha=>h a (List.mem_cons_of_mem _ ha);show gE w e*kg (L.map (gE w))=_;rw [ih];unfold gE
  by_cases hr:e.Reads=true
  ·obtain ⟨h0,h2⟩:=h e List.mem_cons_self hr;have hc:e.Loc=0\/e.Loc=1\/e.Loc=2:=by omega
   rcases hc with hc | hc | hc <;> simp [hr,hc,Nat.pow_succ] <;> ac_rfl
  ·simp [hr]
theorem Jf (hp:PV p) {e:LG} (h:e∈evs p):0<=e.Loc/\e.Loc<=2:=by
 obtain ⟨i,hi,rfl⟩:=List.getElem_of_mem h;have := kY hp (n:=(i:Int)) (by omega) (by omega);unfold ev at this;rw [tnn,gdq,geq hi] at this;exact this
theorem Jg (hp:PV p) {i:Nat} (hi:i<(evs p).length):(chE p i).length<=gE (fun l=>cw (LR p) (l:Int)) ((evs p).getD i default):=by
 have he:(evs p).getD i default=ev p (i:Int):=by unfold ev;rw [tnn]
 have hl:=kY hp (n:=(i:Int)) (by omega) (by omega);rw [he];unfold chE gE
 split
 ·have := Bm (p:=p) (l:=(ev p (i:Int)).Loc.toNat) (by omega);rw [Int.toNat_of_nonneg hl.1] at this;have h2:=List.length_filter_le (fun n => !decide (n=(i:Int))) (LQ p (ev p (i:Int)).Loc);simp only [Int.toNat_of_nonneg hl.1];omega
 ·exact Nat.le_refl _
theorem oQ {l:Nat} (hl:l<3):(chL p l).length=LK (cw (LR p) (l:Int)):=by
 unfold chL;rw [List.length_map,yN _ _ rfl,List.length_tail,Bm hl,Nat.add_sub_cancel]
theorem He (hv:bq (LR p)=true):kg ((evs p).map (gE fun l=>cw (LR p) (l:Int)))*(LK (cw (LR p) 0)*LK (cw (LR p) 1)*LK (cw (LR p) 2))<=3000:=by
 have hp:=PV.of hv;simp only [bq,bae,decide_eq_true_eq] at hv;have h3:=hv.2;rw [Je _ _ fun e he _=>Jf hp he,Bn (by omega),Bn (by omega),Bn (by omega)];refine Nat.le_trans (Nat.le_of_eq ?_) h3;show _=1*JW (LR p) 0*JW (LR p) 1*JW (LR p) 2;unfold JW;rw [Nat.one_mul];show _=_ ^ cr (LR p) ((0:Nat):Int)*LK (cw (LR p) ((0:Nat):Int))*(_ ^ cr (LR p) ((1:Nat):Int)*LK (cw (LR p) ((1:Nat):Int)))*(_ ^ cr (LR p) ((2:Nat):Int)*LK (cw (LR p) ((2:Nat):Int)));simp only [Int.ofNat_zero,Int.natCast_one,Int.cast_ofNat_Int]
 ac_rfl
structure Few (p:List (List LD)):Prop where
 f:∀ k,(lg ((chF p).take k)).length<=3000/\(lg ((chF p).drop k)).length<=3000
 o:∀ k,(lg ((chO p).take k)).length<=3000/\(lg ((chO p).drop k)).length<=3000
 all:(lg (chF p)).length*(lg (chO p)).length<=3000
 w:∀ l:Nat,l<3->(LQ p (l:Int)).length<=8/\(chL p l).length<=3000
theorem few (hv:bq (LR p)=true):Few p:=by
 have hp:=PV.of hv;have hE:=He hv;have hgs:∀ a∈(evs p).map (gE fun l=>cw (LR p) (l:Int)),1<=a:=fun a ha=>by
  obtain ⟨e,_,rfl⟩:=List.mem_map.1 ha;unfold gE
  split <;> omega
 have f0:=sH (cw (LR p) 0);have f1:=sH (cw (LR p) 1);have f2:=sH (cw (LR p) 2);have g0:=rA hgs;have hfs:∀ a∈(chO p).map List.length,1<=a:=fun a ha=>by
  simp only [chO,List.map_cons,List.map_nil,List.mem_cons,List.not_mem_nil,or_false] at ha;rcases ha with rfl | rfl | rfl
  ·rw [oQ (by omega)];exact sH _
  ·rw [oQ (by omega)];exact sH _
  ·rw [oQ (by omega)];exact sH _
 have hO:kg ((chO p).map List.length)=LK (cw (LR p) 0)*LK (cw (LR p) 1)*LK (cw (LR p) 2):=by
  show (chL p 0).length*((chL p 1).length*((chL p 2).length*1))=_;rw [oQ (by omega),oQ (by omega),oQ (by omega),Nat.mul_one,Nat.mul_assoc]
  rfl
 have hOpos:=rA hfs;have hA:kg ((evs p).map (gE fun l=>cw (LR p) (l:Int)))<=3000:=Nat.le_trans (Nat.le_mul_of_pos_right _ (by rw [<- hO];exact hOpos)) hE;have hB:kg ((chO p).map List.length)<=3000:=by rw [hO];exact Nat.le_trans (Nat.le_mul_of_pos_left _ g0) hE
 have hmono:∀ k,kg (((chF p).map List.length).take k)<=kg (((evs p).map (gE fun l=>cw (LR p) (l:Int))).take k)/\kg (((chF p).map List.length).drop k)<=kg (((evs p).map (gE fun l=>cw (LR p) (l:Int))).drop k):=fun k=>by
  have hlen:(chF p).length=(evs p).length:=by simp [chF]
  have hget:∀ i:Nat,i<(evs p).length->((chF p).map List.length).getD i 0<=((evs p).map (gE fun l=>cw (LR p) (l:Int))).getD i 0:=fun i hi=>by
   have := Jg hp hi;rw [gdq,geq hi] at this;rw [gdq,gdq,List.getElem?_map,List.getElem?_map,geq hi];unfold chF;rw [List.getElem?_map,List.getElem?_range hi];exact this
  constructor
  ·refine xI (by simp [hlen]) fun i hi=>?_;have hi':i<k/\i<(evs p).length:=by
    rw [List.length_take,List.length_map,hlen] at hi;omega
   rw [gdq,gdq,List.getElem?_take,List.getElem?_take,if_pos hi'.1,if_pos hi'.1,<- gdq,<- gdq];exact hget i hi'.2
  ·refine xI (by simp [hlen]) fun i hi=>?_;have hi':k+i<(evs p).length:=by
    rw [List.length_drop,List.length_map,hlen] at hi;omega
   rw [gdq,gdq,List.getElem?_drop,List.getElem?_drop,<- gdq,<- gdq];exact hget _ hi'
 refine ⟨fun k=>⟨?_,?_⟩,fun k=>⟨?_,?_⟩,?_,fun l hl=>?_⟩
 ·rw [nC,List.map_take];exact Nat.le_trans (hmono k).1 (Nat.le_trans (xJ hgs k) hA)
 ·rw [nC,List.map_drop];exact Nat.le_trans (hmono k).2 (Nat.le_trans (xK hgs k) hA)
 ·rw [nC,List.map_take];exact Nat.le_trans (xJ hfs k) hB
 ·rw [nC,List.map_drop];exact Nat.le_trans (xK hfs k) hB
 ·rw [nC,nC,hO];have := (hmono (evs p).length).1;rw [List.take_of_length_le (by simp [chF]),List.take_of_length_le (by simp)] at this;exact Nat.le_trans (Nat.mul_le_mul_right _ this) hE
 ·have hf:LK (cw (LR p) (l:Int))<=3000:=by
   rw [<- oQ hl];have h0:(chL p l).length∈(chO p).map List.length:=by
    match l,hl with
    | 0,_=>simp [chO]
    | 1,_=>simp [chO]
    | 2,_=>simp [chO]
   refine Nat.le_trans ?_ hB
   match l,hl with
   | 0,_=>exact Nat.le_mul_of_pos_right _ (Nat.mul_pos (hfs _ (by simp [chO])) (Nat.mul_pos (hfs _ (by simp [chO])) Nat.one_pos))
   | 1,_=>
    refine Nat.le_trans ?_ (Nat.le_mul_of_pos_left _ (hfs _ (by simp [chO])));exact Nat.le_mul_of_pos_right _ (Nat.mul_pos (hfs _ (by simp [chO])) Nat.one_pos)
   | 2,_=>
    refine Nat.le_trans ?_ (Nat.le_mul_of_pos_left _ (hfs _ (by simp [chO])));refine Nat.le_trans ?_ (Nat.le_mul_of_pos_left _ (hfs _ (by simp [chO])));exact Nat.le_of_eq (Nat.mul_one _).symm
  refine ⟨?_,by rw [oQ hl];exact hf⟩;rw [Bm hl];rcases Nat.lt_or_ge (cw (LR p) (l:Int)) 7 with h | h
  ·omega
  ·have := Cz h;have h7:LK 7=5040:=by decide
   omega
end
section
variable {p:List (List LD)}
theorem CB (hp:PV p) (l:Int):LN (di (evs p) l) (· = LQ p l):=by
 have hel:=jO hp.vs;unfold di;refine LN.bind (P:=(· = LQ p l)) ?_ fun v hv => .pure hv;refine LN.loop (fun z=>∃ n:Nat,n<=(evs p).length/\z=(((List.range n).map fun (i:Nat)=>(i:Int)).filter (Wl p l),(n:Int))) (fun z=>(((evs p).length:Int)-z.2).toNat) ⟨0,by omega,rfl⟩ fun z ⟨n,h1,h2⟩ => ?_;subst h2;unfold eU;have en:(evs p).getD n default=ev p (n:Int):=by unfold ev;rw [tnn]
 simp only [tnn,en];refine .bifD (fun hk=>?_) fun hk => .pure ?_
 ·have hsl:(((List.range n).map fun (i:Nat)=>(i:Int)).filter (Wl p l)).length<=n:=Nat.le_trans (List.length_filter_le _ _) (by simp);have hst:((List.range (n+1)).map fun (i:Nat)=>(i:Int)).filter (Wl p l)=((List.range n).map fun (i:Nat)=>(i:Int)).filter (Wl p l)++if Wl p l (n:Int) then [(n:Int)] else []:=by
   rw [List.range_succ,List.map_append,List.filter_append]
   congr 1
   by_cases h:Wl p l (n:Int)=true
   ·rw [if_pos h];simp [h]
   ·rw [if_neg h];simp [h]
  refine LN.bind (P:=(· = ((List.range (n+1)).map fun (i:Nat)=>(i:Int)).filter (Wl p l))) (.gdD ⟨by omega,hk⟩ (LN.bind (P:=(· = Wl p l (n:Int))) (.bif (fun h => .pure ?_) fun h => .pure ?_) fun b hb => .bif (fun h => .gd (au (by omega) rfl) (.pure ?_)) fun h => .pure ?_)) fun v hv => .gdI (by omega) (.pure ⟨⟨n+1,by omega,by rw [hv];rfl⟩,by simp only [];omega⟩)
  ·unfold Wl;rw [h,Bool.true_and];exact H8 _ _
  ·unfold Wl;rw [h];rfl
  ·rw [hst,<- hb,h];rfl
  ·rw [hst,<- hb,h];simp
 ·have : n=(evs p).length:=by omega
  rw [this]
  rfl
theorem CC (hp:PV p) (l:Int):LN (dx (evs p) l) (· = LQ p l):=Bh hp l
def nq (i:Int) (n:Int):Bool := !decide (n=i)
theorem Hf (v:LI) (i:Int) (hl:v.length<=1000000):LN (aG v i) (· = v.filter (nq i)):=by
 unfold aG;have heq:∀ a:Int,LN (dY a i) (· = decide (a=i)):=fun a=>by unfold dY;exact .pure (H8 a i)
 refine LN.bind (P:=fun r:Int=>(r = -1/\∀ n∈v,n≠i)\/(0<=r/\r<(v.length:Int)/\v.getD r.toNat default=i/\∀ n∈v.take r.toNat,n≠i)) ?_ fun r hr=>?_
 ·unfold aW;refine LN.sum (PS:=fun _=>∀ n∈v,n≠i) (PW:=fun r:Int=>(r = -1/\∀ n∈v,n≠i)\/(0<=r/\r<(v.length:Int)/\v.getD r.toNat default=i/\∀ n∈v.take r.toNat,n≠i)) ?_ fun _ h => .pure (.inl ⟨rfl,h⟩);refine LN.loop (fun z=>∃ k:Nat,k<=v.length/\z=(k:Int)/\∀ n∈v.take k,n≠i) (fun z=>((v.length:Int)-z).toNat) ⟨0,by omega,rfl,by simp⟩ fun z ⟨k,h1,h2,h3⟩ => ?_;subst h2;unfold bG;simp only [tnn];refine .bifD (fun hk => .gdD ⟨by omega,hk⟩ ((heq _).bind fun b hb=>?_)) fun hk => .pure ?_
  ·subst hb;refine .bifD (fun he => .pure (.inr ⟨by omega,hk,by rw [tnn];exact he,by rw [tnn];exact h3⟩)) fun he => .gdI (by omega) (.pure ⟨⟨k+1,by omega,rfl,fun n hn=>?_⟩,by omega⟩);rw [eC (by omega),List.mem_append,List.mem_singleton] at hn;rcases hn with hn | rfl
   ·exact h3 n hn
   ·exact he
  ·rwa [show k=v.length by omega,List.take_length] at h3
 rcases hr with ⟨rfl,h⟩ | ⟨r0,r1,r2,r3⟩
 ·refine .bif (fun _ => .pure ?_) fun h=>by cases h
  rw [List.filter_eq_self.2 fun n hn=>by unfold nq;rw [decide_eq_false (h n hn)];rfl]
 ·refine .bif (fun h=>by have := eq_of_beq h;omega) fun _=>?_;refine LN.bind (P:=fun z=>z.1.length=v.length/\(0<=z.2/\z.2<=(v.length:Int))/\z.1.take z.2.toNat=v.filter (nq i)) (.gdI (by omega) ?_) fun z ⟨z1,⟨z2,z3⟩,z4⟩ => ?_
  ·refine LN.loop (fun z=>∃ j k:Nat,j<=v.length/\k<=j/\z.2.1=(j:Int)/\z.2.2=(k:Int)/\z.1.length=v.length/\(∀ q:Nat,j<=q->z.1[q]? = v[q]?)/\z.1.take k=(v.take j).filter (nq i)) (fun z=>((v.length:Int)-z.2.1).toNat) ⟨r.toNat+1,r.toNat,by omega,by omega,by simp only [];omega,by simp only [];omega,rfl,fun _ _=>rfl,?_⟩ fun z ⟨j,k,h1,h2,h3,h4,h5,h6,h7⟩ => ?_
   ·simp only [];rw [eC (by omega),List.filter_append,List.filter_eq_self.2 fun n hn=>by unfold nq;rw [decide_eq_false (r3 n hn)];rfl,r2];simp [nq]
   ·obtain ⟨s,z1,z2⟩:=z;simp only at h3 h4 h5 h6 h7;subst h3 h4;unfold aR;simp only [tnn,h5];refine .bifD (fun hk=>?_) fun hk => .pure ⟨h5,⟨by simp only [];omega,by simp only [];omega⟩,?_⟩
    ·have hj:j<v.length:=by omega
     have e1:s.getD j default=v.getD j default:=by rw [gdq,gdq,h6 j (Nat.le_refl _)]
     rw [e1];refine LN.bind (P:=fun z:List Int×Int=>∃ k:Nat,k<=j+1/\z.2=(k:Int)/\z.1.length=v.length/\(∀ q:Nat,j+1<=q->z.1[q]? = v[q]?)/\z.1.take k=(v.take (j+1)).filter (nq i)) (.gdD ⟨by omega,hk⟩ ((heq _).bind fun b hb=>?_)) fun z ⟨k',g1,g2,g3,g4,g5⟩ => .gdI (by omega) (.pure ⟨⟨j+1,k',by omega,g1,rfl,g2,g3,g4,g5⟩,by simp only [];omega⟩);subst hb;rw [eC hj,List.filter_append];refine .bif (fun hn=>?_) fun hn=>?_
     ·refine .gdD ⟨by omega,by omega⟩ (.gdI (by omega) (.pure ⟨k+1,by omega,rfl,by simp [h5],fun q hq=>?_,?_⟩))
      ·simp only [];rw [List.getElem?_set_ne (by omega)];exact h6 q (by omega)
      ·simp only [];have hks:k<s.length:=by omega
       rw [List.take_add_one,List.getElem?_set_self hks,List.take_set_of_le (Nat.le_refl _),h7]
       congr 1
       rw [List.filter_cons_of_pos (show nq i (v.getD j default)=true from hn)]
       rfl
     ·refine .pure ⟨k,by omega,rfl,h5,fun q hq=>h6 q (by omega),?_⟩;simp only [];rw [h7,List.filter_cons_of_neg (show ¬ nq i (v.getD j default)=true from fun h=>by rw [show nq i (v.getD j default)=false from hn] at h;cases h)];simp
    ·simp only [];rw [tnn,h7,show j=v.length by omega,List.take_length]
  ·refine .gdD ⟨by omega,by omega⟩ (.gdD ⟨z2,by omega,by omega⟩ (.gdD ⟨by omega,z2,by omega⟩ (.pure ?_)));rw [<- z4];simp only [cpy,Nat.zero_add,show (0:Int).toNat=0 from rfl,List.drop_zero,Nat.sub_zero]
   split
   ·rw [List.append_assoc,List.take_append_of_le_length (by rw [List.length_take];omega),List.take_take,Nat.min_self]
   ·rfl
theorem Dr (x:LF) (h1:x.From.length<=100000) (h2:x.Order.length<=100000) (h3:∀ i,(x.Order.getD i default).length<=100000):LN (fu x) (· = x):=by
 unfold fu;refine (rB (by omega)).bind fun v1 e1 => .gdD ⟨by omega,by omega,by omega,by omega⟩ (LN.bind (P:=(· = x.Order)) ?_ fun s hs => .pure (by rw [e1,hs]));refine LN.loop (fun z=>∃ k:Nat,k<=x.Order.length/\z=(x.Order.take k++List.replicate (x.Order.length-k) [],(k:Int))) (fun z=>((x.Order.length:Int)-z.2).toNat) ⟨0,by omega,by simp⟩ fun z ⟨k,g1,g2⟩ => ?_;subst g2;unfold iD;simp only [tnn];refine .bifD (fun hk=>?_) fun hk => .pure ?_
 ·have hk':k<x.Order.length:=by omega
  refine .gdD ⟨by omega,hk⟩ ((rB (by have := h3 k;omega)).bind fun v12 e12 => .gdD ⟨by omega,?_⟩ (.gdI (by omega) (.pure ⟨⟨k+1,by omega,?_⟩,by simp only [];omega⟩)))
  ·simp only [lla,List.length_take,List.length_replicate];omega
  ·rw [e12,eC hk',List.set_append_right _ _ (by rw [List.length_take];omega),List.length_take,Nat.min_eq_left (by omega),Nat.sub_self,show x.Order.length-k=(x.Order.length-(k+1))+1 by omega,List.replicate_succ,List.set_cons_zero,List.append_assoc]
   rfl
 ·rw [show k=x.Order.length by omega,Nat.sub_self,List.take_length];simp
theorem FJ (x:LF) (h1:x.From.length<=100000) (h2:x.Order.length<=100000) (h3:∀ i,(x.Order.getD i default).length<=100000):LN (jd x) (· = x):=by
 unfold jd;refine .gd (au (by simp only [List.length_nil];omega) rfl) (LN.bind (P:=(· = x.Order)) ?_ fun s hs => .pure (by rw [hs];rfl));refine LN.loop (fun z=>∃ k:Nat,k<=x.Order.length/\z=(x.Order.take k,(k:Int))) (fun z=>((x.Order.length:Int)-z.2).toNat) ⟨0,by omega,by simp⟩ fun z ⟨k,g1,g2⟩ => ?_;subst g2;unfold kC;simp only [tnn,List.nil_append];refine .bifD (fun hk=>?_) fun hk => .pure ?_
 ·have hk':k<x.Order.length:=by omega
  refine .gdD ⟨by omega,hk⟩ (.gd (au (by have := h3 k;simp only [List.length_nil];omega) rfl) (.gd (au (by rw [List.length_take];omega) rfl) (.gdI (by omega) (.pure ⟨⟨k+1,by omega,?_⟩,by simp only [];omega⟩))));rw [eC hk']
  rfl
 ·rw [show k=x.Order.length by omega,List.take_length]
theorem CE (l:Nat) (hl:l<3):∃ t,LQ p (l:Int)=(l:Int)::t:=GX hl
theorem Bp {f:LI} (h:f∈lg (chF p)):f.length=(evs p).length:=by
 rw [(iA.1 h).1];simp [chF]
theorem FK (F:Few p) {o:LL} (h:o∈lg (chO p)):o.length=3/\∀ i,(o.getD i default).length<=100:=by
 obtain ⟨h1,h2⟩:=iA.1 h;refine ⟨h1,fun i=>?_⟩
 by_cases hi:i<3
 ·obtain ⟨y,hy,e⟩:=h2 i hi;rw [gdq,e];have hw:=(F.w i hi).1;have hy':y∈chL p i:=by
   match i,hi with
   | 0,_=>exact hy
   | 1,_=>exact hy
   | 2,_=>exact hy
  unfold chL at hy';obtain ⟨r,hr,rfl⟩:=List.mem_map.1 hy';have := ((oP rfl).1 hr).length_eq;rw [List.length_tail] at this;show ((i:Int)::r).length<=100;rw [List.length_cons];omega
 ·rw [gdq,List.getElem?_eq_none (by rw [h1];exact Nat.le_of_not_lt hi)];exact Nat.zero_le _
theorem getD_in {α:Type} [Inhabited α] {l:List α} {i:Nat} (h:i<l.length):l.getD i default∈l:=by
 rw [gdq,geq h];exact List.getElem_mem _
theorem Jh (FF:LL) (OO s30:List (LL)) (hO:LN (fU s30) (· = OO)) (hall:FF.length*OO.length<=3000) (hn:FF.length<=3000) (hn2:OO.length<=3000) (hf:∀ f∈FF,f.length<=24) (ho:∀ o∈OO,o.length=3/\∀ i,(o.getD i default).length<=100) :
  LN (loopO (cK s30 FF) (([]:List LF),(0:Int))) (· = FF.flatMap fun f=>OO.map fun o=>(⟨f,o⟩:LF)):=by
 have hpre:∀ j,j<=FF.length->((List.range j).flatMap fun j=>OO.map fun o=>(⟨FF.getD j default,o⟩:LF)).length<=3000:=fun j hj=>by
  have := mH (fun j=>OO.map fun o=>(⟨FF.getD j default,o⟩:LF)) hj;rw [bv FF fun f=>OO.map fun o=>(⟨f,o⟩:LF),cu (l:=FF) (f:=fun f=>OO.map fun o=>(⟨f,o⟩:LF)) (m:=OO.length) fun _ _=>List.length_map _] at this;exact Nat.le_trans this hall
 refine (da FF.length [] (fun j=>OO.map fun o=>(⟨FF.getD j default,o⟩:LF)) (fun j hj=>?_) ?_).mono fun v hv=>?_
 ·have hfj:=hf _ (getD_in hj);have hpj:=hpre (j+1) hj;rw [aZ,lla,List.length_map] at hpj;unfold cK;simp only [List.nil_append,tnn];refine .bifD (fun _=>?_) fun h=>absurd (show (j:Int)<(FF.length:Int) by omega) h;refine LN.bind (P:=(· = (List.range (j+1)).flatMap fun j=>OO.map fun o=>(⟨FF.getD j default,o⟩:LF))) (.gdD ⟨by omega,by omega⟩ ?_) fun v hv => .gdI (by omega) (.pure (by rw [hv];rfl));refine hO.bind fun v86 h86=>?_;subst v86;generalize hpe:(List.range j).flatMap (fun j=>OO.map fun o=>(⟨FF.getD j default,o⟩:LF))=pre at hpj ⊢;generalize hfg:FF.getD j default=f at hfj ⊢;have hstep:∀ s:List LF×Int,cJ FF (pre,(j:Int)) OO s=bif decide (s.2<(OO.length:Int)) then
    gd (decide (0<=s.2/\s.2<(OO.length:Int)))<|Option.bind (fu (⟨f,OO.getD s.2.toNat default⟩:LF)) fun v99=>
    gd (aS (s.1.length+1) 48)<|gd (LB .i64 (s.2+(1:Int)))<|some (.inl ((s.1++[v99]),(s.2+(1:Int)))) else some (.inr s.1):=fun s=>by
   unfold cJ;simp only [tnn,hfg]
  generalize cJ FF (pre,(j:Int)) OO=step at hstep ⊢;refine (da OO.length pre (fun i=>[(⟨f,OO.getD i default⟩:LF)]) (fun i hi=>?_) ?_).mono fun v hv=>?_
  ·have hil:((List.range i).flatMap fun i=>[(⟨f,OO.getD i default⟩:LF)]).length=i*1:=by rw [cu (m:=1) fun _ _=>rfl,List.length_range]
   obtain ⟨ho1,ho2⟩:=ho _ (getD_in hi);rw [hstep];simp only [tnn];refine .bifD (fun _ => .gdD ⟨by omega,by omega⟩ ((Dr ⟨f,OO.getD i default⟩ (Nat.le_trans hfj (by omega)) (by rw [ho1];omega) (fun i=>Nat.le_trans (ho2 i) (by omega))).bind fun v99 h99 => .gd (au (by rw [lla];omega) rfl) (.gdI (by omega) (.pure ?_)))) fun h=>absurd (show (i:Int)<(OO.length:Int) by omega) h;rw [h99,aZ,List.append_assoc]
   rfl
  ·rw [hstep];exact .bifD (fun h=>absurd h (by simp only [];omega)) fun _ => .pure rfl
  ·rw [hv,bv OO fun o=>[(⟨f,o⟩:LF)],jS,aZ,hpe,hfg]
 ·unfold cK;exact .bifD (fun h=>absurd h (by simp only [];omega)) fun _ => .pure rfl
 ·rw [hv,List.nil_append];exact bv FF fun f=>OO.map fun o=>(⟨f,o⟩:LF)
theorem FL (hv:bq (LR p)=true):LN (iZ p) (· = gm p):=by
 have hp:=PV.of hv;have F:=few hv;have hel:=jO hp.vs;unfold iZ;refine (IU hp.vs).bind fun v1 e1=>?_;subst v1;have hen:∀ n:Nat,(evs p).getD n default=ev p (n:Int):=fun n=>by unfold ev;rw [tnn]
 refine LN.bind (P:=(· = chF p)) ?_ fun s2 h2=>?_
 ·refine (da (evs p).length [] (fun i=>[chE p i]) (fun k hk=>?_) ?_).mono fun v hv=>by rw [hv,List.nil_append,jS];rfl
  ·unfold fM;have hkl:((List.range k).flatMap fun i=>[chE p i]).length=k*1:=by rw [cu (m:=1) fun _ _=>rfl,List.length_range]
   simp only [List.nil_append,tnn,hen];refine .bifD (fun _ => .gdD ⟨by omega,by omega⟩ (LN.bind (P:=(· = chE p k)) ?_ fun v hv => .gd (au (by omega) rfl) (.gdI (by omega) (.pure (by rw [hv,aZ];rfl))))) fun h=>absurd (show (k:Int)<((evs p).length:Int) by omega) h;have hl:=kY hp (n:=(k:Int)) (by omega) (by omega);refine .bif (fun hr=>?_) fun hr => .pure (by unfold chE;rw [if_neg (by rw [hr];decide)]);refine (CB hp _).bind fun v17 h17=>?_;subst v17;have hw:=(F.w (ev p (k:Int)).Loc.toNat (by omega)).1;rw [Int.toNat_of_nonneg hl.1] at hw;refine (Hf _ _ (by omega)).bind fun v21 h21 => .pure ?_;rw [h21];unfold chE;rw [if_pos hr]
   rfl
  ·unfold fM;exact .bifD (fun h=>absurd h (by simp only [];omega)) fun _ => .pure rfl
 subst s2;refine LN.bind (P:=(· = chO p)) ?_ fun s30 h30=>?_
 ·refine (da 3 [] (fun l=>[chL p l]) (fun l hl=>?_) ?_).mono fun v hv=>by rw [hv];rfl
  ·unfold fe;have hkl:((List.range l).flatMap fun i=>[chL p i]).length=l*1:=by rw [cu (m:=1) fun _ _=>rfl,List.length_range]
   simp only [List.nil_append];refine .bifD (fun _=>?_) fun h=>absurd (show (l:Int)<3 by omega) h;refine LN.bind (P:=(· = (List.range (l+1)).flatMap fun i=>[chL p i])) (LN.bind (P:=(· = chL p l)) ?_ fun v hv => .gd (au (by omega) rfl) (.pure (by rw [hv,aZ]))) fun v hv => .gdI (by omega) (.pure (by rw [hv];rfl));refine (CB hp _).bind fun v44 h44=>?_;subst v44;have hw:=(F.w l hl).1;obtain ⟨t,ht⟩:=CE (p:=p) l hl;refine .gdD ⟨by omega,by rw [ht,List.length_cons];omega,by omega⟩ ?_;have e:(((LQ p (l:Int)).drop (1:Int).toNat).take (((LQ p (l:Int)).length:Int).toNat-(1:Int).toNat))=(LQ p (l:Int)).tail:=by
    rw [ht];simp
   rw [e];refine (Jd _ (by rw [List.length_tail];omega)).bind fun v46 h46=>?_;have hpl:v46.length<=3000:=by
    have := (F.w l hl).2;rw [h46];unfold chL at this
    rwa [List.length_map] at this
   have hrow:∀ i,(v46.getD i default).length<=100:=fun i=>by
    by_cases hi:i<v46.length
    ·have hm:=getD_in hi;rw [show v46=prm (LQ p (l:Int)).tail.length (LQ p (l:Int)).tail from h46] at hm;have := ((oP rfl).1 hm).length_eq;rw [<- h46,List.length_tail] at this;omega
    ·rw [gdq,List.getElem?_eq_none (by omega)];exact Nat.zero_le _
   refine (da v46.length [] (fun i=>[(l:Int)::v46.getD i default]) (fun i hi=>?_) ?_).mono fun v hv=>?_
   ·unfold eZ;have hil:((List.range i).flatMap fun i=>[(l:Int)::v46.getD i default]).length=i*1:=by rw [cu (m:=1) fun _ _=>rfl,List.length_range]
    simp only [List.nil_append,tnn];refine .bifD (fun _ => .gdD ⟨by omega,by omega⟩ (.gd (au (by have := hrow i;simp only [List.length_singleton];omega) rfl) (.gd (au (by omega) rfl) (.gdI (by omega) (.pure (by rw [aZ];rfl)))))) fun h=>absurd (show (i:Int)<(v46.length:Int) by omega) h
   ·unfold eZ;exact .bifD (fun h=>absurd h (by simp only [];omega)) fun _ => .pure rfl
   ·rw [hv,List.nil_append,bv v46 fun x=>[(l:Int)::x],jS,h46]
    rfl
  ·unfold fe;exact .bifD (fun h=>absurd h (by simp only [];omega)) fun _ => .pure rfl
 subst s30;refine LN.bind (P:=(· = gm p)) ?_ fun v hv => .pure hv;refine (pR (chF p) (by simp [chF];omega) fun k _=>Nat.le_trans (F.f k).1 (by omega)).bind fun v72 h72=>?_;subst v72;have h0:=(F.f (chF p).length).1;rw [List.take_length] at h0;have h1:=(F.o (chO p).length).1;rw [List.take_length] at h1;exact Jh (lg (chF p)) (lg (chO p)) (chO p) (sO (chO p) (by simp [chO]) fun k _=>Nat.le_trans (F.o k).1 (by omega)) F.all h0 h1 (fun f hf=>by rw [Bp hf];exact hel) (fun o ho=>FK F ho)
end
section
variable {p:List (List LD)}
theorem Bq {α β:Type} (q:α->Bool) (f:α->List β) (l:List α):(l.filter q).flatMap f=l.flatMap fun y=>if q y=true then f y else []:=by
 induction l with
 | nil=>rfl
 | cons a l ih=>
  by_cases h:q a=true
  ·rw [List.filter_cons_of_pos h,List.flatMap_cons,List.flatMap_cons,ih,if_pos h]
  ·rw [List.filter_cons_of_neg h,List.flatMap_cons,ih,if_neg h,List.nil_append]
theorem Dt (i:Int) (rest:LL) (c:LI) (hc:c.length<=3000) (hr:rest.length<=3000) (hrow:∀ k,(rest.getD k default).length<=100) (hall:((c.filter (nq i)).flatMap fun y=>rest.map (y :: ·)).length<=3000) :
  LN (loopO (dG i rest c) (([]:LL),(0:Int))) (· = (c.filter (nq i)).flatMap fun y=>rest.map (y :: ·)):=by
 rw [Bq] at hall ⊢;rw [<- bv c] at hall ⊢;generalize hg:(fun k=>if nq i (c.getD k default)=true then rest.map (c.getD k default :: ·) else [])=g at hall ⊢;have hgk:∀ k,g k=if nq i (c.getD k default)=true then rest.map (c.getD k default :: ·) else []:=fun k=>by rw [<- hg]
 refine (da c.length [] g (fun k hk=>?_) ?_).mono fun v hv=>by rw [hv,List.nil_append]
 ·have hpre:=Nat.le_trans (mH g (show k+1<=c.length by omega)) hall;rw [aZ,lla] at hpre;unfold dG;simp only [List.nil_append];refine .bifD (fun _=>?_) fun h=>absurd (show (k:Int)<(c.length:Int) by omega) h;refine LN.bind (P:=(· = (List.range (k+1)).flatMap g)) ?_ fun v hv => .gdI (by omega) (.pure (by rw [hv];rfl));rw [aZ];have hk1:=hgk k;generalize (List.range k).flatMap g=pre at hpre ⊢;generalize g k=gk at hk1 hpre ⊢;subst hk1;have hstep:∀ s:LL×Int,dF i rest c (pre,(k:Int)) s=(Option.bind (bif decide (s.2<(rest.length:Int)) then gd (decide (0<=(k:Int)/\(k:Int)<(c.length:Int)))<|some ((c.getD k default) != i) else some false) fun s23=>
    bif s23 then
     gd (decide (0<=(k:Int)/\(k:Int)<(c.length:Int)))<|gd (decide (0<=s.2/\s.2<(rest.length:Int)))<|gd (aS (([(c.getD k default)]:LI).length+(rest.getD s.2.toNat default).length) 8) <|
     gd (aS (s.1.length+1) 24)<|gd (LB .i64 (s.2+(1:Int)))<|some (.inl ((s.1++[(([(c.getD k default)]:LI)++(rest.getD s.2.toNat default))]),(s.2+(1:Int))))
    else some (.inr s.1)):=fun s=>by
   unfold dF;simp only [tnn]
  generalize dF i rest c (pre,(k:Int))=step at hstep ⊢;generalize c.getD k default=y at hstep hpre ⊢
  by_cases hy:y=i
  ·have hn : ¬ nq i y=true:=by unfold nq;rw [decide_eq_true hy];decide
   rw [if_neg hn] at hpre ⊢;rw [eO,hstep];have : LN (bif decide ((0:Int)<(rest.length:Int)) then gd (decide (0<=(k:Int)/\(k:Int)<(c.length:Int)))<|some (y != i) else some false) (· = false) := .bifD (fun _ => .gdD ⟨by omega,by omega⟩ (.pure (by rw [hy];simp))) fun _ => .pure rfl;rw [show (bif decide (((pre,(0:Int)):LL×Int).2<(rest.length:Int)) then gd (decide (0<=(k:Int)/\(k:Int)<(c.length:Int)))<|some (y != i) else some false)=some false from this.eq];exact .of rfl (by simp)
  ·have hn:nq i y=true:=by unfold nq;rw [decide_eq_false hy];rfl
   have hne:(y != i)=true:=by simpa using hy
   rw [if_pos hn,List.length_map] at hpre;rw [if_pos hn];refine (da rest.length pre (fun j=>[y::rest.getD j default]) (fun j hj=>?_) ?_).mono fun v hv=>?_
   ·have hil:((List.range j).flatMap fun j=>[y::rest.getD j default]).length=j*1:=by rw [cu (m:=1) fun _ _=>rfl,List.length_range]
    rw [hstep];refine LN.bind (P:=(· = true)) (.bifD (fun _ => .gdD ⟨by omega,by omega⟩ (.pure hne)) fun h=>absurd (show (j:Int)<(rest.length:Int) by omega) h) fun b hb=>?_;subst hb;simp only [tnn,cond_true];refine .gdD ⟨by omega,by omega⟩ (.gdD ⟨by omega,by omega⟩ (.gd (au (by have := hrow j;simp only [List.length_singleton];omega) rfl) (.gd (au (by rw [lla];omega) rfl) (.gdI (by omega) (.pure ?_)))));rw [aZ,List.append_assoc]
    rfl
   ·rw [hstep];refine LN.bind (P:=(· = false)) (.bifD (fun h=>absurd h (by simp only [];omega)) fun _ => .pure rfl) fun b hb=>?_;subst hb;exact .pure rfl
   ·rw [hv,bv rest fun x=>[y::x],jS]
 ·unfold dG;exact .bifD (fun h=>absurd h (by simp only [];omega)) fun _ => .pure rfl
theorem Hg {i:Nat} (h:i<(evs p).length):(chF p).drop i=chE p i::(chF p).drop (i+1):=by
 have hl:i<(chF p).length:=by simp [chF];exact h
 rw [List.drop_eq_getElem_cons hl]
 congr 1
 simp [chF]
theorem zX (hv:bq (LR p)=true):∀ (n m i:Nat),i+n=(evs p).length->n<m->LN (fw m (evs p) (i:Int)) (· = lg ((chF p).drop i))
 | _,0,_,_,h=>by omega
 | 0,m+1,i,hi,_=>by
  show LN (dz _ (evs p) (i:Int)) _;unfold dz;refine .bif (fun _ => .pure ?_) fun h=>by rw [show i=(evs p).length by omega] at h;simp at h
  rw [List.drop_eq_nil_of_le (by simp [chF] <;> omega)]
  rfl
 | n+1,m+1,i,hi,hm=>by
  have hp:=PV.of hv;have F:=few hv;have hel:=jO hp.vs;have hen:∀ n:Nat,(evs p).getD n default=ev p (n:Int):=fun n=>by unfold ev;rw [tnn]
  have hl:=kY hp (n:=(i:Int)) (by omega) (by omega);show LN (dz _ (evs p) (i:Int)) _;unfold dz;refine .bif (fun h=>by have := eq_of_beq h;omega) fun _ => .gdI (by omega) ?_;refine (zX hv n m (i+1) (by omega) (by omega)).bind fun v3 h3=>?_;have hi':i<(evs p).length:=by omega
  have hr:=(F.f (i+1)).2;have hF:=(F.f i).2;have hrow:∀ k,(v3.getD k default).length<=100:=fun k=>by
   by_cases hk:k<v3.length
   ·have hm:=getD_in hk;rw [show v3=lg ((chF p).drop (i+1)) from h3] at hm;have := (iA.1 hm).1;rw [<- h3,List.length_drop] at this;simp only [chF,List.length_map,List.length_range] at this;omega
   ·rw [gdq,List.getElem?_eq_none (by omega)];exact Nat.zero_le _
  rw [Hg hi'] at hF ⊢;rw [<- h3] at hr;have hE:lg (chE p i::(chF p).drop (i+1))=(chE p i).flatMap fun y=>v3.map (y :: ·):=by rw [h3];rfl
  rw [hE] at hF ⊢;clear hE;generalize hS:(if (ev p (i:Int)).Reads=true then LQ p (ev p (i:Int)).Loc else [-1])=c;have hcf:chE p i=c.filter (nq (i:Int)):=by
   unfold chE;rw [<- hS]
   split
   ·rfl
   ·unfold nq;rw [List.filter_cons_of_pos (by simp <;> omega)]
    rfl
  have hcl:c.length<=8:=by
   rw [<- hS]
   split
   ·have hw:=(F.w (ev p (i:Int)).Loc.toNat (by omega)).1
    rwa [Int.toNat_of_nonneg hl.1] at hw
   ·decide
  refine LN.bind (P:=(· = c)) (.gdD ⟨by omega,by omega⟩ ?_) fun s4 h4=>?_
  ·simp only [tnn,hen];refine .bif (fun h=>((CC hp _).bind fun v7 h7 => .pure ?_)) fun h => .pure ?_
   ·rw [h7,<- hS,if_pos h]
   ·rw [<- hS,if_neg (by rw [h];decide)]
  subst s4;rw [hcf] at hF ⊢;exact (Dt (i:Int) v3 c (by omega) hr hrow hF).bind fun s8 h8 => .pure h8
theorem Ka (hv:bq (LR p)=true):LN (l7 (evs p) 0) (· = lg (chF p)):=uH (evs p).length fun m hm=>zX hv (evs p).length m 0 (by omega) hm
theorem Bs (l:Int) (v3:List (LL)) (v4:LI) (v6:LL) (h40:v4.getD 0 default=l) (h4:0<v4.length) (hn6:v6.length<=3000) (hn3:v3.length<=3000) (hr6:∀ k,(v6.getD k default).length<=100) (hr3:∀ k,(v3.getD k default).length<=100) (hall:(v6.flatMap fun r=>v3.map ((l::r) :: ·)).length<=3000) :
  LN (loopO (cO v3 v4 v6) (([]:List (LL)),(0:Int))) (· = v6.flatMap fun r=>v3.map ((l::r) :: ·)):=by
 rw [<- bv v6] at hall ⊢;generalize hg:(fun k=>v3.map ((l::v6.getD k default) :: ·))=g at hall ⊢;have hgk:∀ k,g k=v3.map ((l::v6.getD k default) :: ·):=fun k=>by rw [<- hg]
 refine (da v6.length [] g (fun k hk=>?_) ?_).mono fun v hv=>by rw [hv,List.nil_append]
 ·have hpre:=Nat.le_trans (mH g (show k+1<=v6.length by omega)) hall;have hrk:=hr6 k;rw [aZ,lla] at hpre;unfold cO;simp only [List.nil_append,tnn,show (0:Int).toNat=0 from rfl,h40];refine .bifD (fun _=>?_) fun h=>absurd (show (k:Int)<(v6.length:Int) by omega) h;refine LN.bind (P:=(· = (List.range (k+1)).flatMap g)) (.gdD ⟨by omega,by omega⟩ (.gdD ⟨by omega,by omega⟩ (.gd (au (by simp only [List.length_singleton];omega) rfl) ?_))) fun v hv => .gdI (by omega) (.pure (by rw [hv];rfl));rw [aZ];have hk1:=hgk k;generalize (List.range k).flatMap g=pre at hpre ⊢;generalize g k=gk at hk1 hpre ⊢;subst hk1;rw [List.length_map] at hpre;have hstep:∀ s:List (LL)×Int,cN v3 v4 v6 (pre,(k:Int)) s=bif decide (s.2<(v3.length:Int)) then
    gd (decide (0<=s.2/\s.2<(v3.length:Int)))<|gd (aS (([(([l]:LI)++(v6.getD k default))]:LL).length+(v3.getD s.2.toNat default).length) 24)<|gd (aS (s.1.length+1) 24)<|gd (LB .i64 (s.2+(1:Int))) <|
    some (.inl ((s.1++[(([(([l]:LI)++(v6.getD k default))]:LL)++(v3.getD s.2.toNat default))]),(s.2+(1:Int)))) else some (.inr s.1):=fun s=>by
   unfold cN;simp only [tnn,show (0:Int).toNat=0 from rfl,h40]
  generalize cN v3 v4 v6 (pre,(k:Int))=step at hstep ⊢;generalize v6.getD k default=y at hstep ⊢;refine (da v3.length pre (fun j=>[(l::y)::v3.getD j default]) (fun j hj=>?_) ?_).mono fun v hv=>?_
  ·have hil:((List.range j).flatMap fun j=>[(l::y)::v3.getD j default]).length=j*1:=by rw [cu (m:=1) fun _ _=>rfl,List.length_range]
   rw [hstep];simp only [tnn];refine .bifD (fun _ => .gdD ⟨by omega,by omega⟩ (.gd (au (by have := hr3 j;simp only [List.length_singleton];omega) rfl) (.gd (au (by rw [lla];omega) rfl) (.gdI (by omega) (.pure ?_))))) fun h=>absurd (show (j:Int)<(v3.length:Int) by omega) h;rw [aZ,List.append_assoc]
   rfl
  ·rw [hstep];exact .bifD (fun h=>absurd h (by simp only [];omega)) fun _ => .pure rfl
  ·rw [hv,bv v3 fun x=>[(l::y)::x],jS]
 ·unfold cO;exact .bifD (fun h=>absurd h (by simp only [];omega)) fun _ => .pure rfl
theorem Hh {l:Nat} (h:l<3):(chO p).drop l=chL p l::(chO p).drop (l+1):=by
 match l,h with
 | 0,_=>rfl
 | 1,_=>rfl
 | 2,_=>rfl
theorem vP (hv:bq (LR p)=true):∀ (n m l:Nat),l+n=3->n<m->LN (ez m (evs p) (l:Int)) (· = lg ((chO p).drop l))
 | _,0,_,_,h=>by omega
 | 0,m+1,l,hl,_=>by
  show LN (cG _ (evs p) (l:Int)) _;unfold cG;refine .bifD (fun _ => .pure ?_) fun h=>absurd (show (2:Int)<(l:Int) by omega) h;rw [List.drop_eq_nil_of_le (by simp [chO] <;> omega)]
  rfl
 | n+1,m+1,l,hl,hm=>by
  have hp:=PV.of hv;have F:=few hv;have hl3:l<3:=by omega
  show LN (cG _ (evs p) (l:Int)) _;unfold cG;refine .bifD (fun h=>absurd h (by omega)) fun _ => .gdI (by omega) ?_;refine (vP hv n m (l+1) (by omega) (by omega)).bind fun v3 h3=>(CC hp _).bind fun v4 h4=>?_;subst v4;have hw:=(F.w l hl3).1;obtain ⟨t,ht⟩:=CE (p:=p) l hl3;refine .gdD ⟨by omega,by rw [ht,List.length_cons];omega,by omega⟩ ?_;have e:(((LQ p (l:Int)).drop (1:Int).toNat).take (((LQ p (l:Int)).length:Int).toNat-(1:Int).toNat))=(LQ p (l:Int)).tail:=by
   rw [ht];simp
  rw [e];refine (J9 _ (by rw [List.length_tail];omega)).bind fun v6 h6=>?_;have hn6:v6.length<=3000:=by
   have := (F.w l hl3).2;rw [h6];unfold chL at this
   rwa [List.length_map] at this
  have hr6:∀ i,(v6.getD i default).length<=100:=fun i=>by
   by_cases hi:i<v6.length
   ·have hm:=getD_in hi;rw [show v6=prm (LQ p (l:Int)).tail.length (LQ p (l:Int)).tail from h6] at hm;have := ((oP rfl).1 hm).length_eq;rw [<- h6,List.length_tail] at this;omega
   ·rw [gdq,List.getElem?_eq_none (by omega)];exact Nat.zero_le _
  have hn3:=(F.o (l+1)).2;have hO:=(F.o l).2;have hr3:∀ k,(v3.getD k default).length<=100:=fun k=>by
   by_cases hk:k<v3.length
   ·have hm:=getD_in hk;rw [show v3=lg ((chO p).drop (l+1)) from h3] at hm;have := (iA.1 hm).1;rw [<- h3,List.length_drop] at this;simp only [chO,List.length_cons,List.length_nil] at this;omega
   ·rw [gdq,List.getElem?_eq_none (by omega)];exact Nat.zero_le _
  rw [Hh hl3] at hO ⊢;rw [<- h3] at hn3;have hE:lg (chL p l::(chO p).drop (l+1))=v6.flatMap fun r=>v3.map (((l:Int)::r) :: ·):=by
   show ((prm (LQ p (l:Int)).tail.length (LQ p (l:Int)).tail).map ((l:Int) :: ·)).flatMap (fun y=>(lg ((chO p).drop (l+1))).map (y :: ·))=_;rw [<- h6,<- h3,List.flatMap_map]
  rw [hE] at hO ⊢;exact (Bs (l:Int) v3 (LQ p (l:Int)) v6 (by rw [ht];rfl) (by rw [ht];simp) hn6 hn3 hr6 hr3 hO).bind fun s7 h7 => .pure h7
theorem Ji (hv:bq (LR p)=true):LN (kW (evs p) 0) (· = lg (chO p)):=uH 3 fun m hm=>vP hv 3 m 0 (by omega) hm
theorem Jj (FF:LL) (OO:List (LL)) (hall:FF.length*OO.length<=3000) (hn:FF.length<=3000) (hn2:OO.length<=3000) (hf:∀ f∈FF,f.length<=24) (ho:∀ o∈OO,o.length=3/\∀ i,(o.getD i default).length<=100) :
  LN (loopO (f7 FF OO) (([]:List LF),(0:Int))) (· = FF.flatMap fun f=>OO.map fun o=>(⟨f,o⟩:LF)):=by
 have hpre:∀ j,j<=FF.length->((List.range j).flatMap fun j=>OO.map fun o=>(⟨FF.getD j default,o⟩:LF)).length<=3000:=fun j hj=>by
  have := mH (fun j=>OO.map fun o=>(⟨FF.getD j default,o⟩:LF)) hj;rw [bv FF fun f=>OO.map fun o=>(⟨f,o⟩:LF),cu (l:=FF) (f:=fun f=>OO.map fun o=>(⟨f,o⟩:LF)) (m:=OO.length) fun _ _=>List.length_map _] at this;exact Nat.le_trans this hall
 refine (da FF.length [] (fun j=>OO.map fun o=>(⟨FF.getD j default,o⟩:LF)) (fun j hj=>?_) ?_).mono fun v hv=>?_
 ·have hfj:=hf _ (getD_in hj);have hpj:=hpre (j+1) hj;rw [aZ,lla,List.length_map] at hpj;unfold f7;simp only [List.nil_append];refine .bifD (fun _=>?_) fun h=>absurd (show (j:Int)<(FF.length:Int) by omega) h;refine LN.bind (P:=(· = (List.range (j+1)).flatMap fun j=>OO.map fun o=>(⟨FF.getD j default,o⟩:LF))) ?_ fun v hv => .gdI (by omega) (.pure (by rw [hv];rfl));generalize hpe:(List.range j).flatMap (fun j=>OO.map fun o=>(⟨FF.getD j default,o⟩:LF))=pre at hpj ⊢;generalize hfg:FF.getD j default=f at hfj;have hstep:∀ s:List LF×Int,fA FF OO (pre,(j:Int)) s=bif decide (s.2<(OO.length:Int)) then
    gd (decide (0<=(j:Int)/\(j:Int)<(FF.length:Int)))<|gd (decide (0<=s.2/\s.2<(OO.length:Int)))<|Option.bind (jd (⟨f,OO.getD s.2.toNat default⟩:LF)) fun v99=>
    gd (aS (s.1.length+1) 48)<|gd (LB .i64 (s.2+(1:Int)))<|some (.inl ((s.1++[v99]),(s.2+(1:Int)))) else some (.inr s.1):=fun s=>by
   unfold fA;simp only [tnn,hfg]
  generalize fA FF OO (pre,(j:Int))=step at hstep ⊢;refine (da OO.length pre (fun i=>[(⟨f,OO.getD i default⟩:LF)]) (fun i hi=>?_) ?_).mono fun v hv=>?_
  ·have hil:((List.range i).flatMap fun i=>[(⟨f,OO.getD i default⟩:LF)]).length=i*1:=by rw [cu (m:=1) fun _ _=>rfl,List.length_range]
   obtain ⟨ho1,ho2⟩:=ho _ (getD_in hi);rw [hstep];simp only [tnn];refine .bifD (fun _ => .gdD ⟨by omega,by omega⟩ (.gdD ⟨by omega,by omega⟩ ((FJ ⟨f,OO.getD i default⟩ (Nat.le_trans hfj (by omega)) (by rw [ho1];omega) (fun i=>Nat.le_trans (ho2 i) (by omega))).bind fun v99 h99 => .gd (au (by rw [lla];omega) rfl) (.gdI (by omega) (.pure ?_))))) fun h=>absurd (show (i:Int)<(OO.length:Int) by omega) h;rw [h99,aZ,List.append_assoc]
   rfl
  ·rw [hstep];exact .bifD (fun h=>absurd h (by simp only [];omega)) fun _ => .pure rfl
  ·rw [hv,bv OO fun o=>[(⟨f,o⟩:LF)],jS,aZ,hpe,hfg]
 ·unfold f7;exact .bifD (fun h=>absurd h (by simp only [];omega)) fun _ => .pure rfl
 ·rw [hv,List.nil_append];exact bv FF fun f=>OO.map fun o=>(⟨f,o⟩:LF)
theorem FM (hv:bq (LR p)=true):LN (lI p) (· = gm p):=by
 have hp:=PV.of hv;have F:=few hv;have hel:=jO hp.vs;unfold lI;refine (Bd hp.vs).bind fun v1 e1=>?_;subst v1;refine (Ka hv).bind fun v2 h2=>(Ji hv).bind fun v3 h3=>?_;subst v2 v3;have h0:=(F.f (chF p).length).1;rw [List.take_length] at h0;have h1:=(F.o (chO p).length).1;rw [List.take_length] at h1;exact (Jj (lg (chF p)) (lg (chO p)) F.all h0 h1 (fun f hf=>by rw [Bp hf];exact hel) (fun o ho=>FK F ho)).bind fun s4 h4 => .pure h4
end
section
variable {p:List (List LD)} {x:XS} {F F':LI}
def Jk (p:List (List LD)):LI:=(List.range (evs p).length).map fun (i:Nat)=>(i:Int)
theorem Cand.congr (C:Cand p x F) (h:∀ n,n∈F'↔n∈F):Cand p x F':=
 ⟨fun n=>(h n).trans (C.mem n),C.flen,C.olen,fun l hl=>⟨(C.ods l hl).nd,fun n=>by rw [(C.ods l hl).mem,h]⟩,C.hd,fun i hi hr=>C.rdc i ((h i).1 hi) hr,fun i hi hr=>C.ne i ((h i).1 hi) hr,fun i hi hr=>C.frN i ((h i).1 hi) hr⟩
theorem Cand.rng (C:Cand p x F):Cand p x (Jk p):=C.congr fun n=>(qw n).trans (C.mem n).symm
theorem Ih (l:Int):(LQ p l).Nodup:=List.Pairwise.filter _ Ib
theorem vQ {c:LF} (hp:PV p) (h:c∈gm p):Cand p (c.From,c.Order) (Jk p):=by
 unfold gm at h;simp only [List.mem_flatMap,List.mem_map] at h;obtain ⟨f,hf,o,ho,rfl⟩:=h;obtain ⟨f1,f2⟩:=iA.1 hf;obtain ⟨o1,o2⟩:=iA.1 ho;have hfl:=Bp hf;have oget:∀ l:Nat,l<3->∃ r,o.getD l []=(l:Int)::r/\r.Perm (LQ p (l:Int)).tail:=fun l hl=>by
  obtain ⟨y,hy,e⟩:=o2 l hl;have hy':y∈chL p l:=by
   match l,hl with
   | 0,_=>exact hy
   | 1,_=>exact hy
   | 2,_=>exact hy
  unfold chL at hy';obtain ⟨r,hr,rfl⟩:=List.mem_map.1 hy';exact ⟨r,by rw [gdq,e];rfl,(oP rfl).1 hr⟩
 have operm:∀ l:Nat,l<3->(o.getD l []).Perm (LQ p (l:Int)):=fun l hl=>by
  obtain ⟨r,e,hr⟩:=oget l hl;obtain ⟨t,ht⟩:=CE (p:=p) l hl;rw [e];rw [ht] at hr ⊢;exact hr.cons _
 have fget:∀ i:Nat,i<(evs p).length->f.getD i default∈chE p i:=fun i hi=>by
  obtain ⟨y,hy,e⟩:=f2 i (by simp [chF];exact hi);rw [gdq,e];simpa [chF] using hy
 have odn:∀ l:Int,0<=l/\l<=2->(od (f,o) l).Perm (LQ p l):=fun l hl=>by
  have := operm l.toNat (by omega);rw [Int.toNat_of_nonneg hl.1] at this;exact this
 have rd:∀ i:Int,i∈Jk p->(ev p i).Reads=true->f.getD i.toNat default∈LQ p (ev p i).Loc/\f.getD i.toNat default≠i:=fun i hi hr=>by
  obtain ⟨i0,i1⟩:=(qw i).1 hi;have := fget i.toNat (by omega);unfold chE at this;rw [Int.toNat_of_nonneg i0,if_pos hr,List.mem_filter] at this;exact ⟨this.1,by simpa using this.2⟩
 refine ⟨fun n=>qw n,hfl,o1,fun l hl=>⟨(odn l hl).nodup_iff.2 (Ih l),fun n=>?_⟩,fun l hl=>?_,fun i hi hr=>?_,fun i hi hr=>(rd i hi hr).2,fun i hi hr=>?_⟩
 ·rw [(odn l hl).mem_iff];unfold LQ;rw [List.mem_filter];unfold Wl;rw [bae,decide_eq_true_eq];exact Iff.rfl
 ·obtain ⟨r,e,_⟩:=oget l hl;exact ⟨r,by unfold od;rw [tnn];exact e⟩
 ·obtain ⟨i0,i1⟩:=(qw i).1 hi;exact (odn _ (kY hp i0 i1)).mem_iff.2 (rd i hi hr).1
 ·obtain ⟨i0,i1⟩:=(qw i).1 hi;have := fget i.toNat (by omega);unfold chE at this;rw [Int.toNat_of_nonneg i0,if_neg (by rw [hr];decide)] at this;simpa using this
theorem vR (hp:PV p) (C:Cand p x (Jk p)):(⟨x.1,x.2⟩:LF)∈gm p:=by
 unfold gm;simp only [List.mem_flatMap,List.mem_map];refine ⟨x.1,iA.2 ⟨by rw [C.flen];simp [chF],fun i hi=>?_⟩,x.2,iA.2 ⟨C.olen,fun l hl=>?_⟩,rfl⟩
 ·have hi':i<(evs p).length:=by simpa [chF] using hi
  have hm:(i:Int)∈Jk p:=(qw _).2 ⟨by omega,by omega⟩;refine ⟨x.1.getD i default,?_,by rw [gdq,geq (by rw [C.flen];exact hi')];rfl⟩;simp only [chF,List.getElem_map,List.getElem_range];unfold chE
  split
  ·rename_i hr;have h1:=C.rdc _ hm hr;have h2:=C.ne _ hm hr;rw [tnn] at h1 h2;have hl:=kY hp (n:=(i:Int)) (by omega) (by omega);refine List.mem_filter.2 ⟨?_,by simpa using h2⟩;have h3:=((C.ods _ hl).mem _).1 h1;unfold LQ;rw [List.mem_filter];refine ⟨h3.1,?_⟩;unfold Wl;rw [h3.2.1,Bool.true_and,decide_eq_true_eq];exact h3.2.2
  ·rename_i hr;have := C.frN _ hm (by simpa using hr);rw [tnn] at this;rw [this];exact List.mem_singleton.2 rfl
 ·have hl':l<3:=hl;obtain ⟨t,ht⟩:=C.hd l hl';obtain ⟨w,hw⟩:=CE (p:=p) l hl';have hg:x.2[l]? = some ((l:Int)::t):=by
   have h1:l<x.2.length:=by rw [C.olen];exact hl'
   unfold od at ht;rw [tnn,gdq,geq h1] at ht;rw [geq h1];exact congrArg some ht
  refine ⟨(l:Int)::t,?_,hg⟩;have hpm:((l:Int)::t).Perm ((l:Int)::w):=by
   rw [<- ht,<- hw];have O:=C.ods (l:Int) (by omega);refine (List.perm_ext_iff_of_nodup O.nd (Ih _)).2 fun n=>?_;rw [O.mem];unfold LQ;rw [List.mem_filter];unfold Wl;rw [bae,decide_eq_true_eq];exact Iff.rfl
  have hin:(l:Int)::t∈chL p l:=by
   unfold chL;refine List.mem_map.2 ⟨t,(oP rfl).2 ?_,rfl⟩;rw [hw];exact hpm.cons_inv
  match l,hl' with
  | 0,_=>exact hin
  | 1,_=>exact hin
  | 2,_=>exact hin
def TrL (p:List (List LD)) (o:LI):Prop:=Whole p o/\Gr p (rf p (iI p o o.length)) (Jk p) (fun _=>0) o
theorem oU (hv:bq (LR p)=true) {c:LF} (h:c∈gm p):∃ l b,bg p ⟨c.From,c.Order⟩=some (l,b)/\dM p (lC p (bef p (c.From,c.Order)) (evs p).length)=some (l,b)/\l.length<=21/\(b=true->TrL p l/\rf p (iI p l l.length)=(c.From,c.Order)) /\
  (∀ s,Whole p s->rf p (iI p s s.length)=(c.From,c.Order)->b=true):=by
 have hp:=PV.of hv;obtain ⟨l,b,h1,h2,h3,_,h5,h6⟩:=Dn hp hv (vQ hp h);refine ⟨l,b,h1,h2,h3,fun hb=>?_,h6⟩;obtain ⟨g1,g2,g3⟩:=h5 hb;exact ⟨⟨g1,by rw [g2];exact g3⟩,g2⟩
theorem xO {s:LI} (hw:Whole p s):Cand p (rf p (iI p s s.length)) (Jk p):=(RunOf.cand (PV.of hw.1) (rq (PV.of hw.1) hw)).rng
theorem FN {a:Nat->Nat} {r:LI} (h:Gr p x F a r):StA p a->r.length=mu p a:=by
 induction h with
 | @nil b h=>
  intro _;unfold mu;have : (List.range p.length).map (fun t=>(p.getD t default).length-b t)=(List.range p.length).map fun _=>0:=List.map_congr_left fun t ht=>by
   rw [h t (List.mem_range.1 ht),Nat.sub_self]
  rw [this];have h0:∀ n:Nat,((List.range n).map fun _=>0).sum=0:=fun n=>by
   induction n with
   | zero=>rfl
   | succ n ih=>rw [List.range_succ,List.map_append,List.sum_append,ih];rfl
  exact (h0 _).symm
 | cons h _ _ ih=>
  intro ha;have := zN h.1 h.2.1;rw [List.length_cons,ih (ha.adv h.2.1)];omega
theorem Ii {o:LI} (h:TrL p o):o.length=mu p fun _=>0:=FN h.2 fun _ _=>Nat.zero_le _
theorem FO {a b:LI} (k:Nat) (ha:k<a.length) (hb:k<b.length):cmpL (a.drop k) (b.drop k)=if a.getD k default<b.getD k default then -1 else if b.getD k default<a.getD k default then 1 else cmpL (a.drop (k+1)) (b.drop (k+1)):=by
 have e1:a.getD k default=a[k]:=by rw [gdq,geq ha];rfl
 have e2:b.getD k default=b[k]:=by rw [gdq,geq hb];rfl
 rw [List.drop_eq_getElem_cons ha,List.drop_eq_getElem_cons hb,cmpL,e1,e2]
theorem CF {a b:LI} (h:a.length=b.length) (hl:a.length<=1000000):LN (jk a b) (· = cmpL a b):=by
 unfold jk;refine LN.sum (PS:=fun _=>cmpL a b=0) (PW:=(· = cmpL a b)) ?_ fun _ h0 => .pure h0.symm;refine LN.loop (fun z=>∃ k:Nat,k<=a.length/\z=(k:Int)/\cmpL a b=cmpL (a.drop k) (b.drop k)) (fun z=>((a.length:Int)-z).toNat) ⟨0,by omega,rfl,rfl⟩ fun z ⟨k,h1,h2,h3⟩ => ?_;subst h2;unfold nL;simp only [tnn];refine LN.bind (P:=(· = decide (k<a.length))) (.bifD (fun hk => .pure ?_) fun hk => .pure ?_) fun c hc=>?_
 ·rw [decide_eq_true (show k<a.length by omega)];exact decide_eq_true (by omega)
 ·rw [decide_eq_false (show ¬ k<a.length by omega)]
 subst hc;refine .bifD (fun hk=>?_) fun hk => .pure ?_
 ·rw [FO k hk (by omega)] at h3;refine .gdD ⟨by omega,by omega⟩ (.gdD ⟨by omega,by omega⟩ (.bifD (fun hlt => .pure ?_) fun hge => .bifD (fun hlt => .pure ?_) fun hge2 => .gdI (by omega) (.pure ⟨⟨k+1,by omega,rfl,?_⟩,by omega⟩)))
  ·rw [if_pos hlt] at h3;exact h3.symm
  ·rw [if_neg hge,if_pos hlt] at h3;exact h3.symm
  ·rw [if_neg hge,if_neg hge2] at h3;exact h3
 ·rw [h3,List.drop_eq_nil_of_le (by omega),List.drop_eq_nil_of_le (by omega)]
  rfl
theorem Jl {l:LL} {o:LI} (hs:l.Pairwise ltL) (hn:l.length<=100000) (hr:∀ r∈l,r.length=o.length) (ho:o.length<=1000):LN (lM l o) fun q=>q.Pairwise ltL/\(∀ r,r∈q↔r∈l\/r=o)/\q.length<=l.length+1:=by
 have hrD:∀ i,i<l.length->(l.getD i default).length=o.length:=fun i hi=>hr _ (getD_in hi);unfold lM;refine LN.bind (P:=fun z:Int=>∃ k:Nat,k<=l.length/\z=(k:Int)/\(∀ r∈l.take k,ltL r o)/\(k<l.length -> ¬ ltL (l.getD k default) o)) ?_ fun z ⟨k,h1,h2,h3,h4⟩ => ?_
 ·refine LN.loop (fun z=>∃ k:Nat,k<=l.length/\z=(k:Int)/\∀ r∈l.take k,ltL r o) (fun z=>((l.length:Int)-z).toNat) ⟨0,by omega,rfl,by simp⟩ fun z ⟨k,h1,h2,h3⟩ => ?_;subst h2;unfold oM;simp only [tnn];refine LN.bind (P:=fun c:Bool=>c=true↔k<l.length/\ltL (l.getD k default) o) (.bifD (fun hk => .gdD ⟨by omega,hk⟩ ((CF (hrD k (by omega)) (by rw [hrD k (by omega)];omega)).bind fun v hv => .pure ?_)) fun hk => .pure ⟨fun e=>(by cases e),fun e=>absurd e.1 (by omega)⟩) fun c hc=>?_
  ·subst hv;rw [decide_eq_true_eq];exact ⟨fun e=>⟨by omega,e⟩,fun e=>e.2⟩
  ·refine .bif (fun h=>?_) fun h => .pure ⟨k,h1,rfl,h3,fun hk hlt=>?_⟩
   ·obtain ⟨g1,g2⟩:=hc.1 h;refine .gdI (by omega) (.pure ⟨⟨k+1,by omega,rfl,fun r hr' => ?_⟩,by omega⟩);rw [eC g1,List.mem_append,List.mem_singleton] at hr';rcases hr' with hr' | rfl
    ·exact h3 r hr'
    ·exact g2
   ·rw [hc.2 ⟨hk,hlt⟩] at h
    cases h
 subst h2;simp only [tnn];refine LN.bind (P:=fun c:Bool=>c=true↔k<l.length/\l.getD k default=o) (.bifD (fun hk => .gdD ⟨by omega,hk⟩ ((CF (hrD k (by omega)) (by rw [hrD k (by omega)];omega)).bind fun v hv => .pure ?_)) fun hk => .pure ⟨fun e=>(by cases e),fun e=>absurd e.1 (by omega)⟩) fun c hc=>?_
 ·subst hv;rw [beq_iff_eq];exact ⟨fun e=>⟨by omega,cmpL_eq e⟩,fun e=>by rw [e.2,kU]⟩
 ·refine .bif (fun h => .pure ?_) fun h=>?_
  ·obtain ⟨g1,g2⟩:=hc.1 h;refine ⟨hs,fun r=>⟨.inl,fun h=>?_⟩,by omega⟩;rcases h with h | rfl
   ·exact h
   ·rw [<- g2];exact getD_in g1
  ·have e1:((l.drop (0:Int).toNat).take (k-(0:Int).toNat))=l.take k:=by simp
   have e2:((l.drop k).take (l.length-k))=l.drop k:=List.take_of_length_le (by rw [List.length_drop];exact Nat.le_refl _);rw [e1,e2];have g1:(l.take k).length<=l.length:=by rw [List.length_take];omega
   have g2:(l.drop k).length<=l.length:=by rw [List.length_drop];omega
   refine .gdD ⟨by omega,by omega,by omega⟩ (.gd (au (by simp only [List.length_nil];omega) rfl) (.gd (au (by simp only [List.nil_append];omega) rfl) (.gdD ⟨by omega,by omega,by omega⟩ (.gd (au (by simp only [List.nil_append,lla,List.length_singleton];omega) rfl) (.pure ?_)))));rw [List.nil_append,List.append_assoc];have hlt:∀ r∈l.drop k,ltL o r:=fun r hr'=>by
    have hk:k<l.length:=by
     rcases Nat.lt_or_ge k l.length with h | h
     ·exact h
     ·rw [List.drop_eq_nil_of_le h] at hr';cases hr'
    have hne:l.getD k default≠o:=fun e=>by rw [hc.2 ⟨hk,e⟩] at h;cases h
    have hko:ltL o (l.getD k default):=by
     rcases m7 (l.getD k default) o with g | g | g
     ·exact absurd g (h4 hk)
     ·exact absurd g hne
     ·exact g
    have hdk:l.drop k=l.getD k default::l.drop (k+1):=by
     rw [gdq,geq hk];exact List.drop_eq_getElem_cons hk
    have hsd:(l.drop k).Pairwise ltL:=hs.sublist (List.drop_sublist k l);rw [hdk] at hr' hsd;rcases List.mem_cons.1 hr' with rfl | hr'
    ·exact hko
    ·exact kR hko ((List.pairwise_cons.1 hsd).1 r hr')
   refine ⟨?_,fun r=>?_,?_⟩
   ·refine List.pairwise_append.2 ⟨hs.sublist (List.take_sublist k l),List.pairwise_cons.2 ⟨hlt,hs.sublist (List.drop_sublist k l)⟩,fun a ha b hb=>?_⟩;rcases List.mem_cons.1 hb with rfl | hb
    ·exact h3 a ha
    ·exact kR (h3 a ha) (hlt b hb)
   ·have : r∈l↔r∈l.take k\/r∈l.drop k:=by rw [<- List.mem_append,List.take_append_drop]
    rw [this];simp only [List.mem_append,List.mem_cons,List.cons_append,List.nil_append]
    constructor
    ·rintro (h | rfl | h)
     ·exact .inl (.inl h)
     ·exact .inr rfl
     ·exact .inl (.inr h)
    ·rintro ((h | h) | rfl)
     ·exact .inl h
     ·exact .inr (.inr h)
     ·exact .inr (.inl rfl)
   ·simp only [lla,List.length_singleton,List.length_take,List.length_drop,List.length_cons,List.length_nil];omega
theorem FP {a b:LL} (ha:a.Pairwise ltL) (hb:b.Pairwise ltL) (h:∀ o,o∈a↔o∈b):a=b:=by
 refine ql ((List.perm_ext_iff_of_nodup (ha.imp fun h=>EP h) (hb.imp fun h=>EP h)).2 h) (ha.imp fun h=>A9.2 (.inl h)) (hb.imp fun h=>A9.2 (.inl h))
theorem Du (hsz:p.length<=1048576/\total p<=1048576):∃ q,dw p=some q/\dC p=some q/\(bq (LR p)=false->q=[])/\(bq (LR p)=true->q.Pairwise ltL/\(∀ o,o∈q↔TrL p o)/\q.length<=3000):=by
 have hI:aB p=some (bq (LR p)):=iS (decide_eq_true hsz);have hS:aC p=some (bq (LR p)):=iS (decide_eq_true hsz)
 cases hv:bq (LR p) with
 | false=>
  rw [hv] at hI hS;refine ⟨[],?_,?_,fun _=>rfl,nofun⟩
  ·unfold dw;rw [hI]
   rfl
  ·unfold dC je;rw [hS];refine LN.eq (LN.bind (P:=(· = [])) (.pure rfl) fun v hv=>?_);subst hv;refine LN.bind (P:=(· = [])) ?_ fun v hv => .pure hv;rw [eO];unfold iH;exact .pure rfl
 | true=>
  rw [hv] at hI hS;have hp:=PV.of hv;have Fw:=few hv;have hcl:(gm p).length<=3000:=by
   unfold gm;rw [cu (m:=(lg (chO p)).length) fun _ _=>List.length_map _];exact Fw.all
  let Q:Nat->LI->Prop:=fun k o=>∃ i,i<k/\∃ l,bg p ⟨((gm p).getD i default).From,((gm p).getD i default).Order⟩=some (l,true)/\o=l;have Qtr:∀ o,Q (gm p).length o↔TrL p o:=fun o=>by
   constructor
   ·rintro ⟨i,hi,l,e,rfl⟩;obtain ⟨l',b,h1,_,_,h4,_⟩:=oU hv (getD_in hi);rw [e] at h1;obtain ⟨rfl,rfl⟩:=Prod.mk.inj (osl h1);exact (h4 rfl).1
   ·intro ht;have hm:=vR hp (xO ht.1);obtain ⟨i,hi,e⟩:=List.getElem_of_mem hm;have eD:(gm p).getD i default=⟨(rf p (iI p o o.length)).1,(rf p (iI p o o.length)).2⟩:=by
     rw [gdq,geq hi];exact e
    obtain ⟨l,b,h1,_,_,h4,h5⟩:=oU hv (getD_in hi);rw [eD] at h1 h4 h5;obtain rfl:=h5 o ht.1 rfl;obtain ⟨g1,g2⟩:=h4 rfl;refine ⟨i,hi,l,by rw [eD];exact h1,?_⟩;have g3:=g1.2;rw [g2] at g3;exact ht.2.uniq g3
  have hi:LN (dw p) fun q=>q.Pairwise ltL/\∀ o,o∈q↔TrL p o:=by
   unfold dw;refine (LN.of (P:=(· = true)) hI rfl).bind fun v1 h1 => .bif (fun h=>by subst h1;cases h) fun _=>?_;refine LN.bind (P:=fun l=>(∀ o,o∈l↔TrL p o)/\l.length<=3000/\∀ r∈l,r.length<=21) ?_ fun s3 ⟨h3,h4,h5⟩ => ?_
   ·refine (FL hv).bind fun v4 e4=>?_;subst v4;refine LN.loop (fun z=>∃ k:Nat,k<=(gm p).length/\z.2=(k:Int)/\(∀ o,o∈z.1↔Q k o)/\z.1.length<=k/\∀ r∈z.1,r.length<=21) (fun z=>(((gm p).length:Int)-z.2).toNat) ⟨0,by omega,rfl,fun o=>⟨fun h=>by simp at h,fun ⟨i,h,_⟩=>absurd h (by omega)⟩,by simp,fun r h=>by simp at h⟩ fun z ⟨k,h1,h2,h3,h4,h5⟩ => ?_;obtain ⟨l,z2⟩:=z;simp only at h2 h3 h4 h5;subst h2;unfold gQ;simp only [tnn];refine .bifD (fun hk=>?_) fun hk => .pure ⟨fun o=>by rw [h3,show k=(gm p).length by omega];exact Qtr o,by omega,h5⟩;have hk':k<(gm p).length:=by omega
    obtain ⟨lk,b,e1,_,e3,_,_⟩:=oU hv (getD_in hk');have hQ:∀ o,Q (k+1) o↔Q k o\/(b=true/\o=lk):=fun o=>by
     constructor
     ·rintro ⟨i,hi,l',e,rfl⟩;rcases Nat.lt_or_ge i k with h | h
      ·exact .inl ⟨i,h,o,e,rfl⟩
      ·obtain rfl:i=k:=by omega
       rw [e] at e1;obtain ⟨rfl,rfl⟩:=Prod.mk.inj (osl e1);exact .inr ⟨rfl,rfl⟩
     ·rintro (⟨i,hi,l',e,rfl⟩ | ⟨rfl,rfl⟩)
      ·exact ⟨i,by omega,o,e,rfl⟩
      ·exact ⟨k,by omega,o,e1,rfl⟩
    refine LN.bind (P:=fun l'=>(∀ o,o∈l'↔Q (k+1) o)/\l'.length<=k+1/\∀ r∈l',r.length<=21) (.gdD ⟨by omega,hk⟩ ((LN.of (P:=(· = (lk,b))) e1 rfl).bind fun v18 e18=>?_)) fun l' ⟨g1,g2,g3⟩ => .gdI (by omega) (.pure ⟨⟨k+1,by omega,rfl,g1,g2,g3⟩,by simp only [];omega⟩);subst e18;refine .bif (fun hb => .gd (au (by omega) rfl) (.pure ⟨fun o=>?_,by simp;omega,fun r hr=>?_⟩)) fun hb => .pure ⟨fun o=>?_,by omega,h5⟩
    ·rw [List.mem_append,List.mem_singleton,h3,hQ];exact ⟨fun h=>h.imp id fun e=>⟨hb,e⟩,fun h=>h.imp id fun e=>e.2⟩
    ·rcases List.mem_append.1 hr with h | h
     ·exact h5 r h
     ·rw [List.mem_singleton.1 h];exact e3
    ·rw [h3,hQ];refine ⟨.inl,fun h=>?_⟩;rcases h with h | h
     ·exact h
     ·have : b=false:=hb;rw [h.1] at this
      cases this
   ·refine (xx (by omega) fun r hr=>Nat.le_trans (h5 r hr) (by omega)).bind fun v28 S => .pure ⟨S.lt,fun o=>(S.mem o).trans (h3 o)⟩
  have hs:LN (dC p) fun q=>q.Pairwise ltL/\(∀ o,o∈q↔TrL p o)/\q.length<=3000:=by
   unfold dC je;refine LN.bind (P:=(· = gm p)) ((LN.of (P:=(· = true)) hS rfl).bind fun v1 h1 => .bif (fun h=>by subst h1;cases h) fun _=>(FM hv).bind fun v3 h3 => .pure h3) fun v1 h1=>?_;subst v1;refine LN.bind (P:=fun q=>q.Pairwise ltL/\(∀ o,o∈q↔TrL p o)/\q.length<=3000) ?_ fun v hv => .pure hv;refine LN.loop (fun z=>∃ k:Nat,k<=(gm p).length/\z.1=(k:Int)/\(∀ o,o∈z.2↔Q k o)/\z.2.length<=k/\z.2.Pairwise ltL) (fun z=>(((gm p).length:Int)-z.1).toNat) ⟨0,by omega,rfl,fun o=>⟨fun h=>by simp at h,fun ⟨i,h,_⟩=>absurd h (by omega)⟩,by simp,.nil⟩ fun z ⟨k,h1,h2,h3,h4,h5⟩ => ?_;obtain ⟨z1,l⟩:=z;simp only at h2 h3 h4 h5;subst h2;unfold iH;simp only [tnn];refine .bifD (fun hk=>?_) fun hk => .pure ⟨h5,fun o=>by rw [h3,show k=(gm p).length by omega];exact Qtr o,by omega⟩;have hk':k<(gm p).length:=by omega
   have hC:=vQ hp (getD_in hk');obtain ⟨lk,b,e1,e2,e3,e4,_⟩:=oU hv (getD_in hk');have hQ:∀ o,Q (k+1) o↔Q k o\/(b=true/\o=lk):=fun o=>by
    constructor
    ·rintro ⟨i,hi,l',e,rfl⟩;rcases Nat.lt_or_ge i k with h | h
     ·exact .inl ⟨i,h,o,e,rfl⟩
     ·obtain rfl:i=k:=by omega
      rw [e] at e1;obtain ⟨rfl,rfl⟩:=Prod.mk.inj (osl e1);exact .inr ⟨rfl,rfl⟩
    ·rintro (⟨i,hi,l',e,rfl⟩ | ⟨rfl,rfl⟩)
     ·exact ⟨i,by omega,o,e,rfl⟩
     ·exact ⟨k,by omega,o,e1,rfl⟩
   have htr:∀ o,Q k o->TrL p o:=fun o ⟨i,hi,l',e,he⟩=>(Qtr o).1 ⟨i,by omega,l',e,he⟩;refine LN.bind (P:=fun l'=>(∀ o,o∈l'↔Q (k+1) o)/\l'.length<=k+1/\l'.Pairwise ltL) (.gdD ⟨by omega,hk⟩ ?_) fun l' ⟨g1,g2,g3⟩ => .gdI (by omega) (.pure ⟨⟨k+1,by omega,rfl,g1,g2,g3⟩,by simp only [];omega⟩);refine (GV hp (Ld hp hC)).bind fun v10 h10=>?_;subst v10;refine (LN.of (P:=(· = (lk,b))) e2 rfl).bind fun v11 h11=>?_;subst h11;refine .bif (fun hb=>?_) fun hb => .pure ⟨fun o=>?_,by omega,h5⟩
   ·have hlk:=Ii (e4 hb).1;unfold ni;refine LN.bind (P:=fun l'=>(∀ o,o∈l'↔Q (k+1) o)/\l'.length<=k+1/\l'.Pairwise ltL) (LN.bind (P:=fun l'=>(∀ o,o∈l'↔Q (k+1) o)/\l'.length<=k+1/\l'.Pairwise ltL) ?_ fun v hv => .pure hv) fun v hv => .pure hv;refine (Jl h5 (by omega) (fun r hr=>by rw [Ii (htr r ((h3 r).1 hr)),hlk]) (show lk.length<=1000 by omega)).mono fun q ⟨q1,q2,q3⟩=>⟨fun o=>?_,by omega,q1⟩;rw [q2,h3,hQ];exact ⟨fun h=>h.imp id fun e=>⟨hb,e⟩,fun h=>h.imp id fun e=>e.2⟩
   ·rw [h3,hQ];refine ⟨.inl,fun h=>?_⟩;rcases h with h | h
    ·exact h
    ·have : b=false:=hb;rw [h.1] at this
     cases this
  obtain ⟨q,e,q1,q2⟩:=hi;obtain ⟨q',e',q1',q2',q3'⟩:=hs;obtain rfl:=FP q1 q1' fun o=>(q2 o).trans (q2' o).symm;exact ⟨q,e,e',nofun,fun _=>⟨q1,q2,q3'⟩⟩
end
section
variable {p:List (List LD)}
def uR (p:List (List LD)) (s:LI):Nat->LH
 | 0=>v0 p
 | i+1=>Di (uR p s i) (s.getD i default) (ES (uR p s i) (s.getD i default))
theorem Kb (hp:PV p) {s:LI} {z0:LM} (h0:Rel p (u0 p) z0) (hg:Good p s s.length):∀ m,m<=s.length->Rea JB ⟨v0 p⟩ ⟨uR p s m⟩/\Rel p (uR p s m) (zR p s z0 m)/\∀ t:Nat,t<p.length->(zR p s z0 m).at_.getD t default=((s.take m).count (t:Int):Int)
 | 0,_=>⟨.base,h0,fun t ht=>by
   show z0.at_.getD t default=_;rw [h0.a t ht];unfold u0;simp only [z3,List.take_zero,List.count_nil]
   rfl⟩
 | m+1,hm=>by
  obtain ⟨h1,h2,h3⟩:=Kb hp h0 hg m (by omega);have hl:=hp.vs.1;obtain ⟨q1,q2⟩:=hg m (by omega);obtain ⟨n,hn⟩:∃ n:Nat,s.getD m default=n:=⟨(s.getD m default).toNat,by omega⟩;have hnp:n<p.length:=by omega
  have hat:=h3 n hnp;have hpc:=h2.a n hnp;have hup:=h2.up;rw [hn,tnn] at q2;have hlt:(zR p s z0 m).at_.getD n default<((p.getD n default).length:Int):=by rw [hat];omega
  have hc:Bb (uR p s m) n=true:=by
   unfold Bb;rw [hup,<- hpc];exact decide_eq_true hlt
  have hin:ES (uR p s m) (n:Int)=(p.getD n default).getD ((zR p s z0 m).at_.getD n default).toNat default:=by
   unfold ES;rw [hup,<- hpc,tnn]
  have e1:uR p s (m+1)=Di (uR p s m) (n:Int) (ES (uR p s m) (n:Int)):=by rw [uR,hn]
  have e2:zR p s z0 (m+1)=Dl (zR p s z0 m) (n:Int) ((p.getD n default).getD ((zR p s z0 m).at_.getD n default).toNat default):=by rw [zR,hn,tnn]
  refine ⟨?_,?_,fun t ht=>?_⟩
  ·rw [e1];exact .step (m:=(n:Int)) h1 (nA.2 ⟨n,by rw [hup];exact hnp,rfl,hc⟩)
  ·rw [e1,e2,hin];refine h2.after hp (t:=(n:Int)) ⟨by omega,by omega⟩ (by rw [tnn];exact hlt) ?_;exact hp.ins n _ hnp (by rw [hat];omega)
  ·rw [e2];unfold Dl;simp only [tnn];rw [bQ (by rw [h2.al];exact hnp),pJ (by omega),hn,hat]
   by_cases e:t=n
   ·subst e;rw [if_pos rfl,if_pos rfl];omega
   ·rw [if_neg e,if_neg (by omega),h3 t ht]
    rfl
theorem vS (hp:PV p) {s:LI} (hw:Whole p s):s.length<=21:=by
 have hl:=hp.vs.1;have key:∀ s:LI,(∀ v∈s,0<=v/\v<3)->s.length=s.count 0+s.count 1+s.count 2:=fun s=>by
  induction s with
  | nil=>intro _;rfl
  | cons a l ih=>
   intro h;have h1:=ih fun v hv=>h v (List.mem_cons_of_mem _ hv);have h2:=h a List.mem_cons_self;rw [List.length_cons,List.count_cons,List.count_cons,List.count_cons];simp only [beq_iff_eq];rcases (by omega:a=0\/a=1\/a=2) with rfl | rfl | rfl <;> simp <;> omega
 have hin:∀ v∈s,0<=v/\v<(p.length:Int):=fun v hv=>by
  obtain ⟨i,hi,e⟩:=List.getElem_of_mem hv;have := (hw.2.1 i hi).1;rw [gdq,geq hi] at this;rw [<- e];exact this
 have := key s fun v hv=>by have := hin v hv;omega
 have hc:∀ t:Nat,s.count (t:Int)<=7:=fun t=>by
  by_cases ht:t<p.length
  ·rw [hw.2.2 t ht];exact hp.vs.2 t
  ·rw [List.count_eq_zero.2 fun hm=>by have := hin _ hm;omega];omega
 have c0:s.count 0<=7:=hc 0;have c1:s.count 1<=7:=hc 1;have c2:s.count 2<=7:=hc 2;omega
theorem FQ {s r:LI}:∀ m,m<=s.length->uR p (s++r) m=uR p s m
 | 0,_=>rfl
 | m+1,hm=>by
  have e:(s++r).getD m default=s.getD m default:=by rw [gdq,gdq,gal (by omega)]
  rw [uR,uR,FQ m (by omega),e]
theorem FR {s:LI} {t:Nat} (hg:Good p s s.length) (ht:t<p.length) (h:s.count (t:Int)<(p.getD t default).length):Good p (s++[(t:Int)]) (s++[(t:Int)]).length:=fun j hj=>by
 rw [lla,List.length_singleton] at hj
 by_cases e:j=s.length
 ·subst e;have e1:(s++[(t:Int)]).getD s.length default=t:=by rw [gdq,gar (Nat.le_refl _)];simp
  rw [e1,List.take_append_of_le_length (Nat.le_refl _),List.take_length,tnn];exact ⟨⟨by omega,by omega⟩,h⟩
 ·have e1:(s++[(t:Int)]).getD j default=s.getD j default:=by rw [gdq,gdq,gal (by omega)]
  rw [e1,List.take_append_of_le_length (by omega)];exact hg j (by omega)
theorem FT (hp:PV p) {u:LJ} (h:Rea JB ⟨v0 p⟩ u):∃ s,Good p s s.length/\uR p s s.length=u.values/\∀ t:Nat,t<p.length->Z3b.get u.values.pc t=(s.count (t:Int):Int):=by
 induction h with
 | base=>exact ⟨[],fun j hj=>absurd hj (by simp),rfl,fun t _=>by
   show Z3b.get (v0 p).pc t=_;unfold v0;simp only [z3,List.count_nil]
   rfl⟩
 | @step u m hu hm ih=>
  obtain ⟨s,h1,h2,h3⟩:=ih;obtain ⟨t,g1,rfl,g2⟩:=nA.1 hm;have hI:=mD hp (Iv.start p) hu;have hl:=hp.vs.1;rw [hI.up] at g1;have hc:s.count (t:Int)<(p.getD t default).length:=by
   unfold Bb at g2;rw [hI.up,h3 t g1] at g2;have := of_decide_eq_true g2;omega
  refine ⟨s++[(t:Int)],FR h1 g1 hc,?_,fun i hi=>?_⟩
  ·rw [lla,List.length_singleton,uR,FQ _ (Nat.le_refl _),h2];have e1:(s++[(t:Int)]).getD s.length default=t:=by rw [gdq,gar (Nat.le_refl _)];simp
   rw [e1]
   rfl
  ·show Z3b.get (Di u.values t (ES u.values t)).pc i=_;unfold Di;simp only [];rw [ny _ _ _ _ (by omega) (by omega),List.count_append,List.count_singleton];simp only [beq_iff_eq]
   by_cases e:i=t
   ·subst e;rw [if_pos rfl,if_pos rfl,h3 i hi];omega
   ·rw [if_neg (by omega),if_neg (by omega),h3 i hi]
    rfl
theorem rC (hsz:p.length<=1048576/\total p<=1048576) {s:LI} (hw:Whole p s):aQ p s=some (xy (uR p s s.length),true)/\H5 p (xy (uR p s s.length)):=by
 have hp:=PV.of hw.1;have hsl:=vS hp hw;obtain ⟨o,b,r1,_,r3,r4⟩:=yE p hsz (s:=s) (by omega);obtain rfl:=r3.2 hw;obtain ⟨z0,e0,h0,ho⟩:=r4 rfl;obtain ⟨k1,k2,k3⟩:=Kb hp h0 hw.2.1 s.length (Nat.le_refl _);have hI:=mD hp (Iv.start p) k1;have e:xy (uR p s s.length)=o:=by
  have a1:=(tP hp k2).eq;have a2:=(Ci hp hI).eq;rw [a1] at a2;rw [ho];exact (osl a2).symm
 rw [e];refine ⟨r1,⟨_,k1,?_,e⟩⟩;show (yz (uR p s s.length)).isEmpty=true
 cases hm:yz (uR p s s.length) with
 | nil=>rfl
 | cons m l=>
  exfalso;obtain ⟨t,g1,_,g2⟩:=nA.1 (show m∈yz (uR p s s.length) by rw [hm];exact List.mem_cons_self);rw [k2.up] at g1;unfold Bb at g2;rw [k2.up,<- k2.a t g1,k3 t g1,List.take_length,hw.2.2 t g1] at g2;exact absurd (of_decide_eq_true g2) (by omega)
theorem FU (hv:bq (LR p)=true) {o:LI} (h:H5 p o):∃ s,Whole p s/\xy (uR p s s.length)=o:=by
 have hp:=PV.of hv;obtain ⟨u,h1,h2,h3⟩:=h;obtain ⟨s,g1,g2,g3⟩:=FT hp h1;have hI:=mD hp (Iv.start p) h1;have hl:=hp.vs.1;refine ⟨s,⟨hv,g1,fun t ht=>?_⟩,by rw [g2];exact h3⟩;have h4:(yz u.values).isEmpty=true:=h2;have h5:=hI.pc t (by omega);rw [g3 t ht] at h5;rcases Nat.lt_or_ge (s.count (t:Int)) (p.getD t default).length with h6 | h6
 ·exfalso;have : (t:Int)∈yz u.values:=nA.2 ⟨t,by rw [hI.up];exact ht,rfl,by unfold Bb;rw [hI.up,g3 t ht];exact decide_eq_true (by omega)⟩;rw [List.isEmpty_iff.1 h4] at this
  cases this
 ·omega
theorem Hk (hsz:p.length<=1048576/\total p<=1048576) {s:LI} (hw:Whole p s):∃ l,TrL p l/\xy (uR p l l.length)=xy (uR p s s.length):=by
 have hv:=hw.1;have hp:=PV.of hv;obtain ⟨l,b,_,_,hl,h4,h5⟩:=oU hv (vR hp (xO hw));obtain rfl:=h5 s hw rfl;obtain ⟨g1,g2⟩:=h4 rfl;refine ⟨l,g1,?_⟩;have hsl:=vS hp hw;obtain ⟨o,r1,r2,_⟩:=zQ hsz (s:=l) (s':=s) (by omega) (by omega) g1.1 hw g2;rw [(rC hsz g1.1).1] at r1;rw [(rC hsz hw).1] at r2;exact (Prod.mk.inj (osl (r1.trans r2.symm))).1
end
def ib (code:LI):Option ae:= Option.bind (bif decide ((2000:Int)<(code.length:Int)) then gd (decide (0<=(0:Int)/\(0:Int)<=(2000:Int)/\(2000:Int)<=(code.length:Int))) <|some ((code.drop (0:Int).toNat).take ((2000:Int).toNat-(0:Int).toNat)) else some code) fun s1=>some (⟨s1,(0:Int)⟩:ae)
def ay (r_:ae) (n:Int):Option (ae×Int):= gd (LB .i64 (r_.p+(1:Int))) <|Option.bind (bif decide (n<(1:Int)) then some true else some ((r_.b.length:Int)==(0:Int))) fun s2=>bif s2 then some ((⟨r_.b,(r_.p+(1:Int))⟩:ae),(0:Int)) else gd (LB .i64 ((r_.p+(1:Int))-(1:Int))) <|bif decide (((r_.p+(1:Int))-(1:Int))<(r_.b.length:Int)) then gd (decide (0<=((r_.p+(1:Int))-(1:Int))/\((r_.p+(1:Int))-(1:Int))<(r_.b.length:Int))) <|gd (LB .i64 (r_.b.getD ((r_.p+(1:Int))-(1:Int)).toNat default)) <|gd (decide (n≠0)) <|some ((⟨r_.b,(r_.p+(1:Int))⟩:ae),((r_.b.getD ((r_.p+(1:Int))-(1:Int)).toNat default).tmod n)) else gd (decide ((r_.b.length:Int)≠0)) <|gd (decide (0<=(((r_.p+(1:Int))-(1:Int)).tmod (r_.b.length:Int))/\(((r_.p+(1:Int))-(1:Int)).tmod (r_.b.length:Int))<(r_.b.length:Int))) <|gd (LB .i64 (r_.b.getD (((r_.p+(1:Int))-(1:Int)).tmod (r_.b.length:Int)).toNat default)) <|gd (LB .i64 ((r_.b.getD (((r_.p+(1:Int))-(1:Int)).tmod (r_.b.length:Int)).toNat default)*(131:Int))) <|gd (LB .i64 (((r_.p+(1:Int))-(1:Int))*(7:Int))) <|gd (LB .i64 ((((r_.p+(1:Int))-(1:Int))*(7:Int))+(3:Int))) <|gd (decide (0<=(((((r_.p+(1:Int))-(1:Int))*(7:Int))+(3:Int)).tmod (r_.b.length:Int))/\(((((r_.p+(1:Int))-(1:Int))*(7:Int))+(3:Int)).tmod (r_.b.length:Int))<(r_.b.length:Int))) <|gd (LB .i64 (r_.b.getD (((((r_.p+(1:Int))-(1:Int))*(7:Int))+(3:Int)).tmod (r_.b.length:Int)).toNat default)) <|gd (LB .i64 ((r_.b.getD (((((r_.p+(1:Int))-(1:Int))*(7:Int))+(3:Int)).tmod (r_.b.length:Int)).toNat default)*(1117:Int))) <|gd (LB .i64 (((r_.b.getD (((r_.p+(1:Int))-(1:Int)).tmod (r_.b.length:Int)).toNat default)*(131:Int))+((r_.b.getD (((((r_.p+(1:Int))-(1:Int))*(7:Int))+(3:Int)).tmod (r_.b.length:Int)).toNat default)*(1117:Int)))) <|gd (LB .i64 (((r_.p+(1:Int))-(1:Int))*(29:Int))) <|gd (LB .i64 ((((r_.b.getD (((r_.p+(1:Int))-(1:Int)).tmod (r_.b.length:Int)).toNat default)*(131:Int))+((r_.b.getD (((((r_.p+(1:Int))-(1:Int))*(7:Int))+(3:Int)).tmod (r_.b.length:Int)).toNat default)*(1117:Int)))+(((r_.p+(1:Int))-(1:Int))*(29:Int)))) <|gd (LB .i64 (((r_.p+(1:Int))-(1:Int)).tdiv (r_.b.length:Int))) <|gd (LB .i64 ((((r_.p+(1:Int))-(1:Int)).tdiv (r_.b.length:Int))*(53:Int))) <|gd (LB .i64 (((((r_.b.getD (((r_.p+(1:Int))-(1:Int)).tmod (r_.b.length:Int)).toNat default)*(131:Int))+((r_.b.getD (((((r_.p+(1:Int))-(1:Int))*(7:Int))+(3:Int)).tmod (r_.b.length:Int)).toNat default)*(1117:Int)))+(((r_.p+(1:Int))-(1:Int))*(29:Int)))+((((r_.p+(1:Int))-(1:Int)).tdiv (r_.b.length:Int))*(53:Int)))) <|gd (decide ((64:Int)≠0)) <|gd (LB .i64 ((((((r_.b.getD (((r_.p+(1:Int))-(1:Int)).tmod (r_.b.length:Int)).toNat default)*(131:Int))+((r_.b.getD (((((r_.p+(1:Int))-(1:Int))*(7:Int))+(3:Int)).tmod (r_.b.length:Int)).toNat default)*(1117:Int)))+(((r_.p+(1:Int))-(1:Int))*(29:Int)))+((((r_.p+(1:Int))-(1:Int)).tdiv (r_.b.length:Int))*(53:Int))).tdiv (64:Int))) <|Option.bind (some (Ks .i64 (((((r_.b.getD (((r_.p+(1:Int))-(1:Int)).tmod (r_.b.length:Int)).toNat default)*(131:Int))+((r_.b.getD (((((r_.p+(1:Int))-(1:Int))*(7:Int))+(3:Int)).tmod (r_.b.length:Int)).toNat default)*(1117:Int)))+(((r_.p+(1:Int))-(1:Int))*(29:Int)))+((((r_.p+(1:Int))-(1:Int)).tdiv (r_.b.length:Int))*(53:Int))) ((((((r_.b.getD (((r_.p+(1:Int))-(1:Int)).tmod (r_.b.length:Int)).toNat default)*(131:Int))+((r_.b.getD (((((r_.p+(1:Int))-(1:Int))*(7:Int))+(3:Int)).tmod (r_.b.length:Int)).toNat default)*(1117:Int)))+(((r_.p+(1:Int))-(1:Int))*(29:Int)))+((((r_.p+(1:Int))-(1:Int)).tdiv (r_.b.length:Int))*(53:Int))).tdiv (64:Int)))) fun w27=>gd (decide (n≠0)) <|some ((⟨r_.b,(r_.p+(1:Int))⟩:ae),(w27.tmod n))
def bD (r_:ae) (list:LI):Option (ae×Int):= Option.bind (ay (⟨r_.b,r_.p⟩:ae) (list.length:Int)) fun v1=>gd (decide (0<=v1.2/\v1.2<(list.length:Int))) <|some ((⟨v1.1.b,v1.1.p⟩:ae),(list.getD v1.2.toNat default))
section
variable {α:Type} {r:Option α}
theorem jm {n:Int} {x:Option α} (h : -9223372036854775808<=n/\n<=9223372036854775807) (hx:x=r):gd (LB .i64 n) x=r:=by rw [iS (BM h)];exact hx
theorem rD {A:Prop} [Decidable A] {x:Option α} (h:A) (hx:x=r):gd (decide A) x=r:=by rw [iS (decide_eq_true h)];exact hx
theorem FV {b:Bool} {x y:Option α} (h:b=true) (hx:x=r):(bif b then x else y)=r:=by rw [h];exact hx
theorem Bt {b:Bool} {x y:Option α} (h:b=false) (hx:y=r):(bif b then x else y)=r:=by rw [h];exact hx
theorem sP {β:Type} {o:Option β} {k:β->Option α} {v:β} (h:o=some v) (hx:k v=r):o.bind k=r:=by rw [h];exact hx
end
def Bts (b:LI):Prop:=b.length<=1048576/\∀ y∈b,0<=y/\y<=255
theorem Bts.get {b:LI} (h:Bts b) (k:Nat):0<=b.getD k default/\b.getD k default<=255:=by
 rw [gdq]
 by_cases hk:k<b.length
 ·rw [geq hk];exact h.2 _ (List.getElem_mem _)
 ·rw [List.getElem?_eq_none (by omega)];exact ⟨by decide,by decide⟩
theorem Hl {m n:Int} (hm:0<=m/\m<=1000000000000) (hn:0<=n/\n<=1000000000000):0<=Ks .i64 m n:=by
 have e1:∀ x:Int,0<=x->x<=1000000000000->(BitVec.ofInt 64 x).toNat<2 ^ 62:=by
  intro x h1 h2;rw [BitVec.toNat_ofInt];have : x % ((2:Nat) ^ 64:Nat)=x:=by
   rw [Int.emod_eq_of_lt h1];omega
  omega
 have h3:(BitVec.ofInt 64 m ^^^ BitVec.ofInt 64 n).toNat<2 ^ 62:=by
  rw [BitVec.toNat_xor];exact Nat.xor_lt_two_pow (e1 m hm.1 hm.2) (e1 n hn.1 hn.2)
 have h4:=IntWalk.i64_in (((BitVec.ofInt 64 m ^^^ BitVec.ofInt 64 n).toNat:Nat):Int) ⟨by omega,by omega⟩;unfold Ks;rw [show IntKind.i64.bits=64 from rfl,h4];omega
theorem Hm {a n:Int} (ha:0<=a) (hn:0<n):0<=a.tmod n/\a.tmod n<n:=by
 rw [Int.tmod_eq_emod_of_nonneg ha];exact ⟨Int.emod_nonneg _ (by omega),Int.emod_lt_of_pos _ hn⟩
theorem Kc {a n:Int} (ha:0<=a) (hn:0<=n):0<=a.tdiv n/\a.tdiv n<=a:=by
 rw [Int.tdiv_eq_ediv_of_nonneg ha];exact ⟨Int.ediv_nonneg ha hn,Int.ediv_le_self _ ha⟩
theorem FW {b:LI} {p:Int} (hb:Bts b) (hp:0<=p/\p<=100000000) (n:Int):∃ v,ay ⟨b,p⟩ n=some (⟨b,p+1⟩,v)/\0<=v/\(v<n\/v=0):=by
 have hl:=hb.1;have e1:p+1-1=p:=by omega
 unfold ay;simp only [e1]
 by_cases h0:n<1\/b.length=0
 ·refine ⟨0,?_,Int.le_refl _,.inr rfl⟩;refine jm (by omega) ?_;refine sP (v:=true) ?_ (FV rfl rfl)
  by_cases hn:n<1
  ·exact FV (by simp [hn]) rfl
  ·refine Bt (by simp [hn]) ?_;have : b.length=0:=by omega
   simp [this]
 ·have hn:1<=n:=by omega
  have hl0:0<(b.length:Int):=by omega
  by_cases hlt:p<(b.length:Int)
  ·have hg:=hb.get p.toNat;have hv:=Hm hg.1 (show (0:Int)<n by omega);refine ⟨(b.getD p.toNat default).tmod n,?_,hv.1,.inl hv.2⟩;refine jm (by omega) ?_;refine sP (v:=false) (Bt (by simp;omega) (congrArg some (beq_eq_false_iff_ne.2 (by omega)))) (Bt rfl ?_);refine jm (by omega) (FV (by simpa using hlt) ?_);exact rD (by omega) (jm (by omega) (rD (by omega) rfl))
  ·have h1:=Hm hp.1 hl0;have h2:=Kc hp.1 (show 0<=(b.length:Int) by omega);have h3:=Hm (a:=p*7+3) (by omega) hl0;have h4:=hb.get (p.tmod (b.length:Int)).toNat;have h5:=hb.get ((p*7+3).tmod (b.length:Int)).toNat;have hx:0<=(b.getD (p.tmod (b.length:Int)).toNat default)*131+(b.getD ((p*7+3).tmod (b.length:Int)).toNat default)*1117+p*29+p.tdiv (b.length:Int)*53 /\
    (b.getD (p.tmod (b.length:Int)).toNat default)*131+(b.getD ((p*7+3).tmod (b.length:Int)).toNat default)*1117+p*29+p.tdiv (b.length:Int)*53<=1000000000000:=by omega
   have h6:=Kc hx.1 (show (0:Int)<=64 by omega);have h7:=Hl hx ⟨h6.1,Int.le_trans h6.2 hx.2⟩;have hv:=Hm h7 (show (0:Int)<n by omega);refine ⟨_,?_,hv.1,.inl hv.2⟩;refine jm (by omega) ?_;refine sP (v:=false) (Bt (by simp;omega) (congrArg some (beq_eq_false_iff_ne.2 (by omega)))) (Bt rfl ?_);refine jm (by omega) (Bt (by simpa using hlt) ?_);refine rD (by omega) (rD h1 (jm (by omega) (jm (by omega) (jm (by omega) (jm (by omega) (rD h3 (jm (by omega) ?_)))))));refine jm (by omega) (jm (by omega) (jm (by omega) (jm (by omega) (jm (by omega) (jm (by omega) (jm (by omega) ?_))))));refine rD (by omega) (jm (by omega) (rD (by omega) rfl))
theorem Ke {b:LI} {p:Int} (hb:Bts b) (hp:0<=p/\p<=100000000) (l:LI) (hl:l≠[]):∃ v,bD ⟨b,p⟩ l=some (⟨b,p+1⟩,v)/\v∈l:=by
 obtain ⟨v,h1,h2,h3⟩:=FW hb hp (l.length:Int);have hpos:0<l.length:=List.length_pos_iff.2 hl;have h4:v<(l.length:Int):=by omega
 refine ⟨l.getD v.toNat default,?_,?_⟩
 ·unfold bD;exact sP h1 (rD ⟨h2,h4⟩ rfl)
 ·rw [gdq,geq (by omega)];exact List.getElem_mem _
theorem Jm {b:LI} (hb:Bts b):∃ b',ib b=some ⟨b',0⟩/\Bts b':=by
 unfold ib
 by_cases h:(2000:Int)<(b.length:Int)
 ·refine ⟨_,sP (FV (by simpa using h) (rD (by omega) rfl)) rfl,?_,fun y hy=>?_⟩
  ·rw [List.length_take];omega
  ·exact hb.2 y (List.mem_of_mem_drop (List.mem_of_mem_take hy))
 ·exact ⟨b,sP (Bt (by simpa using h) rfl) rfl,hb⟩
def Rd (k:Int) (r:ae):Prop:=Bts r.b/\0<=r.p/\r.p<=k
theorem Rd.mono {k k':Int} {r:ae} (h:Rd k r) (hk:k<=k'):Rd k' r:=⟨h.1,h.2.1,by have := h.2.2;omega⟩
theorem Rd.mk' {k:Int} {r:ae} (h:Rd k r):Rd k ⟨r.b,r.p⟩:=h
theorem jo {k:Int} {r:ae} (h:Rd k r) (hk:k<=100000000) (n:Int):LN (ay r n) fun v=>Rd (k+1) v.1/\0<=v.2/\(v.2<n\/v.2=0):=by
 obtain ⟨b,p⟩:=r;obtain ⟨h1,h2,h3⟩:=h;obtain ⟨v,e,h4,h5⟩:=FW h1 (p:=p) ⟨h2,by simp only at h3;omega⟩ n;exact ⟨_,e,⟨h1,by simp only at h2 ⊢;omega,by simp only at h3 ⊢;omega⟩,h4,h5⟩
theorem vT {k:Int} {r:ae} (h:Rd k r) (hk:k<=100000000) (l:LI) (hl:l≠[]):LN (bD r l) fun v=>Rd (k+1) v.1/\v.2∈l:=by
 obtain ⟨b,p⟩:=r;obtain ⟨h1,h2,h3⟩:=h;obtain ⟨v,e,h4⟩:=Ke h1 (p:=p) ⟨h2,by simp only at h3;omega⟩ l hl;exact ⟨_,e,⟨h1,by simp only at h2 ⊢;omega,by simp only at h3 ⊢;omega⟩,h4⟩
theorem Hn {b:LI} (h:Bts b):LN (ib b) (Rd 0):=by
 obtain ⟨b',e,h'⟩:=Jm h;exact ⟨_,e,h',Int.le_refl _,Int.le_refl _⟩
end
end Go.Proofs.YtlmjnhnpahicmaaGreat
