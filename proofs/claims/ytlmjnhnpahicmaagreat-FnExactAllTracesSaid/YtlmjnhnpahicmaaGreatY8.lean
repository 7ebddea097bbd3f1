/- Texts joined. No conditions. -/
import Derived.Test.YtlmjnhnpahicmaaGreatY7
namespace Go.Proofs.YtlmjnhnpahicmaaGreat
noncomputable section
open Go.RowKit
set_option maxRecDepth 100000
theorem rq {α:Type} {Q:List α->Prop} (h0:Q []) (hs:∀ l a,Q l->Q (l++[a])) (l:List α):Q l:=by
 have key:∀ m:List α,Q m.reverse:=fun m=>by
  induction m with
  | nil=>exact h0
  | cons a m ih=>rw [List.reverse_cons];exact hs _ _ ih
 have h:=key l.reverse
 rwa [List.reverse_reverse] at h
section
variable {p:List (List Jh)}
def ev (p:List (List Jh)) (n:Int):Jj:=(evs p).getD n.toNat default
def Wl (p:List (List Jh)) (l:Int) (n:Int):Bool:=(ev p n).Writes&&decide ((ev p n).Loc=l)
theorem vU (o:LI):(∀ n∈o,OkN p n)->∀ l:Nat,l<3->(nE p o).2.getD l []=(l:Int)::o.filter (Wl p (l:Int)):=by
 induction o using rq with
 | h0=>
  intro _ l hl
  match l,hl with
  | 0,_=>rfl
  | 1,_=>rfl
  | 2,_=>rfl
 | hs o n ih=>
  intro hok l hl;have hok':∀ m∈o,OkN p m:=fun m hm=>hok m (List.mem_append_left _ hm);have ih:=ih hok';obtain ⟨h1,h2,h3⟩:=hok n (by simp);have hin:=InX.run hok';have hloc:(((evs p).getD n.toNat default).Loc.toNat:Int)=((evs p).getD n.toNat default).Loc:=Int.toNat_of_nonneg h2;rw [sN];unfold stX;simp only [];rw [oz (by rw [hin.o];omega),List.filter_append]
  by_cases e:l=((evs p).getD n.toNat default).Loc.toNat
  ·subst e;rw [if_pos rfl,ih _ (by omega)]
   by_cases hw:((evs p).getD n.toNat default).Writes=true
   ·have : Wl p (((evs p).getD n.toNat default).Loc.toNat:Int) n=true:=by
     unfold Wl ev;rw [hw,hloc];simp
    rw [if_pos hw,List.filter_cons_of_pos this]
    rfl
   ·have : ¬ Wl p (((evs p).getD n.toNat default).Loc.toNat:Int) n=true:=by
     unfold Wl ev;rw [Bool.eq_false_iff.2 hw];simp
    rw [if_neg hw,List.filter_cons_of_neg this];simp
  ·have : ¬ Wl p (l:Int) n=true:=by
    unfold Wl ev;simp only [bae,dte,not_and];intro _ hc;exact e (by omega)
   rw [if_neg e,ih l hl,List.filter_cons_of_neg this];simp
theorem F5 (o:LI) (h:∀ n∈o,OkN p n):(nE p o).1.length=(evs p).length/\(nE p o).2.length=3:=⟨(InX.run h).f,(InX.run h).o⟩
theorem zL (o:LI):o.Nodup->(∀ n∈o,OkN p n)->(∀ i:Int,i∈o->(ev p i).Reads=true->∃ o1 o2,o=o1++i::o2/\(nE p o).1.getD i.toNat default=((ev p i).Loc::o1.filter (Wl p (ev p i).Loc)).getD (o1.filter (Wl p (ev p i).Loc)).length default) /\
  ∀ i:Nat,i<(evs p).length -> ¬ ((i:Int)∈o/\(ev p i).Reads=true)->(nE p o).1.getD i default = -1:=by
 induction o using rq with
 | h0=>
  intro _ _;refine ⟨fun i hi=>by simp at hi,fun i hi _=>?_⟩;show (List.replicate (evs p).length (-1:Int)).getD i default = -1;rw [gdq,List.getElem?_replicate,if_pos hi]
  rfl
 | hs o n ih=>
  intro hnd hok;have hok':∀ m∈o,OkN p m:=fun m hm=>hok m (List.mem_append_left _ hm);obtain ⟨hnd1,_,hnd2⟩:=List.nodup_append.1 hnd;have hno:n∉o:=fun hm=>hnd2 n hm n (by simp) rfl;obtain ⟨ih1,ih2⟩:=ih hnd1 hok';obtain ⟨h1,h2,h3⟩:=hok n (by simp);have hin:=InX.run hok';have hloc:(((evs p).getD n.toNat default).Loc.toNat:Int)=((evs p).getD n.toNat default).Loc:=Int.toNat_of_nonneg h2;have hord:=vU o hok' ((evs p).getD n.toNat default).Loc.toNat (by omega);rw [sN];unfold stX;simp only [];rw [hord];have key:∀ j:Nat,(if ((evs p).getD n.toNat default).Reads=true then (nE p o).1.set n.toNat (((((evs p).getD n.toNat default).Loc.toNat:Int)::o.filter (Wl p (((evs p).getD n.toNat default).Loc.toNat:Int))).getD (((((((evs p).getD n.toNat default).Loc.toNat:Int)::o.filter (Wl p (((evs p).getD n.toNat default).Loc.toNat:Int))).length:Nat):Int)-1).toNat default) else (nE p o).1).getD j default =
    if j=n.toNat/\(ev p n).Reads=true then ((ev p n).Loc::o.filter (Wl p (ev p n).Loc)).getD (o.filter (Wl p (ev p n).Loc)).length default else (nE p o).1.getD j default:=fun j=>by
   rw [hloc]
   by_cases hr:((evs p).getD n.toNat default).Reads=true
   ·rw [if_pos hr,bq (by rw [hin.f];omega)]
    by_cases e:j=n.toNat
    ·rw [if_pos e,if_pos ⟨e,hr⟩];unfold ev
     congr 1
     rw [llc];omega
    ·rw [if_neg e,if_neg fun h=>e h.1]
   ·rw [if_neg hr,if_neg fun h=>hr h.2]
  refine ⟨fun i hi hr=>?_,fun i hi hn=>?_⟩
  ·by_cases e:i=n
   ·subst e;refine ⟨o,[],rfl,?_⟩;rw [key,if_pos ⟨rfl,hr⟩]
   ·have hio:i∈o:=by
     rcases List.mem_append.1 hi with h | h
     ·exact h
     ·exact absurd (List.mem_singleton.1 h) e
    obtain ⟨o1,o2,e1,e2⟩:=ih1 i hio hr;refine ⟨o1,o2++[n],by rw [e1];simp,?_⟩;have := (hok' i hio).1;rw [key,if_neg (fun h=>e (by omega)),e2]
  ·have e : ¬ (i=n.toNat/\(ev p n).Reads=true):=fun h=>hn ⟨by
    rw [show (i:Int)=n by omega];simp,by rw [show (i:Int)=n by omega];exact h.2⟩
   rw [key,if_neg e];exact ih2 i hi fun h=>hn ⟨List.mem_append_left _ h.1,h.2⟩
theorem CI (t:Nat) (row:List Jh):∀ (r j:Nat),j<(evR t row r).length->∃ k,k<r /\ ¬ (row.getD k default).Op=4/\j=(evR t row k).length
 | 0,j,h=>by simp [evR] at h
 | r+1,j,h=>by
  rcases Nat.lt_or_ge j (evR t row r).length with hj | hj
  ·obtain ⟨k,h1,h2,h3⟩:=CI t row r j hj;exact ⟨k,by omega,h2,h3⟩
  ·simp only [evR,lla] at h;have h1:=Cw t r (row.getD r default);refine ⟨r,by omega,fun ho=>?_,by omega⟩;have : (evI t r (row.getD r default)).length=0:=by unfold evI;rw [if_pos ho];rfl
   omega
theorem CJ:∀ (m n:Nat),n<(evP p m).length->n<3\/∃ t k,t<m/\k<(p.getD t default).length /\ ¬ ((p.getD t default).getD k default).Op=4/\n=base p t k
 | 0,n,h => .inl h
 | m+1,n,h=>by
  rcases Nat.lt_or_ge n (evP p m).length with hn | hn
  ·rcases CJ m n hn with h1 | ⟨t,k,h1,h2,h3,h4⟩
   ·exact .inl h1
   ·exact .inr ⟨t,k,by omega,h2,h3,h4⟩
  ·simp only [evP,lla] at h;obtain ⟨k,h1,h2,h3⟩:=CI m (p.getD m default) (p.getD m default).length (n-(evP p m).length) (by omega);exact .inr ⟨m,k,by omega,h1,h2,by unfold base;omega⟩
theorem yN (t k:Nat):3<=base p t k:=by
 have := (sK p (Nat.zero_le t)).length_le;have h3:(evP p 0).length=3:=rfl;unfold base;omega
structure Isn (p:List (List Jh)) (a b:Nat):Prop where
 t:a<p.length
 k:b<(p.getD a default).length
 o : ¬ ((p.getD a default).getD b default).Op=4
def ins (p:List (List Jh)) (t k:Nat):Jh:=(p.getD t default).getD k default
theorem Isn.ev {t k:Nat} (h:Isn p t k):ev p (base p t k:Int)=⟨t,k,(ins p t k).Loc,rdX (ins p t k),wrX (ins p t k)⟩/\base p t k<(evs p).length:=by
 have := Fc h.t h.k h.o;exact ⟨by unfold Go.Proofs.YtlmjnhnpahicmaaGreat.ev;rw [tnn];exact this.1,this.2⟩
theorem iV {l:Nat} (hl:l<3):ev p (l:Int)=⟨-1,l,l,false,true⟩/\l<(evs p).length:=by
 obtain ⟨h1,h2⟩:=zJ (sK p (Nat.zero_le p.length)) (i:=l) (by exact hl);refine ⟨?_,h2⟩;unfold ev;rw [tnn];refine h1.trans ?_
 match l,hl with
 | 0,_=>rfl
 | 1,_=>rfl
 | 2,_=>rfl
theorem dX {n:Int} (h0:0<=n) (h:n<((evs p).length:Int)):n<3\/∃ t k,Isn p t k/\n=(base p t k:Int):=by
 rcases CJ p.length n.toNat (by show _<(evs p).length;omega) with h1 | ⟨t,k,h1,h2,h3,h4⟩
 ·exact .inl (by omega)
 ·exact .inr ⟨t,k,⟨h1,h2,h3⟩,by omega⟩
theorem ru {t k t' k':Nat} (h:Isn p t k) (h':Isn p t' k') (e:base p t k=base p t' k'):t=t'/\k=k':=by
 have h1:=h.ev.1;rw [e,h'.ev.1] at h1;injection h1 with e1 e2;exact ⟨by omega,by omega⟩
structure OrdI (p:List (List Jh)) (s:List Int) (m:Nat):Prop where
 mem:∀ n:Int,n∈fw p s m↔∃ t k:Nat,Isn p t k/\k<(s.take m).count (t:Int)/\n=(base p t k:Int)
 pw:(fw p s m).Pairwise fun i k=>i≠k/\((ev p i).Thread=(ev p k).Thread->(ev p i).Index<(ev p k).Index)
theorem OrdI.all {s:LI} (hg:Good p s s.length):∀ {m:Nat},m<=s.length->OrdI p s m
 | 0,_=>⟨fun n=>⟨fun h=>by simp [fw] at h,fun ⟨t,k,_,h,_⟩=>by simp at h⟩,by simp [fw]⟩
 | m+1,hm=>by
  have ih:=OrdI.all hg (m:=m) (by omega);obtain ⟨g1,g2,g3⟩:=yM hg (j:=m) (by omega);have hc:∀ v:Int,(s.take (m+1)).count v=(s.take m).count v+if s.getD m default=v then 1 else 0:=fun v=>mL (by omega) v;have hk:Jq s m=(s.take m).count ((Jp s m:Nat):Int):=by rw [g2];rfl
  have new:∀ n:Int,n∈p5 p (Jp s m) (Jq s m)↔Isn p (Jp s m) (Jq s m)/\n=(base p (Jp s m) (Jq s m):Int):=fun n=>by
   unfold p5
   split
   ·rename_i ho;exact ⟨fun h=>by simp at h,fun h=>absurd ho h.1.o⟩
   ·rename_i ho;rw [List.mem_singleton];exact ⟨fun h=>⟨⟨g1,g3,ho⟩,h⟩,fun h=>h.2⟩
  refine ⟨fun n=>?_,?_⟩
  ·simp only [fw,List.mem_append,new,ih.mem]
   constructor
   ·rintro (⟨t,k,h1,h2,h3⟩ | ⟨h1,h2⟩)
    ·exact ⟨t,k,h1,by rw [hc];omega,h3⟩
    ·exact ⟨_,_,h1,by rw [hc,if_pos g2.symm];omega,h2⟩
   ·rintro ⟨t,k,h1,h2,h3⟩;rw [hc] at h2
    by_cases e:s.getD m default=(t:Int)
    ·rw [if_pos e] at h2;have ht:Jp s m=t:=by omega
     subst ht;rcases Nat.lt_or_ge k ((s.take m).count ((Jp s m:Nat):Int)) with hlt | hge
     ·exact .inl ⟨_,k,h1,hlt,h3⟩
     ·have : k=Jq s m:=by omega
      subst this;exact .inr ⟨h1,h3⟩
    ·rw [if_neg e] at h2;exact .inl ⟨t,k,h1,by omega,h3⟩
  ·simp only [fw];refine List.pairwise_append.2 ⟨ih.pw,?_,fun a ha b hb=>?_⟩
   ·unfold p5
    split <;> simp
   ·obtain ⟨t,k,h1,h2,rfl⟩:=(ih.mem a).1 ha;obtain ⟨h3,rfl⟩:=(new b).1 hb;have key:t=Jp s m->k<Jq s m:=fun e=>by rw [hk,<- e];exact h2
    refine ⟨fun e=>?_,fun e=>?_⟩
    ·obtain ⟨e1,e2⟩:=ru h1 h3 (by omega);have := key e1;omega
    ·rw [h1.ev.1,h3.ev.1] at e ⊢;simp only at e ⊢;have := key (by omega);omega
theorem W3:∀ l:Nat,l<3->([0,1,2]:LI).filter (Wl p (l:Int))=[(l:Int)]:=fun l hl=>by
 have w:∀ j:Nat,j<3->Wl p (l:Int) (j:Int)=decide ((j:Int)=(l:Int)):=fun j hj=>by
  unfold Wl;rw [(iV (p:=p) hj).1];simp
 have w0:Wl p (l:Int) 0=decide ((0:Int)=(l:Int)):=w 0 (by omega);have w1:Wl p (l:Int) 1=decide ((1:Int)=(l:Int)):=w 1 (by omega);have w2:Wl p (l:Int) 2=decide ((2:Int)=(l:Int)):=w 2 (by omega)
 match l,hl with
 | 0,_=>
  have a0:Wl p (0:Int) 0=true:=w0;have a1:Wl p (0:Int) 1=false:=w1;have a2:Wl p (0:Int) 2=false:=w2;simp [a0,a1,a2]
 | 1,_=>
  have a0:Wl p (1:Int) 0=false:=w0;have a1:Wl p (1:Int) 1=true:=w1;have a2:Wl p (1:Int) 2=false:=w2;simp [a0,a1,a2]
 | 2,_=>
  have a0:Wl p (2:Int) 0=false:=w0;have a1:Wl p (2:Int) 1=false:=w1;have a2:Wl p (2:Int) 2=true:=w2;simp [a0,a1,a2]
abbrev rk (F:LI) (n:Int):Nat:=F.idxOf n
structure RunOf (p:List (List Jh)) (x:XS) (F:List Int):Prop where
 ini:∃ o,F=[0,1,2]++o
 nd:F.Nodup
 mem:∀ n:Int,n∈F↔0<=n/\n<((evs p).length:Int)
 po:∀ i k:Int,i∈F->k∈F->0<=(ev p i).Thread->(ev p i).Thread=(ev p k).Thread->(ev p i).Index<(ev p k).Index->rk F i<rk F k
 ord:∀ l:Nat,l<3->x.2.getD l []=F.filter (Wl p (l:Int))
 flen:x.1.length=(evs p).length
 olen:x.2.length=3
 frm:∀ i:Int,i∈F->(ev p i).Reads=true->∃ c,c<(F.filter (Wl p (ev p i).Loc)).length/\x.1.getD i.toNat default=(F.filter (Wl p (ev p i).Loc)).getD c default/\∀ q,q<(F.filter (Wl p (ev p i).Loc)).length->(q<=c↔rk F ((F.filter (Wl p (ev p i).Loc)).getD q default)<rk F i)
 frN:∀ i:Int,i∈F->(ev p i).Reads=false->x.1.getD i.toNat default = -1
theorem oD (hp:PV p) {s:LI} (hw:Whole p s):RunOf p (nE p (fw p s s.length)) ([0,1,2]++fw p s s.length):=by
 obtain ⟨_,hg,hc⟩:=hw;have hI:=OrdI.all hg (Nat.le_refl s.length);have hok:=zK hp hg (Nat.le_refl s.length);have hmem:∀ n:Int,n∈fw p s s.length↔3<=n/\n<((evs p).length:Int):=fun n=>by
  rw [hI.mem]
  constructor
  ·rintro ⟨t,k,h1,_,rfl⟩;have := yN (p:=p) t k;have := h1.ev.2;omega
  ·rintro ⟨h1,h2⟩;rcases dX (by omega) h2 with h3 | ⟨t,k,h3,rfl⟩
   ·omega
   ·exact ⟨t,k,h3,by rw [List.take_length,hc t h3.t];exact h3.k,rfl⟩
 have hnd0:(fw p s s.length).Nodup:=hI.pw.imp fun h=>h.1;have hF:∀ n:Int,n∈[0,1,2]++fw p s s.length↔0<=n/\n<((evs p).length:Int):=fun n=>by
  have h3:=(iV (p:=p) (l:=2) (by omega)).2;rw [List.mem_append,hmem];simp only [List.mem_cons,List.not_mem_nil,or_false];omega
 have hnd:([0,1,2]++fw p s s.length).Nodup:=by
  refine List.nodup_append.2 ⟨by decide,hnd0,fun a ha b hb e=>?_⟩;subst e;have := (hmem a).1 hb;simp only [List.mem_cons,List.not_mem_nil,or_false] at ha;omega
 have hpw:=hI.pw;generalize ho:fw p s s.length=o at *;have hW:=W3 (p:=p);obtain ⟨f1,f2⟩:=zL o hnd0 hok;obtain ⟨l1,l2⟩:=F5 o hok;refine ⟨⟨o,rfl⟩,hnd,hF,fun i k hi hk h0 he hlt=>?_,fun l hl=>?_,l1,l2,fun i hi hr=>?_,fun i hi hr=>?_⟩
 ·-- a thread's events come in their order
  have nz:∀ n:Int,n∈[0,1,2]++o->0<=(ev p n).Thread->n∉([0,1,2]:LI)/\n∈o:=fun n hn ht=>by
   obtain ⟨g1,g2⟩:=(hF n).1 hn;rcases dX g1 g2 with g3 | ⟨t,k,g3,rfl⟩
   ·have := (iV (p:=p) (l:=n.toNat) (by omega)).1;rw [Int.toNat_of_nonneg g1] at this;rw [this] at ht;simp at ht
   ·have := yN (p:=p) t k;refine ⟨fun h=>?_,(hmem _).2 ⟨by omega,g2⟩⟩;simp only [List.mem_cons,List.not_mem_nil,or_false] at h;omega
  obtain ⟨a1,a2⟩:=nz i hi h0;obtain ⟨b1,b2⟩:=nz k hk (by omega);unfold rk;rw [List.idxOf_append,if_neg a1,List.idxOf_append,if_neg b1];have pw:=List.pairwise_iff_getElem.1 hpw;have la:=List.idxOf_lt_length_of_mem a2;have lb:=List.idxOf_lt_length_of_mem b2;have ga:o[o.idxOf i]=i:=List.getElem_idxOf la;have gb:o[o.idxOf k]=k:=List.getElem_idxOf lb;rcases Nat.lt_trichotomy (o.idxOf i) (o.idxOf k) with h | h | h
  ·omega
  ·exfalso;have : i=k:=by rw [<- ga,<- gb];simp only [h]
   subst this;omega
  ·exfalso;have := (pw _ _ lb la h).2;rw [ga,gb] at this;have := this he.symm;omega
 ·rw [vU o hok l hl,List.filter_append,hW l hl]
  rfl
 ·have hio:i∈o:=by
   rcases List.mem_append.1 hi with h | h
   ·exfalso;obtain ⟨g1,g2⟩:=(hF i).1 hi;have g3:i<3:=by
     simp only [List.mem_cons,List.not_mem_nil,or_false] at h;omega
    have := (iV (p:=p) (l:=i.toNat) (by omega)).1;rw [Int.toNat_of_nonneg g1] at this;rw [this] at hr
    cases hr
   ·exact h
  obtain ⟨o1,o2,e1,e2⟩:=f1 i hio hr;have hloc:=hok i hio;have hl3:((ev p i).Loc.toNat:Int)=(ev p i).Loc:=Int.toNat_of_nonneg hloc.2.1;have hA:([0,1,2]++o1).filter (Wl p (ev p i).Loc)=(ev p i).Loc::o1.filter (Wl p (ev p i).Loc):=by
   have := hW (ev p i).Loc.toNat (by have := hloc.2.2;unfold ev;omega);rw [hl3] at this;rw [List.filter_append,this]
   rfl
  have hsp:[0,1,2]++o=([0,1,2]++o1)++i::o2:=by rw [e1];simp
  have hfl:([0,1,2]++o).filter (Wl p (ev p i).Loc)=((ev p i).Loc::o1.filter (Wl p (ev p i).Loc))++(i::o2).filter (Wl p (ev p i).Loc):=by rw [hsp,List.filter_append,hA]
  have hdj:∀ a,a∈[0,1,2]++o1->∀ b,b∈i::o2->a≠b:=by
   have := hnd;rw [hsp] at this;exact (List.nodup_append.1 this).2.2
  have hi1:i∉[0,1,2]++o1:=fun h=>hdj i h i (by simp) rfl;have rki:rk ([0,1,2]++o) i=([0,1,2]++o1).length:=by
   unfold rk;rw [hsp,List.idxOf_append,if_neg hi1,List.idxOf_cons_self];omega
  refine ⟨(o1.filter (Wl p (ev p i).Loc)).length,?_,?_,fun q hq=>?_⟩
  ·rw [hfl,lla,llc];omega
  ·rw [e2,hfl,gdq,gdq,gal (by simp)]
  ·rw [rki];have hq':=hq;rw [hfl] at hq'
   constructor
   ·intro hle;have hm:(([0,1,2]++o).filter (Wl p (ev p i).Loc)).getD q default∈[0,1,2]++o1:=by
     rw [hfl,gdq,gal (by simp;omega),<- hA,geq (by rw [hA];simp;omega)];exact (List.mem_filter.1 (List.getElem_mem _)).1
    unfold rk;rw [hsp,List.idxOf_append,<- hsp,if_pos hm];exact List.idxOf_lt_length_of_mem hm
   ·intro hlt;rcases Nat.lt_or_ge (o1.filter (Wl p (ev p i).Loc)).length q with hc | hc
    ·exfalso;have hm:(([0,1,2]++o).filter (Wl p (ev p i).Loc)).getD q default∈i::o2:=by
      have hq2:q-((ev p i).Loc::o1.filter (Wl p (ev p i).Loc)).length<((i::o2).filter (Wl p (ev p i).Loc)).length:=by
       rw [lla] at hq';simp only [llc] at hq' ⊢;omega
      rw [hfl,gdq,gar (by simp;omega),geq hq2];exact (List.mem_filter.1 (List.getElem_mem _)).1
     have hn:(([0,1,2]++o).filter (Wl p (ev p i).Loc)).getD q default∉[0,1,2]++o1:=fun h=>hdj _ h _ hm rfl;unfold rk at hlt;rw [hsp,List.idxOf_append,<- hsp,if_neg hn] at hlt;omega
    ·exact hc
 ·obtain ⟨g1,g2⟩:=(hF i).1 hi;exact f2 i.toNat (by omega) fun h=>by
   rw [Int.toNat_of_nonneg g1] at h;rw [hr] at h;exact absurd h.2 (by decide)
end
theorem nG {α:Type} {P:α->Bool} [Inhabited α]:∀ {l:List α},(∀ q r,q<r->r<l.length->P (l.getD r default)=true->P (l.getD q default)=true)->∀ q,q<l.length->(P (l.getD q default)=true↔q<(l.filter P).length)
 | [],_,q,hq=>by simp at hq
 | a::l,h,q,hq=>by
  have hs:∀ q r,q<r->r<l.length->P (l.getD r default)=true->P (l.getD q default)=true:=fun q r h1 h2 h3=>h (q+1) (r+1) (by omega) (by simp;omega) h3
  by_cases ha:P a=true
  ·rw [List.filter_cons_of_pos ha]
   cases q with
   | zero=>exact ⟨fun _=>by simp,fun _=>ha⟩
   | succ q=>
    have := nG hs q (by simpa using hq);simp only [llc,Nat.add_lt_add_iff_right];exact this
  ·rw [List.filter_cons_of_neg ha];have hn:l.filter P=[]:=List.filter_eq_nil_iff.2 fun b hb hb2=>by
    obtain ⟨r,hr,e⟩:=List.getElem_of_mem hb;refine ha (h 0 (r+1) (by omega) (by simp;omega) ?_);show P (l.getD r default)=true;rw [gdq,geq hr];exact e ▸ hb2
   rw [hn];refine ⟨fun hq2=>?_,fun hq2=>by simp at hq2⟩
   cases q with
   | zero=>exact absurd hq2 ha
   | succ q=>
    have := (nG hs q (by simpa using hq)).1 hq2;rw [hn] at this;simp at this
theorem nH {α:Type} {P Q:α->Bool} {n:α}:∀ {l:List α},(∀ a∈l,P a=true->Q a=true)->(l.filter P).length<=(l.filter Q).length/\(n∈l->P n=false->Q n=true->(l.filter P).length+1<=(l.filter Q).length)
 | [],_=>⟨Nat.le_refl _,fun h=>by simp at h⟩
 | a::l,h=>by
  obtain ⟨h1,h2⟩:=nH (n:=n) (l:=l) fun b hb=>h b (List.mem_cons_of_mem _ hb);have ha:=h a (List.mem_cons_self)
  by_cases hp:P a=true
  ·have hq:=ha hp;rw [List.filter_cons_of_pos hp,List.filter_cons_of_pos hq];refine ⟨by simp;exact h1,fun hn h3 h4=>?_⟩;rcases List.mem_cons.1 hn with rfl | hn
   ·rw [hp] at h3;cases h3
   ·simp only [llc];have := h2 hn h3 h4;omega
  ·rw [List.filter_cons_of_neg hp]
   by_cases hq:Q a=true
   ·rw [List.filter_cons_of_pos hq];exact ⟨by simp only [llc];omega,fun _ _ _=>by simp only [llc];omega⟩
   ·rw [List.filter_cons_of_neg hq];refine ⟨h1,fun hn h3 h4=>?_⟩;rcases List.mem_cons.1 hn with rfl | hn
    ·exact absurd h4 hq
    ·exact h2 hn h3 h4
theorem Hl {α:Type} (f:α->Nat) (Q:α->Prop) (h:∃ a,Q a):∃ a,Q a/\∀ b,Q b->f a<=f b:=by
 obtain ⟨a,ha⟩:=h;have key:∀ n a,Q a->f a<=n->∃ a,Q a/\∀ b,Q b->f a<=f b:=fun n=>by
  induction n with
  | zero=>exact fun a ha hn=>⟨a,ha,fun b _=>by omega⟩
  | succ n ih=>
   intro a ha hn
   by_cases hc:∃ b,Q b/\f b<f a
   ·obtain ⟨b,hb,hlt⟩:=hc;exact ih b hb (by omega)
   ·exact ⟨a,ha,fun b hb=>Nat.le_of_not_lt fun hlt=>hc ⟨b,hb,hlt⟩⟩
 exact key (f a) a ha (Nat.le_refl _)
section
variable {p:List (List Jh)} {x:XS} {F:LI}
def dn (p:List (List Jh)) (a:Nat->Nat) (n:Int):Bool:=decide ((ev p n).Thread<0)||decide ((ev p n).Index<(a (ev p n).Thread.toNat:Int))
def od (x:XS) (l:Int):LI:=x.2.getD l.toNat []
def plc (l:LI) (n:Int):Int:=if n∈l then (l.idxOf n:Int) else -1
def poB (p:List (List Jh)) (i k:Int):Bool:=(decide ((ev p i).Thread=(ev p k).Thread)&&decide (0<=(ev p i).Thread))&&decide ((ev p i).Index<(ev p k).Index)
def rfB (p:List (List Jh)) (x:XS) (i k:Int):Bool:=(ev p k).Reads&&decide (x.1.getD k.toNat default=i)
def coB (p:List (List Jh)) (x:XS) (i k:Int):Bool:=(((ev p i).Writes&&(ev p k).Writes)&&decide ((ev p i).Loc=(ev p k).Loc))&&decide (plc (od x (ev p i).Loc) i<plc (od x (ev p i).Loc) k)
def frB (p:List (List Jh)) (x:XS) (i k:Int):Bool:=((((ev p i).Reads&&(ev p k).Writes)&&decide ((ev p i).Loc=(ev p k).Loc)) && !decide (i=k))&&decide (plc (od x (ev p i).Loc) (x.1.getD i.toNat default)<plc (od x (ev p i).Loc) k)
def bef (p:List (List Jh)) (x:XS) (i k:Int):Bool:=((poB p i k||rfB p x i k)||coB p x i k)||frB p x i k
theorem jE (hp:PV p) {n:Int} (h0:0<=n) (h:n<((evs p).length:Int)):0<=(ev p n).Loc/\(ev p n).Loc<=2:=by
 rcases dX h0 h with h3 | ⟨t,k,h3,rfl⟩
 ·have := (iV (p:=p) (l:=n.toNat) (by omega)).1;rw [Int.toNat_of_nonneg h0] at this;rw [this];simp only [];omega
 ·rw [h3.ev.1];have := hp.ins t k h3.t h3.k;exact ⟨this.1,this.2.1⟩
theorem fG {l:LI} {n:Int} (h:n∈l):l.getD (l.idxOf n) default=n:=by
 have := List.idxOf_lt_length_of_mem h;rw [gdq,geq this];exact List.getElem_idxOf this
theorem fH {l:LI} (h:l.Nodup) {q:Nat} (hq:q<l.length):l.idxOf (l.getD q default)=q/\l.getD q default∈l:=by
 rw [gdq,geq hq];exact ⟨List.Nodup.idxOf_getElem h q hq,List.getElem_mem hq⟩
theorem dJ {l:LI} {n:Int} (h:n∈l):plc l n=(l.idxOf n:Int):=if_pos h
structure OdI (p:List (List Jh)) (F L:List Int) (l:Int):Prop where
 nd:L.Nodup
 mem:∀ n,n∈L↔n∈F/\(ev p n).Writes=true/\(ev p n).Loc=l
 rk:∀ q r,q<r->r<L.length->rk F (L.getD q default)<rk F (L.getD r default)
theorem RunOf.od (R:RunOf p x F) (l:Int) (hl:0<=l/\l<=2):OdI p F (od x l) l/\Go.Proofs.YtlmjnhnpahicmaaGreat.od x l=F.filter (Wl p l):=by
 have h:Go.Proofs.YtlmjnhnpahicmaaGreat.od x l=F.filter (Wl p l):=by
  have := R.ord l.toNat (by omega);rw [Int.toNat_of_nonneg hl.1] at this;exact this
 refine ⟨⟨by rw [h];exact R.nd.filter _,fun n=>?_,fun q r hqr hr=>?_⟩,h⟩
 ·rw [h,List.mem_filter];unfold Wl;simp
 ·rw [h] at hr ⊢;have pw:F.Pairwise fun i k=>Go.Proofs.YtlmjnhnpahicmaaGreat.rk F i<Go.Proofs.YtlmjnhnpahicmaaGreat.rk F k:=List.pairwise_iff_getElem.2 fun i j hi hj hij=>by
   show F.idxOf F[i]<F.idxOf F[j];rw [List.Nodup.idxOf_getElem R.nd i hi,List.Nodup.idxOf_getElem R.nd j hj];exact hij
  have := List.pairwise_iff_getElem.1 (pw.filter (Wl p l)) q r (by omega) hr hqr;rw [gdq,gdq,geq hr,geq (by omega)];exact this
theorem Hm {F:LI} {i k:Int} (hi:i∈F) (hk:k∈F) (e:rk F i=rk F k):i=k:=by
 have h1:=fG hi;have h2:=fG hk;unfold rk at e;rw [e,h2] at h1;exact h1.symm
theorem RunOf.rd (hp:PV p) (R:RunOf p x F) {i:Int} (hi:i∈F) (hr:(ev p i).Reads=true):∃ c,c<(Go.Proofs.YtlmjnhnpahicmaaGreat.od x (ev p i).Loc).length/\x.1.getD i.toNat default=(Go.Proofs.YtlmjnhnpahicmaaGreat.od x (ev p i).Loc).getD c default/\∀ q,q<(Go.Proofs.YtlmjnhnpahicmaaGreat.od x (ev p i).Loc).length->(q<=c↔rk F ((Go.Proofs.YtlmjnhnpahicmaaGreat.od x (ev p i).Loc).getD q default)<rk F i):=by
 obtain ⟨h0,h1⟩:=(R.mem i).1 hi;rw [(R.od _ (jE hp h0 h1)).2];exact R.frm i hi hr
structure OdC (p:List (List Jh)) (F L:List Int) (l:Int):Prop where
 nd:L.Nodup
 mem:∀ n,n∈L↔n∈F/\(ev p n).Writes=true/\(ev p n).Loc=l
structure Cand (p:List (List Jh)) (x:XS) (F:List Int):Prop where
 mem:∀ n:Int,n∈F↔0<=n/\n<((evs p).length:Int)
 flen:x.1.length=(evs p).length
 olen:x.2.length=3
 ods:∀ l:Int,0<=l/\l<=2->OdC p F (od x l) l
 hd:∀ l:Nat,l<3->∃ t,od x (l:Int)=(l:Int)::t
 rdc:∀ i:Int,i∈F->(ev p i).Reads=true->x.1.getD i.toNat default∈od x (ev p i).Loc
 ne:∀ i:Int,i∈F->(ev p i).Reads=true->x.1.getD i.toNat default≠i
 frN:∀ i:Int,i∈F->(ev p i).Reads=false->x.1.getD i.toNat default = -1
theorem Cand.rdi (R:Cand p x F) {i:Int} (hi:i∈F) (hr:(ev p i).Reads=true):∃ c,c<(Go.Proofs.YtlmjnhnpahicmaaGreat.od x (ev p i).Loc).length/\x.1.getD i.toNat default=(Go.Proofs.YtlmjnhnpahicmaaGreat.od x (ev p i).Loc).getD c default:=by
 have h:=R.rdc i hi hr;exact ⟨_,List.idxOf_lt_length_of_mem h,(fG h).symm⟩
theorem RunOf.cand (hp:PV p) (R:RunOf p x F):Cand p x F:=by
 refine ⟨R.mem,R.flen,R.olen,fun l hl=>⟨(R.od l hl).1.nd,(R.od l hl).1.mem⟩,fun l hl=>?_,fun i hi hr=>?_,fun i hi hr e=>?_,R.frN⟩
 ·obtain ⟨o,ho⟩:=R.ini;refine ⟨o.filter (Wl p l),?_⟩;rw [(R.od (l:Int) (by omega)).2,ho,List.filter_append,W3 l hl]
  rfl
 ·obtain ⟨c,c1,c2,_⟩:=R.rd hp hi hr;rw [c2,gdq,geq c1];exact List.getElem_mem _
 ·obtain ⟨c,c1,c2,c3⟩:=R.rd hp hi hr;have := (c3 c c1).1 (Nat.le_refl _);rw [<- c2,e] at this;omega
theorem Hn (hp:PV p) (R:RunOf p x F) {i k:Int} (hi:i∈F) (hk:k∈F) (h:bef p x i k=true):rk F i<rk F k:=by
 obtain ⟨i0,i1⟩:=(R.mem i).1 hi;obtain ⟨k0,k1⟩:=(R.mem k).1 hk;unfold bef at h;simp only [Bool.or_eq_true] at h;rcases h with ((h | h) | h) | h
 ·simp only [poB,bae,dte] at h;exact R.po i k hi hk h.1.2 h.1.1 h.2
 ·simp only [rfB,bae,dte] at h;obtain ⟨c,c1,c2,c3⟩:=R.rd hp hk h.1;have := (c3 c c1).1 (Nat.le_refl _);rw [<- c2,h.2] at this;exact this
 ·simp only [coB,bae,dte] at h;obtain ⟨⟨⟨h1,h2⟩,h3⟩,h4⟩:=h;have O:=(R.od _ (jE hp i0 i1)).1;have mi:=(O.mem i).2 ⟨hi,h1,rfl⟩;have mk:=(O.mem k).2 ⟨hk,h2,h3.symm⟩;rw [dJ mi,dJ mk] at h4;have := O.rk _ _ (by omega:List.idxOf i (Go.Proofs.YtlmjnhnpahicmaaGreat.od x (ev p i).Loc)<List.idxOf k (Go.Proofs.YtlmjnhnpahicmaaGreat.od x (ev p i).Loc)) (List.idxOf_lt_length_of_mem mk);rw [fG mi,fG mk] at this;exact this
 ·simp only [frB,bae,dte,Bool.not_eq_true',decide_eq_false_iff_not] at h;obtain ⟨⟨⟨⟨h1,h2⟩,h3⟩,h4⟩,h5⟩:=h;have O:=(R.od _ (jE hp i0 i1)).1;have mk:=(O.mem k).2 ⟨hk,h2,h3.symm⟩;obtain ⟨c,c1,c2,c3⟩:=R.rd hp hi h1;obtain ⟨d1,d2⟩:=fH O.nd c1;rw [c2,dJ d2,dJ mk,d1] at h5;have hq:=List.idxOf_lt_length_of_mem mk;have := mt (c3 _ hq).2 (by omega);rw [fG mk] at this;rcases Nat.lt_trichotomy (rk F i) (rk F k) with h6 | h6 | h6
  ·exact h6
  ·exact absurd (Hm hi hk h6) h4
  ·exact absurd h6 this
def dc (p:List (List Jh)) (x:XS) (a:Nat->Nat) (l:Int):Nat:=((od x l).filter (dn p a)).length
def Closed (p:List (List Jh)) (x:XS) (F:LI) (a:Nat->Nat):Prop:=∀ i k:Int,i∈F->k∈F->bef p x i k=true->dn p a k=true->dn p a i=true
def m9 (p:List (List Jh)) (x:XS) (F:LI) (a:Nat->Nat) (n:Int):Prop:=∀ i:Int,i∈F->bef p x i n=true->dn p a i=true
def Dead (p:List (List Jh)) (x:XS) (F:LI) (a:Nat->Nat):Prop:=∃ i:Int,i∈F/\(ev p i).Reads=true/\dn p a i=false/\∃ c,c<(od x (ev p i).Loc).length/\x.1.getD i.toNat default=(od x (ev p i).Loc).getD c default/\c+1<dc p x a (ev p i).Loc
def F6 (p:List (List Jh)) (x:XS) (a:Nat->Nat) (n:Int):Prop:=((ev p n).Reads=true->x.1.getD n.toNat default=(od x (ev p n).Loc).getD (dc p x a (ev p n).Loc-1) default)/\((ev p n).Writes=true->(od x (ev p n).Loc).getD (dc p x a (ev p n).Loc) default=n)
def Behind (p:List (List Jh)) (F:LI) (a b:Nat->Nat) (n:Option Int):Prop:=∀ m∈F,(dn p b m=true↔dn p a m=true\/n=some m)
theorem uL (hp:PV p) (R:Cand p x F) (a:Nat->Nat) {l:Int} (hl:0<=l/\l<=2):1<=dc p x a l/\dc p x a l<=(od x l).length:=by
 refine ⟨?_,List.length_filter_le _ _⟩;obtain ⟨e1,e2⟩:=iV (p:=p) (l:=l.toNat) (by omega);rw [Int.toNat_of_nonneg hl.1] at e1;have hm:l∈od x l:=((R.ods l hl).mem l).2 ⟨(R.mem l).2 (by omega),by rw [e1],by rw [e1]⟩;refine List.length_pos_iff.2 (List.ne_nil_of_mem (a:=l) (List.mem_filter.2 ⟨hm,?_⟩));unfold dn;rw [e1]
 rfl
theorem sO (hp:PV p) (R:Cand p x F) {a:Nat->Nat} (hc:Closed p x F a) {l:Int} (hl:0<=l/\l<=2):∀ q,q<(od x l).length->(dn p a ((od x l).getD q default)=true↔q<dc p x a l):=by
 have O:=R.ods l hl;refine nG fun q r hqr hr hd=>?_;obtain ⟨a1,a2⟩:=fH O.nd hr;obtain ⟨b1,b2⟩:=fH O.nd (show q<(od x l).length by omega);obtain ⟨a3,a4,a5⟩:=(O.mem _).1 a2;obtain ⟨b3,b4,b5⟩:=(O.mem _).1 b2;refine hc _ _ b3 a3 ?_ hd;unfold bef;rw [Bool.or_eq_true,Bool.or_eq_true];refine .inl (.inr ?_);unfold coB;rw [a4,b4,a5,b5,dJ a2,dJ b2,a1,b1];simp only [Bool.true_and,decide_true,dte];omega
theorem CK (hp:PV p) (R:Cand p x F) {a:Nat->Nat} (hc:Closed p x F a) {n:Int} (hn:n∈F) (hd:dn p a n=false) (hr:m9 p x F a n):F6 p x a n:=by
 obtain ⟨n0,n1⟩:=(R.mem n).1 hn;have hl:=jE hp n0 n1;have O:=R.ods _ hl;have P:=sO hp R hc hl;obtain ⟨p1,p2⟩:=uL hp R a hl;refine ⟨fun h=>?_,fun h=>?_⟩
 ·obtain ⟨c,c1,c2⟩:=R.rdi hn h;obtain ⟨d1,d2⟩:=fH O.nd c1;obtain ⟨d3,d4,d5⟩:=(O.mem _).1 d2;have hb:dn p a ((od x (ev p n).Loc).getD c default)=true:=hr _ d3 (by
   unfold bef rfB;rw [h,c2];simp)
  have hlt:=(P c c1).1 hb;rcases Nat.lt_or_ge (c+1) (dc p x a (ev p n).Loc) with h1 | h1
  ·exfalso;have h2:c+1<(od x (ev p n).Loc).length:=by omega
   have hw:=(P _ h2).2 h1;obtain ⟨f1,f2⟩:=fH O.nd h2;obtain ⟨f3,f4,f5⟩:=(O.mem _).1 f2;have : dn p a n=true:=hc n _ hn f3 (by
    unfold bef;rw [Bool.or_eq_true];refine .inr ?_;unfold frB;have hne:n≠(od x (ev p n).Loc).getD (c+1) default:=fun e=>by rw [<- e,hd] at hw;cases hw
    rw [h,f4,f5,c2,dJ d2,dJ f2,d1,f1,decide_eq_false hne];simp only [Bool.true_and,decide_true,Bool.not_false,dte];omega) hw
   rw [hd] at this
   cases this
  ·rw [c2]
   congr 1
   omega
 ·have m:=(O.mem n).2 ⟨hn,h,rfl⟩;have hq:=List.idxOf_lt_length_of_mem m;have h1 : ¬ (od x (ev p n).Loc).idxOf n<dc p x a (ev p n).Loc:=fun h1=>by
   have := (P _ hq).2 h1;rw [fG m,hd] at this
   cases this
  rcases Nat.lt_or_ge (dc p x a (ev p n).Loc) ((od x (ev p n).Loc).idxOf n) with h2 | h2
  ·exfalso;have h3:dc p x a (ev p n).Loc<(od x (ev p n).Loc).length:=by omega
   obtain ⟨f1,f2⟩:=fH O.nd h3;obtain ⟨f3,f4,f5⟩:=(O.mem _).1 f2;have := (P _ h3).1 (hr _ f3 (by
    unfold bef;rw [Bool.or_eq_true,Bool.or_eq_true];refine .inl (.inr ?_);unfold coB;rw [h,f4,f5,dJ m,dJ f2,f1];simp only [Bool.true_and,decide_true,dte];omega))
   omega
  ·have : dc p x a (ev p n).Loc=(od x (ev p n).Loc).idxOf n:=by omega
   rw [this];exact fG m
theorem F7 {a b:Nat->Nat} (h:∀ m∈F,dn p a m=true->dn p b m=true) {l:Int} (hm:∀ m∈od x l,m∈F):dc p x a l<=dc p x b l:=(nH (n:=0) fun m h1 h2=>h m (hm m h1) h2).1
theorem uh (hp:PV p) (R:RunOf p x F) {a b:Nat->Nat} (hc:Closed p x F a) {n:Int} (hn:n∈F) (hd:dn p a n=false) (hcan:F6 p x a n) (hnr : ¬ m9 p x F a n) (hpo:∀ i:Int,i∈F->poB p i n=true->dn p a i=true) (hb:Behind p F a b (some n)):Dead p x F b:=by
 obtain ⟨n0,n1⟩:=(R.mem n).1 hn;have hl:=jE hp n0 n1;have O:=(R.od _ hl).1;have P:=sO hp (R.cand hp) hc hl;obtain ⟨p1,p2⟩:=uL hp (R.cand hp) a hl;have hex:∃ i:Int,i∈F/\bef p x i n=true/\dn p a i=false:=by
  apply Classical.byContradiction;intro hno;refine hnr fun i hi hbi=>?_
  cases hdi:dn p a i with
  | true=>rfl
  | false=>exact absurd ⟨i,hi,hbi,hdi⟩ hno
 obtain ⟨i,hi,hbi,hdi⟩:=hex;have atn:(ev p n).Writes=true->n∈od x (ev p n).Loc/\(od x (ev p n).Loc).idxOf n=dc p x a (ev p n).Loc:=fun h=>by
  have m:=(O.mem n).2 ⟨hn,h,rfl⟩;refine ⟨m,?_⟩;have hq:=List.idxOf_lt_length_of_mem m;have h1 : ¬ (od x (ev p n).Loc).idxOf n<dc p x a (ev p n).Loc:=fun h1=>by
   have := (P _ hq).2 h1;rw [fG m,hd] at this
   cases this
  have h3:dc p x a (ev p n).Loc<(od x (ev p n).Loc).length:=by omega
  have := (fH O.nd h3).1;rw [hcan.2 h] at this;exact this
 unfold bef at hbi;simp only [Bool.or_eq_true] at hbi;rcases hbi with ((h | h) | h) | h
 ·rw [hpo i hi h] at hdi
  cases hdi
 ·exfalso;simp only [rfB,bae,dte] at h;have h1:=hcan.1 h.1;rw [h.2] at h1;have := (P (dc p x a (ev p n).Loc-1) (by omega)).2 (by omega);rw [<- h1,hdi] at this
  cases this
 ·exfalso;simp only [coB,bae,dte] at h;obtain ⟨⟨⟨h1,h2⟩,h3⟩,h4⟩:=h;obtain ⟨m,hq⟩:=atn h2;rw [h3] at h4;have mi:=(O.mem i).2 ⟨hi,h1,h3⟩;rw [dJ mi,dJ m,hq] at h4;have := (P _ (List.idxOf_lt_length_of_mem mi)).2 (by omega);rw [fG mi,hdi] at this
  cases this
 ·simp only [frB,bae,dte,Bool.not_eq_true',decide_eq_false_iff_not] at h;obtain ⟨⟨⟨⟨h1,h2⟩,h3⟩,h4⟩,h5⟩:=h;obtain ⟨m,hq⟩:=atn h2;obtain ⟨c,c1,c2,c3⟩:=R.rd hp hi h1;rw [h3] at c1 c2 c3 h5;obtain ⟨d1,d2⟩:=fH O.nd c1;rw [c2,dJ d2,dJ m,d1,hq] at h5;refine ⟨i,hi,h1,?_,c,by rw [h3];exact c1,by rw [h3];exact c2,?_⟩
  ·cases hdb:dn p b i with
   | false=>rfl
   | true=>
    rcases (hb i hi).1 hdb with h6 | h6
    ·rw [hdi] at h6;cases h6
    ·injection h6 with h6;exact absurd h6.symm h4
  ·have := (nH (P:=dn p a) (Q:=dn p b) (n:=n) (l:=od x (ev p n).Loc) fun q hq1 hq2=>(hb q ((O.mem q).1 hq1).1).2 (.inl hq2)).2 m hd ((hb n hn).2 (.inr rfl));rw [h3];unfold dc at h5 ⊢;omega
theorem F8 (hp:PV p) (R:RunOf p x F) {a b:Nat->Nat} (hD:Dead p x F a) {n:Option Int} (hcan:∀ m,n=some m->F6 p x a m) (hb:Behind p F a b n):Dead p x F b:=by
 obtain ⟨i,hi,h1,h2,c,c1,c2,c3⟩:=hD;obtain ⟨i0,i1⟩:=(R.mem i).1 hi;have hl:=jE hp i0 i1;have O:=(R.od _ hl).1;obtain ⟨p1,p2⟩:=uL hp (R.cand hp) a hl;refine ⟨i,hi,h1,?_,c,c1,c2,Nat.lt_of_lt_of_le c3 (F7 (fun m hm hd=>(hb m hm).2 (.inl hd)) fun m hm=>((O.mem m).1 hm).1)⟩
 cases hdb:dn p b i with
 | false=>rfl
 | true=>
  exfalso;rcases (hb i hi).1 hdb with h6 | h6
  ·rw [h2] at h6;cases h6
  ·have h7:=(hcan i h6).1 h1;rw [c2] at h7;have e1:=(fH O.nd c1).1;have e2:=(fH O.nd (show dc p x a (ev p i).Loc-1<_ by omega)).1;rw [h7,e2] at e1;omega
theorem j5 (hp:PV p) (R:RunOf p x F) {a:Nat->Nat} (hc:Closed p x F a) : ¬ Dead p x F a:=by
 rintro ⟨i,hi,h1,h2,c,c1,c2,c3⟩;obtain ⟨i0,i1⟩:=(R.mem i).1 hi;have hl:=jE hp i0 i1;have O:=(R.od _ hl).1;obtain ⟨p1,p2⟩:=uL hp (R.cand hp) a hl;have h3:c+1<(od x (ev p i).Loc).length:=by omega
 have hw:=(sO hp (R.cand hp) hc hl _ h3).2 c3;obtain ⟨d1,d2⟩:=fH O.nd c1;obtain ⟨f1,f2⟩:=fH O.nd h3;obtain ⟨f3,f4,f5⟩:=(O.mem _).1 f2;have : dn p a i=true:=hc i _ hi f3 (by
  unfold bef;rw [Bool.or_eq_true];refine .inr ?_;unfold frB;have hne:i≠(od x (ev p i).Loc).getD (c+1) default:=fun e=>by rw [<- e,h2] at hw;cases hw
  rw [h1,f4,f5,c2,dJ d2,dJ f2,d1,f1,decide_eq_false hne];simp only [Bool.true_and,decide_true,Bool.not_false,dte];omega) hw
 rw [h2] at this
 cases this
theorem CL {a b:Nat->Nat} (hc:Closed p x F a) {n:Option Int} (hr:∀ m,n=some m->m9 p x F a m) (hb:Behind p F a b n):Closed p x F b:=fun i k hi hk hbef hd=>by
 rcases (hb k hk).1 hd with h | h
 ·exact (hb i hi).2 (.inl (hc i k hi hk hbef h))
 ·exact (hb i hi).2 (.inl (hr k h i hi hbef))
theorem AK (hp:PV p) (R:RunOf p x F) {a:Nat->Nat} (h:∃ i,i∈F/\dn p a i=false):∃ n,n∈F/\dn p a n=false/\m9 p x F a n:=by
 obtain ⟨n,⟨h1,h2⟩,h3⟩:=Hl (rk F) _ h;refine ⟨n,h1,h2,fun i hi hb=>?_⟩;have := Hn hp R hi h1 hb
 cases hd:dn p a i with
 | true=>rfl
 | false=>have := h3 i ⟨hi,hd⟩;omega
def adv (a:Nat->Nat) (t:Nat):Nat->Nat:=fun u=>if u=t then a t+1 else a u
def sP (p:List (List Jh)) (t k:Nat):Prop:=((p.getD t default).getD k default).Op=4
instance (t k:Nat):Decidable (sP p t k):=by unfold sP;infer_instance
def StA (p:List (List Jh)) (a:Nat->Nat):Prop:=∀ t,t<p.length->a t<=(p.getD t default).length
def nxt (p:List (List Jh)) (a:Nat->Nat) (t:Nat):Option Int:=if sP p t (a t) then none else some (base p t (a t):Int)
theorem gU {a:Nat->Nat} {t k:Nat} (h:Isn p t k):(dn p a (base p t k:Int)=true↔k<a t):=by
 unfold dn;rw [h.ev.1];simp only [tnn,Bool.or_eq_true,dte];omega
theorem mf {a:Nat->Nat} {n:Int} (h0:0<=n) (h:n<3):dn p a n=true:=by
 have := (iV (p:=p) (l:=n.toNat) (by omega)).1;rw [Int.toNat_of_nonneg h0] at this;unfold dn;rw [this]
 rfl
theorem kH (R:Cand p x F) {a:Nat->Nat} {t:Nat} (ht:t<p.length) (hk:a t<(p.getD t default).length):Behind p F a (adv a t) (nxt p a t):=fun m hm=>by
 obtain ⟨m0,m1⟩:=(R.mem m).1 hm;rcases dX m0 m1 with h3 | ⟨t',k',h3,rfl⟩
 ·exact ⟨fun _ => .inl (mf m0 h3),fun _=>mf m0 h3⟩
 ·rw [gU h3,gU h3];unfold adv nxt
  by_cases e:t'=t
  ·subst e;rw [if_pos rfl]
   by_cases e2:k'=a t'
   ·rw [<- e2,if_neg (show ¬ sP p t' k' from h3.o)];exact ⟨fun _ => .inr rfl,fun _=>by omega⟩
   ·refine ⟨fun h => .inl (by omega),fun h=>?_⟩;rcases h with h | h
    ·omega
    ·split at h
     ·cases h
     ·rename_i ho;injection h with h;exact absurd (ru h3 ⟨ht,hk,ho⟩ (by omega)).2 e2
  ·rw [if_neg e];refine ⟨fun h => .inl h,fun h=>?_⟩;rcases h with h | h
   ·exact h
   ·split at h
    ·cases h
    ·rename_i ho;injection h with h;exact absurd (ru h3 ⟨ht,hk,ho⟩ (by omega)).1 e
theorem CM (R:Cand p x F) {a:Nat->Nat} {t:Nat} (ht:t<p.length) (hk:a t<(p.getD t default).length) {n:Int} (h:nxt p a t=some n):Isn p t (a t)/\n=(base p t (a t):Int)/\n∈F/\dn p a n=false/\∀ i:Int,i∈F->poB p i n=true->dn p a i=true:=by
 unfold nxt at h
 split at h
 ·cases h
 ·rename_i ho;injection h with h;subst h;have hI:Isn p t (a t):=⟨ht,hk,ho⟩;refine ⟨hI,rfl,(R.mem _).2 ⟨by omega,by have := hI.ev.2;omega⟩,?_,fun i hi hpo=>?_⟩
  ·cases hd:dn p a (base p t (a t):Int) with
   | false=>rfl
   | true=>have := (gU hI).1 hd;omega
  ·obtain ⟨m0,m1⟩:=(R.mem i).1 hi;rcases dX m0 m1 with h3 | ⟨t',k',h3,rfl⟩
   ·exact mf m0 h3
   ·simp only [poB,bae,dte,h3.ev.1,hI.ev.1] at hpo;rw [gU h3];have : t'=t:=by omega
    subst this;omega
def dx (p:List (List Jh)) (x:XS) (F:LI) (a:Nat->Nat) (t:Nat):Prop:=t<p.length/\a t<(p.getD t default).length/\∀ n,nxt p a t=some n->m9 p x F a n
def Ep (p:List (List Jh)) (x:XS) (a:Nat->Nat) (t:Nat):Prop:=t<p.length/\a t<(p.getD t default).length/\∀ n,nxt p a t=some n->F6 p x a n
def DT (p:List (List Jh)) (a:Nat->Nat):Prop:=∀ t,t<p.length->a t=(p.getD t default).length
theorem CN (hp:PV p) (R:RunOf p x F) {a:Nat->Nat} (hs:StA p a) (hf : ¬ DT p a):∃ t,dx p x F a t:=by
 have hex:∃ t,t<p.length/\a t<(p.getD t default).length:=by
  apply Classical.byContradiction;intro hno;refine hf fun t ht=>?_;have := hs t ht;have := mt (fun h=>(⟨t,ht,h⟩:∃ t,t<p.length/\a t<(p.getD t default).length)) hno;omega
 by_cases hfe:∃ t,t<p.length/\a t<(p.getD t default).length/\sP p t (a t)
 ·obtain ⟨t,h1,h2,h3⟩:=hfe;refine ⟨t,h1,h2,fun n hn=>?_⟩;unfold nxt at hn;rw [if_pos h3] at hn
  cases hn
 ·have hev:∀ t,t<p.length->a t<(p.getD t default).length->Isn p t (a t):=fun t h1 h2=>⟨h1,h2,fun h3=>hfe ⟨t,h1,h2,h3⟩⟩;obtain ⟨t,h1,h2⟩:=hex;have hI:=hev t h1 h2;obtain ⟨n,n1,n2,n3⟩:=AK hp R (a:=a) ⟨(base p t (a t):Int),(R.mem _).2 ⟨by omega,by have := hI.ev.2;omega⟩,by
   cases hd:dn p a (base p t (a t):Int) with
   | false=>rfl
   | true=>have := (gU hI).1 hd;omega⟩
  obtain ⟨m0,m1⟩:=(R.mem n).1 n1;rcases dX m0 m1 with h3 | ⟨t',k',h3,rfl⟩
  ·rw [mf m0 h3] at n2
   cases n2
  ·have hle:a t'<=k':=by
    rcases Nat.lt_or_ge k' (a t') with h | h
    ·rw [(gU h3).2 h] at n2;cases n2
    ·exact h
   have hI':=hev t' h3.t (by have := h3.k;omega);have : a t'=k':=by
    rcases Nat.lt_or_ge (a t') k' with h | h
    ·exfalso;have := (gU hI').1 (n3 (base p t' (a t'):Int) ((R.mem _).2 ⟨by omega,by have := hI'.ev.2;omega⟩) (by
      unfold bef poB;rw [hI'.ev.1,h3.ev.1];simp only [decide_true,Bool.true_and,Bool.or_eq_true,dte,bae];exact .inl (.inl (.inl ⟨by omega,by omega⟩)))
      )
     omega
    ·omega
   refine ⟨t',h3.t,hI'.k,fun m hm=>?_⟩;unfold nxt at hm;rw [if_neg (show ¬ sP p t' (a t') from hI'.o)] at hm;injection hm with hm;rw [<- hm,this];exact n3
inductive Gr (p:List (List Jh)) (x:XS) (F:List Int):(Nat->Nat)->List Int->Prop
 | nil {a:Nat->Nat} (h:DT p a):Gr p x F a []
 | cons {a:Nat->Nat} {t:Nat} {r:LI} (h:dx p x F a t) (hl:∀ u,u<t -> ¬ dx p x F a u) (k:Gr p x F (adv a t) r):Gr p x F a ((t:Int)::r)
theorem Gr.uniq {a:Nat->Nat} {r:LI} (h:Gr p x F a r):∀ {r'},Gr p x F a r'->r=r':=by
 induction h with
 | nil h=>
  intro r' h'
  cases h' with
  | nil _=>rfl
  | cons h1 _ _=>have := h _ h1.1;have := h1.2.1;omega
 | @cons a t r h hl _ ih=>
  intro r' h'
  cases h' with
  | nil h1=>have := h1 _ h.1;have := h.2.1;omega
  | @cons _ u _ h1 hl1 k1=>
   have : t=u:=by
    rcases Nat.lt_trichotomy t u with e | e | e
    ·exact absurd h (hl1 t e)
    ·exact e
    ·exact absurd h1 (hl u e)
   subst this;rw [ih k1]
end
theorem Fe (a b:Int):(a==b)=decide (a=b):=by rw [Bool.eq_iff_iff];simp
theorem rz {n:Nat} (h:n<9223372036854775808):IntKind.wrap .i64 (n:Int)=(n:Int):=by
 simp only [IntKind.wrap];show (let m:=(n:Int) % 18446744073709551616;if true&&m>=(9223372036854775808:Int) then m-18446744073709551616 else m)=n;have : (n:Int) % 18446744073709551616=n:=by omega
 simp only [this];rw [if_neg];simp;omega
theorem yO {a b:Nat} (ha:a<9223372036854775808) (hb:b<9223372036854775808):bOr .i64 (a:Int) (b:Int)=((a|||b:Nat):Int):=by
 have hlt:(a|||b)<2 ^ 63:=Nat.or_lt_two_pow ha hb;show IntKind.wrap .i64 (((BitVec.ofInt 64 (a:Int)|||BitVec.ofInt 64 (b:Int)).toNat:Nat):Int)=_;have h1:(BitVec.ofInt 64 (a:Int)).toNat=a:=by rw [BitVec.ofInt_natCast,BitVec.toNat_ofNat];omega
 have h2:(BitVec.ofInt 64 (b:Int)).toNat=b:=by rw [BitVec.ofInt_natCast,BitVec.toNat_ofNat];omega
 rw [BitVec.toNat_or,h1,h2];exact rz hlt
theorem zM {k:Nat} (h:k<62):FM .i64 1 (k:Int)=((2 ^ k:Nat):Int):=by
 show IntKind.wrap .i64 (1*2 ^ (min (k:Int).toNat 64))=_;have hm:min (k:Int).toNat 64=k:=by omega
 rw [hm,Int.one_mul,show (2:Int) ^ k=((2 ^ k:Nat):Int) by simp];refine rz ?_;have := Nat.pow_lt_pow_right (a:=2) (by omega) (show k<63 by omega);omega
theorem Ff {m k:Nat} (hm:m<9223372036854775808) (hk:k<62):GY .i64 (GH .i64 (m:Int) (k:Int)) 1=if m.testBit k then 1 else 0:=by
 have h1:GH .i64 (m:Int) (k:Int)=((m / 2 ^ k:Nat):Int):=by
  show (m:Int).fdiv (2 ^ (min (k:Int).toNat 64))=_;have hm:min (k:Int).toNat 64=k:=by omega
  rw [hm,show (2:Int) ^ k=((2 ^ k:Nat):Int) by simp,Int.fdiv_eq_ediv_of_nonneg _ (Int.natCast_nonneg _)]
  rfl
 have hlt:m / 2 ^ k<9223372036854775808:=Nat.lt_of_le_of_lt (Nat.div_le_self _ _) hm;rw [h1];show IntKind.wrap .i64 (((BitVec.ofInt 64 ((m / 2 ^ k:Nat):Int)&&&BitVec.ofInt 64 (1:Int)).toNat:Nat):Int)=_;rw [Nat.testBit_eq_decide_div_mod_eq];generalize m / 2 ^ k=d at hlt;have h2:(BitVec.ofInt 64 ((d:Nat):Int)).toNat=d:=by rw [BitVec.ofInt_natCast,BitVec.toNat_ofNat];omega
 rw [BitVec.toNat_and,h2,show (BitVec.ofInt 64 (1:Int)).toNat=1 from rfl,Nat.and_one_is_mod]
 by_cases h:d % 2=1
 ·rw [h,if_pos (by simp)];exact rz (by omega)
 ·rw [show d % 2=0 by omega,if_neg (by simp)];exact rz (by omega)
def msk (f:Nat->Bool):Nat->Nat
 | 0=>0
 | n+1=>if f n then msk f n|||2 ^ n else msk f n
theorem jG (f:Nat->Bool):∀ (n j:Nat),(msk f n).testBit j=(decide (j<n)&&f j)
 | 0,j=>by simp [msk]
 | n+1,j=>by
  have ih:=jG f n j;unfold msk
  by_cases h:f n=true
  ·rw [if_pos h,Nat.testBit_or,ih,Nat.testBit_two_pow]
   by_cases e:n=j
   ·subst e;simp [h]
   ·rw [decide_eq_false e,Bool.or_false]
    congr 1
    exact decide_eq_decide.2 (by omega)
  ·rw [if_neg h,ih]
   by_cases e:n=j
   ·subst e;simp [Bool.eq_false_iff.2 h]
   ·congr 1
    exact decide_eq_decide.2 (by omega)
theorem Fg (f:Nat->Bool):∀ n:Nat,msk f n<2 ^ n
 | 0=>by simp [msk]
 | n+1=>by
  have ih:=Fg f n;have h2:(2:Nat) ^ (n+1)=2*2 ^ n:=by rw [Nat.pow_succ,Nat.mul_comm]
  unfold msk
  split
  ·exact Nat.or_lt_two_pow (by omega) (by omega)
  ·omega
theorem Hp (f g:Nat->Bool) (n:Nat):msk f n|||msk g n=msk (fun j=>f j||g j) n:=by
 apply Nat.eq_of_testBit_eq;intro j;rw [Nat.testBit_or,jG,jG,jG]
 cases decide (j<n) <;> rfl
theorem kI {f:Nat->Bool} {n:Nat} (h:n<=62):msk f n<9223372036854775808:=by
 have h1:=Fg f n;have h2:(2:Nat) ^ n<=2 ^ 62:=Nat.pow_le_pow_right (by omega) h;omega
theorem xu {l:LI} (hl:l.length<=4000000) (n:Int):Jo (fu l n) (· = plc l n):=by
 unfold fu;refine Jo.sum (PS:=fun _=>n∉l) (PW:=(· = plc l n)) ?_ fun _ hn => .pure (by unfold plc;rw [if_neg hn]);refine Jo.loop (fun z=>∃ i:Nat,i<=l.length/\z=(i:Int)/\∀ j,j<i->l.getD j default≠n) (fun z=>((l.length:Int)-z).toNat) ⟨0,by omega,rfl,fun j hj=>by omega⟩ fun z ⟨i,h1,h2,h3⟩ => ?_;subst h2;unfold kG;refine .bifD (fun hk => .gdD ⟨by omega,hk⟩ (.bif (fun he => .pure ?_) fun he => .gdI (by omega) (.pure ⟨⟨i+1,by omega,rfl,fun j hj=>?_⟩,by omega⟩))) fun hk => .pure ?_
 ·simp only [tnn,beq_iff_eq] at he;have hi:i<l.length:=by omega
  have hm:n∈l:=by rw [<- he];exact ou hi
  unfold plc;rw [if_pos hm]
  congr 1
  have h4:=List.idxOf_lt_length_of_mem hm;rcases Nat.lt_trichotomy i (l.idxOf n) with h5 | h5 | h5
  ·exfalso;have : l.idxOf n<=i:=by
    have e:l=l.take i++l.drop i:=(List.take_append_drop i l).symm;rw [e,List.idxOf_append]
    split
    ·have := List.idxOf_lt_length_of_mem (by assumption:n∈l.take i);rw [List.length_take] at this;omega
    ·rw [List.drop_eq_getElem_cons hi,show l[i]=n by rw [<- he,gdq,geq hi];rfl,List.idxOf_cons_self,List.length_take];omega
   omega
  ·exact h5
  ·exact absurd (fG hm) (h3 _ h5)
 ·simp only [tnn,beq_eq_false_iff_ne] at he;rcases Nat.lt_or_ge j i with h | h
  ·exact h3 j h
  ·rw [show j=i by omega];exact he
 ·intro hm;have h4:=List.idxOf_lt_length_of_mem hm;exact h3 (l.idxOf n) (by omega) (fG hm)
section
variable {p:List (List Jh)} {x:XS} {F:LI}
structure XOk (p:List (List Jh)) (x:XS):Prop where
 f:x.1.length=(evs p).length
 o:x.2.length=3
 r:∀ i:Nat,(x.2.getD i default).length<=4000000
theorem uM (hx:XOk p x) {l:Int} (hl:0<=l/\l<=2) (i k:Int):Jo (eC ⟨x.1,x.2⟩ l i k) (· = decide (plc (od x l) i<plc (od x l) k)):=by
 unfold eC;refine .gdD ⟨hl.1,by simp only [];rw [hx.o];omega⟩ ((xu (hx.r _) i).bind fun v hv=>(xu (hx.r _) k).bind fun w hw => .pure ?_);subst hv hw
 rfl
theorem Er (hp:PV p) (hx:XOk p x) {i k:Nat} (hi:i<(evs p).length) (hk:k<(evs p).length) (name:ByteArray) (f:Int->Int->Bool)
  (h:(name=⟨#[112,111]⟩/\f=poB p)\/(name=⟨#[114,102]⟩/\f=rfB p x)\/(name=⟨#[99,111]⟩/\f=coB p x)\/(name=⟨#[102,114]⟩/\f=frB p x)):Jo (jg p ⟨x.1,x.2⟩ (evs p) name (i:Int) (k:Int)) (· = f i k):=by
 have ei:(evs p).getD i default=ev p (i:Int):=by unfold ev;rw [tnn]
 have ek:(evs p).getD k default=ev p (k:Int):=by unfold ev;rw [tnn]
 have hl:=jE hp (n:=(i:Int)) (by omega) (by omega);unfold jg;simp only [tnn,ei,ek];refine .gdD ⟨by omega,by omega⟩ (.gdD ⟨by omega,by omega⟩ (Jo.bind (P:=(· = (decide ((ev p i).Thread=(ev p k).Thread)&&decide (0<=(ev p i).Thread)))) (.bif (fun h => .pure ?_) fun h => .pure ?_) fun same hs=>?_))
 ·rw [eq_of_beq h];simp
 ·rw [decide_eq_false (fun e=>by rw [e] at h;simp at h)];rfl
 subst hs;rcases h with ⟨rfl,rfl⟩ | ⟨rfl,rfl⟩ | ⟨rfl,rfl⟩ | ⟨rfl,rfl⟩
 ·refine Jo.sumR ?_;refine .bif (fun _=>Jo.bind (P:=(· = poB p i k)) (.bif (fun h => .pure ?_) fun h => .pure ?_) fun v hv => .pure (by rw [hv])) fun h=>absurd h (by decide)
  ·unfold poB;rw [h];rfl
  ·unfold poB;rw [h];rfl
 ·refine Jo.sumR (.bif (fun h=>absurd h (by decide)) fun _ => .bif (fun h=>absurd h (by decide)) fun _ => .bif (fun h=>absurd h (by decide)) fun _ => .bif (fun _=>?_) fun h=>absurd h (by decide));refine Jo.bind (P:=(· = rfB p x i k)) (.bif (fun h => .gdD ⟨by omega,by rw [hx.f];omega⟩ (.pure ?_)) fun h => .pure ?_) fun v hv => .pure (by rw [hv])
  ·unfold rfB;rw [h,Bool.true_and];exact Fe _ _
  ·unfold rfB;rw [h];rfl
 ·refine Jo.sumR (.bif (fun h=>absurd h (by decide)) fun _ => .bif (fun h=>absurd h (by decide)) fun _ => .bif (fun h=>absurd h (by decide)) fun _ => .bif (fun h=>absurd h (by decide)) fun _ => .bif (fun _=>?_) fun h=>absurd h (by decide));refine Jo.bind (P:=(· = ((ev p i).Writes&&(ev p k).Writes))) (.bif (fun h => .pure (by rw [h];rfl)) fun h => .pure (by rw [h];rfl)) fun v1 h1=>?_;refine Jo.bind (P:=(· = (((ev p i).Writes&&(ev p k).Writes)&&decide ((ev p i).Loc=(ev p k).Loc)))) (.bif (fun h => .pure (by rw [<- h1,h,Bool.true_and];exact Fe _ _)) fun h => .pure (by rw [<- h1,h];rfl)) fun v2 h2=>?_;refine Jo.bind (P:=(· = coB p x i k)) (.bif (fun h=>(uM hx hl _ _).bind fun v hv => .pure (by unfold coB;rw [<- h2,h,hv,Bool.true_and])) fun h => .pure (by unfold coB;rw [<- h2,h,Bool.false_and])) fun v hv => .pure (by rw [hv])
 ·refine Jo.sumR (.bif (fun h=>absurd h (by decide)) fun _ => .bif (fun h=>absurd h (by decide)) fun _ => .bif (fun h=>absurd h (by decide)) fun _ => .bif (fun h=>absurd h (by decide)) fun _ => .bif (fun h=>absurd h (by decide)) fun _ => .bif (fun _=>?_) fun h=>absurd h (by decide));refine Jo.bind (P:=(· = frB p x i k)) (.bif (fun h1 => .bif (fun h2 => .bif (fun h3 => .bif (fun h4 => .gdD ⟨by omega,by rw [hx.f];omega⟩ ((uM hx hl _ _).bind fun v hv => .pure ?_)) fun h4 => .pure ?_) fun h3 => .pure ?_) fun h2 => .pure ?_) fun h1 => .pure ?_) fun v hv => .pure (by rw [hv])
  ·have h4 : ¬ (i:Int)=(k:Int):=by simpa using h4
   unfold frB;rw [h1,h2,decide_eq_true (eq_of_beq h3),decide_eq_false h4,hv];simp
  ·have h4:(i:Int)=(k:Int):=by simpa using h4
   unfold frB;rw [decide_eq_true h4];simp
  ·unfold frB;rw [decide_eq_false (fun e=>by rw [e] at h3;simp at h3)];simp
  ·unfold frB;rw [h2];simp
  ·unfold frB;rw [h1];simp
def jO (p:List (List Jh)) (f:Int->Int->Bool) (n:Nat):LI:=(List.range n).map fun (i:Nat)=>((msk (fun k=>f (i:Int) k) (evs p).length:Nat):Int)
theorem uN (f:Int->Int->Bool) (n:Nat):jO p f (n+1)=jO p f n++[((msk (fun k=>f n k) (evs p).length:Nat):Int)]:=by
 unfold jO;rw [List.range_succ,List.map_append]
 rfl
theorem oF (f:Int->Int->Bool) (n:Nat):(jO p f n).length=n:=by simp [jO]
theorem sQ (f:Int->Int->Bool) {n i:Nat} (h:i<n):(jO p f n).getD i default=((msk (fun k=>f i k) (evs p).length:Nat):Int):=by
 unfold jO;rw [gdq,List.getElem?_map,List.getElem?_range h]
 rfl
theorem vV (hp:PV p) (hx:XOk p x) (name:ByteArray) (f:Int->Int->Bool)
  (h:(name=⟨#[112,111]⟩/\f=poB p)\/(name=⟨#[114,102]⟩/\f=rfB p x)\/(name=⟨#[99,111]⟩/\f=coB p x)\/(name=⟨#[102,114]⟩/\f=frB p x)):Jo (eF p ⟨x.1,x.2⟩ name) (· = jO p f (evs p).length):=by
 have hel:=iz hp.vs;unfold eF;refine (yL hp.vs).bind fun v1 h1=>?_;subst h1;refine Jo.bind (P:=(· = jO p f (evs p).length)) ?_ fun v hv => .pure hv;refine Jo.loop (fun z=>∃ n:Nat,n<=(evs p).length/\z=(jO p f n,(n:Int))) (fun z=>(((evs p).length:Int)-z.2).toNat) ⟨0,by omega,rfl⟩ fun z ⟨n,h1,h2⟩ => ?_;subst h2;unfold jC;refine .bifD (fun hk=>?_) fun hk => .pure ?_
 ·simp only [] at hk;refine Jo.bind (P:=(· = jO p f (n+1))) (Jo.bind (P:=(· = ((msk (fun k=>f n k) (evs p).length:Nat):Int))) ?_ fun v hv => .gd (au (by simp only [];rw [oF];omega) rfl) (.pure (by simp only [];rw [hv,uN]))) fun v hv => .gdI (by simp only [];omega) (.pure ⟨⟨n+1,by omega,by rw [hv];rfl⟩,by simp only [];omega⟩);refine Jo.loop (fun z=>∃ k:Nat,k<=(evs p).length/\z=((k:Int),((msk (fun k=>f n k) k:Nat):Int))) (fun z=>(((evs p).length:Int)-z.1).toNat) ⟨0,by omega,rfl⟩ fun z ⟨k,k1,k2⟩ => ?_;subst k2;unfold lD;refine .bifD (fun hkk=>?_) fun hkk => .pure ?_
  ·simp only [] at hkk;refine Jo.bind (P:=(· = ((msk (fun k=>f n k) (k+1):Nat):Int))) ((Er hp hx (i:=n) (k:=k) (by omega) (by omega) name f h).bind fun v hv => .bif (fun hb => .gdD (by simp only [];omega) (.pure ?_)) fun hb => .pure ?_) fun v hv => .gdI (by simp only [];omega) (.pure ⟨⟨k+1,by omega,by rw [hv];rfl⟩,by simp only [];omega⟩)
   ·simp only [];rw [zM (by omega),yO (kI (by omega)) (by have := Nat.pow_lt_pow_right (a:=2) (by omega) (show k<63 by omega);omega)];rw [hv] at hb;simp only [msk,hb,if_true]
   ·rw [hv] at hb;simp only [msk,hb]
    rfl
  ·have : k=(evs p).length:=by simp only [] at hkk;omega
   rw [<- this]
 ·have : n=(evs p).length:=by simp only [] at hk;omega
  subst this
  rfl
theorem sS (hp:PV p) (f g:Int->Int->Bool):Jo (dO (jO p f (evs p).length) (jO p g (evs p).length)) (· = jO p (fun i k=>f i k||g i k) (evs p).length):=by
 have hel:=iz hp.vs;unfold dO;refine Jo.bind (P:=(· = jO p (fun i k=>f i k||g i k) (evs p).length)) ?_ fun v hv => .pure hv;refine Jo.loop (fun z=>∃ n:Nat,n<=(evs p).length/\z=(jO p (fun i k=>f i k||g i k) n,(n:Int))) (fun z=>(((evs p).length:Int)-z.2).toNat) ⟨0,by omega,rfl⟩ fun z ⟨n,h1,h2⟩ => ?_;subst h2;unfold iy;simp only [oF,tnn];refine .bifD (fun hk=>?_) fun hk => .pure ?_
 ·refine .gdD ⟨by omega,by omega⟩ (.gdD ⟨by omega,by omega⟩ (.gd (au (by omega) rfl) (.gdI (by omega) (.pure ⟨⟨n+1,by omega,?_⟩,by simp only [];omega⟩))));rw [sQ f (by omega),sQ g (by omega),yO (kI (by omega)) (kI (by omega)),Hp,uN]
  rfl
 ·have : n=(evs p).length:=by omega
  rw [this]
theorem Es (hp:PV p) (hx:XOk p x):Jo (fE p ⟨x.1,x.2⟩) (· = jO p (bef p x) (evs p).length):=by
 unfold fE;refine (vV hp hx _ (poB p) (.inl ⟨rfl,rfl⟩)).bind fun v1 h1=>(vV hp hx _ (rfB p x) (.inr (.inl ⟨rfl,rfl⟩))).bind fun v2 h2=>?_;subst h1 h2;refine (sS hp _ _).bind fun v3 h3=>(vV hp hx _ (coB p x) (.inr (.inr (.inl ⟨rfl,rfl⟩)))).bind fun v4 h4=>?_;subst h3 h4;refine (sS hp _ _).bind fun v5 h5=>(vV hp hx _ (frB p x) (.inr (.inr (.inr ⟨rfl,rfl⟩)))).bind fun v6 h6=>?_;subst h5 h6;exact (sS hp _ _).bind fun v7 h7 => .pure h7
theorem yP (hp:PV p) (l:Int):Jo (bW (evs p) l) (· = ((List.range (evs p).length).map fun (i:Nat)=>(i:Int)).filter (Wl p l)):=by
 have hel:=iz hp.vs;unfold bW;refine Jo.bind (P:=(· = ((List.range (evs p).length).map fun (i:Nat)=>(i:Int)).filter (Wl p l))) ?_ fun v hv => .pure hv;refine Jo.loop (fun z=>∃ n:Nat,n<=(evs p).length/\z=(((List.range n).map fun (i:Nat)=>(i:Int)).filter (Wl p l),(n:Int))) (fun z=>(((evs p).length:Int)-z.2).toNat) ⟨0,by omega,rfl⟩ fun z ⟨n,h1,h2⟩ => ?_;subst h2;unfold fO;have en:(evs p).getD n default=ev p (n:Int):=by unfold ev;rw [tnn]
 simp only [tnn,en];refine .bifD (fun hk=>?_) fun hk => .pure ?_
 ·have hsl:(((List.range n).map fun (i:Nat)=>(i:Int)).filter (Wl p l)).length<=n:=Nat.le_trans (List.length_filter_le _ _) (by simp);have hst:((List.range (n+1)).map fun (i:Nat)=>(i:Int)).filter (Wl p l)=((List.range n).map fun (i:Nat)=>(i:Int)).filter (Wl p l)++if Wl p l (n:Int) then [(n:Int)] else []:=by
   rw [List.range_succ,List.map_append,List.filter_append]
   congr 1
   by_cases h:Wl p l (n:Int)=true
   ·rw [if_pos h];simp [h]
   ·rw [if_neg h];simp [h]
  refine Jo.bind (P:=(· = ((List.range (n+1)).map fun (i:Nat)=>(i:Int)).filter (Wl p l))) (.gdD ⟨by omega,hk⟩ (Jo.bind (P:=(· = Wl p l (n:Int))) (.bif (fun h => .pure ?_) fun h => .pure ?_) fun b hb => .bif (fun h => .gd (au (by omega) rfl) (.pure ?_)) fun h => .pure ?_)) fun v hv => .gdI (by omega) (.pure ⟨⟨n+1,by omega,by rw [hv];rfl⟩,by simp only [];omega⟩)
  ·unfold Wl;rw [h,Bool.true_and];exact Fe _ _
  ·unfold Wl;rw [h];rfl
  ·rw [hst,<- hb,h];rfl
  ·rw [hst,<- hb,h];simp
 ·have : n=(evs p).length:=by omega
  rw [this]
theorem IV (hp:PV p) (R:Cand p x F):XOk p x:=by
 refine ⟨R.flen,R.olen,fun i=>?_⟩;rcases Nat.lt_or_ge i 3 with hi | hi
 ·have O:=R.ods (i:Int) (by omega);have h2:=iz hp.vs;have := List.Nodup.length_le_of_subset (l₂:=(List.range (evs p).length).map fun (i:Nat)=>(i:Int)) O.nd fun n hn=>by
   obtain ⟨a,b⟩:=(R.mem n).1 ((O.mem n).1 hn).1;exact List.mem_map.2 ⟨n.toNat,List.mem_range.2 (by omega),by omega⟩
  rw [llm,List.length_range] at this;have e:x.2.getD i default=od x (i:Int):=by unfold od;rw [tnn,vS]
  rw [e];omega
 ·rw [gdq,gen (by rw [R.olen];exact hi)];exact Nat.zero_le _
end
section
variable {p:List (List Jh)} {x:XS} {F:LI}
def Jr (p:List (List Jh)) (l:Int):LI:=((List.range (evs p).length).map fun (i:Nat)=>(i:Int)).filter (Wl p l)
theorem nI (n:Int):n∈(List.range (evs p).length).map (fun (i:Nat)=>(i:Int))↔0<=n/\n<((evs p).length:Int):=by
 rw [List.mem_map]
 constructor
 ·rintro ⟨a,h1,rfl⟩;have := List.mem_range.1 h1;omega
 ·rintro ⟨h1,h2⟩;exact ⟨n.toNat,List.mem_range.2 (by omega),by omega⟩
theorem Fh:((List.range (evs p).length).map (fun (i:Nat)=>(i:Int))).Nodup:=List.pairwise_map.2 (List.nodup_range.imp fun h e=>h (by omega))
theorem CO (R:Cand p x F) {l:Int} (hl:0<=l/\l<=2) (n:Int):n∈Jr p l↔n∈od x l:=by
 rw [(R.ods l hl).mem,R.mem];unfold Jr;rw [List.mem_filter,nI];unfold Wl;rw [bae,dte]
theorem Et {l:Nat} (hl:l<3):∃ t,Jr p (l:Int)=(l:Int)::t:=by
 have h3:3<=(evs p).length:=(sK p (Nat.zero_le p.length)).length_le;refine ⟨((List.range' 3 ((evs p).length-3)).map fun (i:Nat)=>(i:Int)).filter (Wl p (l:Int)),?_⟩;have e:List.range (evs p).length=[0,1,2]++List.range' 3 ((evs p).length-3):=by
  rw [List.range_eq_range',show [0,1,2]=List.range' 0 3 from rfl];have := List.range'_append (s:=0) (m:=3) (n:=(evs p).length-3) (step:=1);rw [show 3+((evs p).length-3)=(evs p).length by omega] at this;exact this.symm
 unfold Jr;rw [e,List.map_append,List.filter_append];have := W3 (p:=p) l hl;rw [show (([0,1,2]:List Nat).map fun (i:Nat)=>(i:Int))=([0,1,2]:LI) from rfl,this]
 rfl
theorem F9 (R:Cand p x F) {l:Nat} (hl:l<3):∃ t,od x (l:Int)=(l:Int)::t:=R.hd l hl
theorem CP (hp:PV p) {t k:Nat} (ht:t<p.length) (hk:k<(p.getD t default).length):Jo (gL (evs p) (t:Int) (k:Int)) (· = if sP p t k then -1 else (base p t k:Int)):=by
 have hel:=iz hp.vs;unfold gL;refine Jo.sum (PS:=fun _=>sP p t k) (PW:=(· = if sP p t k then -1 else (base p t k:Int))) ?_ fun _ hf => .pure (by rw [if_pos hf]);refine Jo.loop (fun z=>∃ n:Nat,n<=(evs p).length/\z=(n:Int)/\∀ j:Nat,j<n -> ¬ ((ev p (j:Int)).Thread=t/\(ev p (j:Int)).Index=k)) (fun z=>(((evs p).length:Int)-z).toNat) ⟨0,by omega,rfl,fun j hj=>by omega⟩ fun z ⟨n,n1,n2,n3⟩ => ?_;subst n2;unfold jX;have en:(evs p).getD n default=ev p (n:Int):=by unfold ev;rw [tnn]
 simp only [tnn,en];refine .bifD (fun hkk => .gdD ⟨by omega,hkk⟩ (Jo.bind (P:=fun b=>(b=true↔(ev p (n:Int)).Thread=t/\(ev p (n:Int)).Index=k)) (.bif (fun h => .pure ?_) fun h => .pure ?_) fun b hb => .bif (fun h => .pure ?_) fun h => .gdI (by omega) (.pure ⟨⟨n+1,by omega,rfl,fun j hj=>?_⟩,by omega⟩))) fun hkk => .pure ?_
 ·have h:=eq_of_beq h;rw [beq_iff_eq];exact ⟨fun e=>⟨h,e⟩,fun e=>e.2⟩
 ·have h:=beq_eq_false_iff_ne.1 h;exact ⟨fun e=>(by cases e),fun e=>absurd e.1 h⟩
 ·obtain ⟨h1,h2⟩:=hb.1 h;rcases dX (p:=p) (n:=(n:Int)) (by omega) hkk with h3 | ⟨t',k',h3,e⟩
  ·rw [(iV (p:=p) (l:=n) (by omega)).1] at h1;simp only at h1;omega
  ·rw [e,h3.ev.1] at h1 h2;simp only at h1 h2;have e1:t'=t:=by omega
   have e2:k'=k:=by omega
   subst e1 e2;rw [if_neg (show ¬ sP p t' k' from h3.o)];exact e
 ·rcases Nat.lt_or_ge j n with h' | h'
  ·exact n3 j h'
  ·rw [show j=n by omega];exact fun e=>by rw [hb.2 e] at h;cases h
 ·have : n=(evs p).length:=by omega
  subst this
  by_cases hf:sP p t k
  ·exact hf
  ·exfalso;have hI:Isn p t k:=⟨ht,hk,hf⟩;refine n3 (base p t k) hI.ev.2 ?_;rw [hI.ev.1];exact ⟨rfl,rfl⟩
def dmk (p:List (List Jh)) (a:Nat->Nat):Int:=((msk (fun j=>dn p a (j:Int)) (evs p).length:Nat):Int)
theorem CQ (hp:PV p) (R:Cand p x F) (a:Nat->Nat) {n:Nat} (hn:n<(evs p).length):Jo (gM (jO p (bef p x) (evs p).length) (dmk p a) (n:Int)) fun b=>(b=true↔m9 p x F a (n:Int)):=by
 have hel:=iz hp.vs;unfold gM;refine Jo.sum (PS:=fun _=>m9 p x F a (n:Int)) (PW:=fun b=>(b=true↔m9 p x F a (n:Int))) ?_ fun _ h => .pure ⟨fun _=>h,fun _=>rfl⟩;refine Jo.loop (fun z=>∃ i:Nat,i<=(evs p).length/\z=(i:Int)/\∀ j:Nat,j<i->bef p x (j:Int) (n:Int)=true->dn p a (j:Int)=true) (fun z=>(((evs p).length:Int)-z).toNat) ⟨0,by omega,rfl,fun j hj=>by omega⟩ fun z ⟨i,i1,i2,i3⟩ => ?_;subst i2;unfold jY;simp only [oF];refine .bifD (fun hk=>?_) fun hk => .pure ?_
 ·refine Jo.bind (P:=(· = bef p x (i:Int) (n:Int))) ?_ fun v7 h7=>?_
  ·unfold ma;simp only [oF,tnn];refine .gdD ⟨by omega,hk⟩ (.gdD (by omega) (.pure ?_));rw [sQ _ (by omega),Ff (kI (by omega)) (by omega),jG,decide_eq_true hn,Bool.true_and]
   cases bef p x (i:Int) (n:Int) <;> rfl
  ·subst h7;refine Jo.bind (P:=(· = (bef p x (i:Int) (n:Int) && !dn p a (i:Int)))) (.bif (fun h => .gdD (by omega) (.pure ?_)) fun h => .pure (by rw [h];rfl)) fun v8 h8 => .bif (fun h => .pure ?_) fun h => .gdI (by omega) (.pure ⟨⟨i+1,by omega,rfl,fun j hj hb=>?_⟩,by omega⟩)
   ·unfold dmk;rw [h,Ff (kI (by omega)) (by omega),jG,decide_eq_true (show i<(evs p).length by omega),Bool.true_and]
    cases dn p a (i:Int) <;> rfl
   ·rw [h] at h8;have h8:=h8.symm;simp only [bae,Bool.not_eq_true'] at h8;refine ⟨fun e=>(by cases e),fun hr=>?_⟩;have := hr (i:Int) ((R.mem _).2 ⟨by omega,hk⟩) h8.1;rw [h8.2] at this
    cases this
   ·rcases Nat.lt_or_ge j i with h' | h'
    ·exact i3 j h' hb
    ·have : j=i:=by omega
     subst this;rw [h,hb,Bool.true_and] at h8;simpa using h8.symm
 ·have : i=(evs p).length:=by omega
  subst this;intro m hm hb;obtain ⟨m0,m1⟩:=(R.mem m).1 hm;have := i3 m.toNat (by omega);rw [Int.toNat_of_nonneg m0] at this;exact this hb
def mu (p:List (List Jh)) (a:Nat->Nat):Nat:=((List.range p.length).map fun t=>(p.getD t default).length-a t).sum
theorem yQ {f g:Nat->Nat}:∀ {n t:Nat},t<n->f t=g t+1->(∀ u,u<n->u≠t->f u=g u)->((List.range n).map f).sum=((List.range n).map g).sum+1
 | 0,t,h,_,_=>by omega
 | n+1,t,h,h1,h2=>by
  rw [List.range_succ,List.map_append,List.map_append,List.sum_append,List.sum_append];simp only [List.map_cons,List.map_nil,List.sum_cons,List.sum_nil]
  by_cases e:t=n
  ·subst e;have : (List.range t).map f=(List.range t).map g:=List.map_congr_left fun u hu=>h2 u (by have := List.mem_range.1 hu;omega) (by have := List.mem_range.1 hu;omega);rw [this,h1];omega
  ·have := yQ (n:=n) (t:=t) (by omega) h1 fun u hu hne=>h2 u (by omega) hne;rw [this,h2 n (by omega) (fun e'=>e e'.symm)];omega
theorem xw {a:Nat->Nat} {t:Nat} (ht:t<p.length) (hk:a t<(p.getD t default).length):mu p a=mu p (adv a t)+1:=
 yQ ht (by
  show (p.getD t default).length-a t=(p.getD t default).length-adv a t t+1;unfold adv;rw [if_pos rfl];omega) fun u _ hne=>by
  show (p.getD u default).length-a u=(p.getD u default).length-adv a t u;unfold adv;rw [if_neg hne]
theorem Fj {f:Nat->Nat} {m:Nat} (h:∀ u,f u<=m):∀ n:Nat,((List.range n).map f).sum<=n*m
 | 0=>by simp
 | n+1=>by
  rw [List.range_succ,List.map_append,List.sum_append];simp only [List.map_cons,List.map_nil,List.sum_cons,List.sum_nil];have h1:=Fj h n;have h2:=h n;rw [Nat.add_mul];omega
theorem Eu (hp:PV p) (a:Nat->Nat):mu p a<=21:=by
 have h1:=Fj (f:=fun t=>(p.getD t default).length-a t) (m:=7) (fun u=>by have := hp.vs.2 u;show (p.getD u default).length-a u<=7;omega) p.length;have h2:=hp.vs.1;unfold mu;omega
def ats (p:List (List Jh)) (a:Nat->Nat):LI:=(List.range p.length).map fun t=>(a t:Int)
theorem CS {a:Nat->Nat} {t:Nat} (ht:t<p.length):(ats p a).getD t default=(a t:Int):=by
 unfold ats;rw [gdq,List.getElem?_map,List.getElem?_range ht]
 rfl
theorem CU (a:Nat->Nat):(ats p a).length=p.length:=by simp [ats]
theorem Ga {a:Nat->Nat} {t:Nat} (ht:t<p.length):(ats p a).set t ((a t:Int)+1)=ats p (adv a t):=by
 apply List.ext_getElem?;intro i;rw [List.getElem?_set];unfold ats;simp only [llm,List.length_range,List.getElem?_map]
 by_cases e:t=i
 ·subst e;rw [if_pos rfl,if_pos ht,List.getElem?_range ht];simp [adv]
 ·rw [if_neg e];rcases Nat.lt_or_ge i p.length with h | h
  ·rw [List.getElem?_range h];simp [adv,Ne.symm e]
  ·rw [gen (by simpa using h)]
   rfl
theorem StA.adv {a:Nat->Nat} {t:Nat} (h:StA p a) (hk:a t<(p.getD t default).length):StA p (Go.Proofs.YtlmjnhnpahicmaaGreat.adv a t):=fun u hu=>by
 unfold Go.Proofs.YtlmjnhnpahicmaaGreat.adv
 by_cases e:u=t
 ·subst e;rw [if_pos rfl];omega
 ·rw [if_neg e];exact h u hu
theorem Gb (hp:PV p) (R:Cand p x F) {a:Nat->Nat} {t:Nat} (ht:t<p.length) (hk:a t<(p.getD t default).length):(if sP p t (a t) then dmk p a else bOr .i64 (dmk p a) (FM .i64 1 (base p t (a t):Int)))=dmk p (adv a t):=by
 have hel:=iz hp.vs;have hB:=kH R ht hk;have mF:∀ j:Nat,j<(evs p).length->(j:Int)∈F:=fun j hj=>(R.mem _).2 ⟨by omega,by omega⟩
 by_cases hf:sP p t (a t)
 ·rw [if_pos hf];unfold dmk
  congr 1
  apply Nat.eq_of_testBit_eq;intro j;rw [jG,jG]
  by_cases hj:j<(evs p).length
  ·rw [decide_eq_true hj,Bool.true_and,Bool.true_and];have := hB (j:Int) (mF j hj);unfold nxt at this;rw [if_pos hf] at this;rw [Bool.eq_iff_iff,this];simp
  ·rw [decide_eq_false hj];rfl
 ·rw [if_neg hf];have hI:Isn p t (a t):=⟨ht,hk,hf⟩;have hb:=hI.ev.2;unfold dmk;rw [zM (by omega),yO (kI (by omega)) (by have := Nat.pow_lt_pow_right (a:=2) (by omega) (show base p t (a t)<63 by omega);omega)]
  congr 1
  apply Nat.eq_of_testBit_eq;intro j;rw [Nat.testBit_or,jG,jG,Nat.testBit_two_pow]
  by_cases hj:j<(evs p).length
  ·rw [decide_eq_true hj,Bool.true_and,Bool.true_and];have := hB (j:Int) (mF j hj);unfold nxt at this;rw [if_neg hf] at this;rw [Bool.eq_iff_iff,this];simp only [Bool.or_eq_true,dte,sie]
   constructor
   ·rintro (h | h)
    ·exact .inl h
    ·exact .inr (by omega)
   ·rintro (h | h)
    ·exact .inl h
    ·exact .inr (by omega)
  ·rw [decide_eq_false hj];simp only [Bool.false_and,Bool.false_or,decide_eq_false_iff_not];omega
theorem Ev (hp:PV p):dmk p (fun _=>0)=7:=by
 have h3:3<=(evs p).length:=(sK p (Nat.zero_le p.length)).length_le;unfold dmk;have : msk (fun j=>dn p (fun _=>0) (j:Int)) (evs p).length=2 ^ 3-1:=by
  apply Nat.eq_of_testBit_eq;intro j;rw [jG,Nat.testBit_two_pow_sub_one]
  by_cases hj:j<(evs p).length
  ·rw [decide_eq_true hj,Bool.true_and];rcases dX (p:=p) (n:=(j:Int)) (by omega) (by omega) with h | ⟨t,k,h,e⟩
   ·rw [decide_eq_true (show j<3 by omega)];exact mf (by omega) h
   ·have := yN (p:=p) t k;rw [decide_eq_false (show ¬ j<3 by omega),e]
    cases hd:dn p (fun _=>0) (base p t k:Int) with
    | false=>rfl
    | true=>have := (gU h).1 hd;omega
  ·rw [decide_eq_false hj,decide_eq_false (show ¬ j<3 by omega)];rfl
 rw [this]
 rfl
theorem lj (hp:PV p) (R:Cand p x F):Closed p x F (fun _=>0):=fun i k hi hk hb hd=>by
 obtain ⟨k0,k1⟩:=(R.mem k).1 hk;obtain ⟨i0,i1⟩:=(R.mem i).1 hi;rcases dX k0 k1 with h | ⟨t,j,h,rfl⟩
 ·rcases dX i0 i1 with h' | ⟨t',j',h',rfl⟩
  ·exact mf i0 h'
  ·exfalso;have hk3:=(iV (p:=p) (l:=k.toNat) (by omega)).1;rw [Int.toNat_of_nonneg k0] at hk3;obtain ⟨tl,htl⟩:=R.hd k.toNat (by omega);rw [Int.toNat_of_nonneg k0] at htl;have hpk:plc (od x k) k=0:=by
    rw [dJ (by rw [htl];simp),htl,List.idxOf_cons_self]
    rfl
   unfold bef at hb;simp only [Bool.or_eq_true] at hb;rcases hb with ((h1 | h1) | h1) | h1
   ·simp only [poB,bae,dte,hk3] at h1;omega
   ·simp only [rfB,bae,hk3] at h1;exact absurd h1.1 (by decide)
   ·simp only [coB,bae,dte,hk3] at h1;obtain ⟨⟨⟨g1,_⟩,g3⟩,g4⟩:=h1;rw [g3,hpk,dJ (((R.ods k (by omega)).mem _).2 ⟨hi,g1,g3⟩)] at g4;omega
   ·simp only [frB,bae,dte,hk3] at h1;obtain ⟨⟨⟨⟨g1,_⟩,g3⟩,_⟩,g5⟩:=h1;have := R.rdc _ hi g1;rw [g3] at this g5;rw [hpk,dJ this] at g5;omega
 ·have := (gU h).1 hd;omega
theorem uO (R:Cand p x F) {a:Nat->Nat} {t:Nat} (ht:t<p.length) (hk:a t<(p.getD t default).length):dx p x F a t↔sP p t (a t)\/m9 p x F a (base p t (a t):Int):=by
 unfold dx nxt
 by_cases hf:sP p t (a t)
 ·rw [if_pos hf];exact ⟨fun _ => .inl hf,fun _=>⟨ht,hk,fun n h=>by cases h⟩⟩
 ·rw [if_neg hf];refine ⟨fun h => .inr (h.2.2 _ rfl),fun h=>⟨ht,hk,fun n hn=>?_⟩⟩;injection hn with hn;subst hn;rcases h with h | h
  ·exact absurd h hf
  ·exact h
theorem mM (R:Cand p x F) {a:Nat->Nat} {t:Nat} (hc:Closed p x F a) (h:dx p x F a t):Closed p x F (adv a t):=CL hc h.2.2 (kH R h.1 h.2.1)
theorem xx (hp:PV p) (R:Cand p x F):Jo (cK p (jO p (bef p x) (evs p).length)) fun v=>(v.2=true->Gr p x F (fun _=>0) v.1)/\(v.2=false->v.1=[]/\∃ a,StA p a /\ ¬ DT p a/\∀ t,¬ dx p x F a t):=by
 have hl:=hp.vs.1;have hel:=iz hp.vs;unfold cK;refine (yL hp.vs).bind fun v1 h1=>?_;subst h1;refine .gdD (by omega) (Jo.bind (P:=(· = 7)) ?_ fun v3 h3=>?_)
 ·unfold lc;exact .gdD (by omega) (.gd rfl (.pure rfl))
 subst h3;refine Jo.bind (P:=fun z=>∃ a,StA p a/\z.1=ats p a/\(∀ t,¬ dx p x F a t)/\(DT p a->Gr p x F (fun _=>0) z.2)) ?_ fun s4 ⟨a,g0,g1,g2,g3⟩ => ?_
 ·refine Jo.loop (fun z=>∃ a,StA p a/\Closed p x F a/\z.1=ats p a/\z.2.2.2=dmk p a/\z.2.1.length+mu p a<=21/\(∀ r,Gr p x F a r->Gr p x F (fun _=>0) (z.2.1++r))/\(z.2.2.1=false->∀ t,¬ dx p x F a t)) (fun z=>(((21-z.2.1.length:Nat))*2+if z.2.2.1 then 1 else 0)) ⟨fun _=>0,fun t _=>Nat.zero_le _,lj hp R,?_,(Ev hp).symm,by have := Eu hp (fun _=>0);simpa using this,(by intro r hr;exact hr),fun h=>by cases h⟩ fun z ⟨a,z1,z2,z3,z4,z5,z6,z7⟩ => ?_
  ·simp only [tnn];apply List.ext_getElem?;intro i;unfold ats;rw [List.getElem?_replicate,List.getElem?_map]
   split
   ·rename_i h;rw [List.getElem?_range h]
    rfl
   ·rename_i h;rw [gen (by simpa using h)]
    rfl
  obtain ⟨atl,out,more,dm⟩:=z;simp only at z3 z4 z5 z6 z7;subst z3 z4;unfold gQ;simp only [];refine .bif (fun hm=>?_) fun hm => .pure ?_
  ·refine Jo.loop (fun w=>∃ n:Nat,n<=p.length/\w.2.2.1=(n:Int)/\((w.2.2.2.1=false/\w.1=ats p a/\w.2.1=out/\w.2.2.2.2=dmk p a/\∀ u,u<n -> ¬ dx p x F a u)\/(w.2.2.2.1=true/\∃ u,dx p x F a u/\(∀ v,v<u -> ¬ dx p x F a v)/\w.1=ats p (adv a u)/\w.2.1=out++[(u:Int)]/\w.2.2.2.2=dmk p (adv a u)))) (fun w=>((p.length:Int)-w.2.2.1).toNat) ⟨0,by omega,rfl,.inl ⟨rfl,rfl,rfl,rfl,fun u hu=>by omega⟩⟩ fun w ⟨n,n1,n2,n3⟩ => ?_;obtain ⟨w1,w2,w3,w4,w5⟩:=w;simp only at n2 n3;subst n2;unfold gP;simp only [tnn];refine Jo.bind (P:=fun b=>(b=true↔n<p.length/\w4=false)) (.bifD (fun h => .pure ?_) fun h => .pure ?_) fun b hb => .bif (fun h=>?_) fun h => .pure ?_
   ·cases w4
    ·exact ⟨fun _=>⟨by omega,rfl⟩,fun _=>rfl⟩
    ·exact ⟨fun e=>(by cases e),fun e=>(by cases e.2)⟩
   ·exact ⟨fun e=>(by cases e),fun e=>by omega⟩
   ·obtain ⟨hn,e4⟩:=hb.1 h;subst e4;rcases n3 with n3 | ⟨e,_⟩
    rotate_left
    ·cases e
    obtain ⟨_,e1,e2,e5,hno⟩:=n3;subst e1 e2 e5;have hrow:=hp.vs.2 n;have ha:=z1 n hn;refine Jo.bind (P:=fun s=>(s.2.2.1=false/\s.1=ats p a/\s.2.1=w2/\s.2.2.2=dmk p a /\ ¬ dx p x F a n)\/(s.2.2.1=true/\dx p x F a n/\s.1=ats p (adv a n)/\s.2.1=w2++[(n:Int)]/\s.2.2.2=dmk p (adv a n))) (.gdD ⟨by omega,by rw [CU];omega⟩ (.gdD ⟨by omega,by omega⟩ ?_)) fun s hs => .gdI (by omega) (.pure ⟨⟨n+1,by omega,rfl,?_⟩,by simp only [];omega⟩)
    ·rw [CS hn];refine .bif (fun he => .pure (.inl ⟨rfl,rfl,rfl,rfl,fun hr=>?_⟩)) fun he=>?_
     ·have he:=eq_of_beq he;have := hr.2.1;omega
     have he:=beq_eq_false_iff_ne.1 he;have hk:a n<(p.getD n default).length:=by omega
     refine (CP hp hn hk).bind fun v29 h29=>?_;refine Jo.bind (P:=fun b=>(b=true ↔ ¬ dx p x F a n)) (.bifD (fun h0=>?_) fun h0 => .pure ⟨fun e=>(by cases e),fun e=>?_⟩) fun b30 h30 => .bif (fun h => .pure (.inl ⟨rfl,rfl,rfl,rfl,h30.1 h⟩)) fun h=>?_
     ·have hf : ¬ sP p n (a n):=fun hf=>by rw [if_pos hf] at h29;omega
      rw [if_neg hf] at h29;subst h29;refine (CQ hp R a (n:=base p n (a n)) (Isn.ev ⟨hn,hk,hf⟩).2).bind fun v32 h32 => .pure ?_;rw [uO R hn hk]
      cases v32 with
      | true=>exact ⟨fun e=>(by cases e),fun e=>absurd (.inr (h32.1 rfl)) e⟩
      | false=>
       refine ⟨fun _ e=>?_,fun _=>rfl⟩;rcases e with e | e
       ·exact hf e
       ·have := h32.2 e
        cases this
     ·have hf:sP p n (a n):=Classical.byContradiction fun hf=>by rw [if_neg hf] at h29;omega
      exact absurd ((uO R hn hk).2 (.inl hf)) e
     ·have hr:dx p x F a n:=Classical.byContradiction fun hr=>by rw [h30.2 hr] at h;cases h
      refine Jo.bind (P:=(· = dmk p (adv a n))) ?_ fun v34 h34 => .gdI (by omega) (.gd (au (by omega) rfl) (.pure (.inr ⟨rfl,hr,Ga hn,rfl,h34⟩)));have hd:=Gb hp R hn hk;refine .bifD (fun h0 => .gdD h0 (.pure ?_)) fun h0 => .pure ?_
      ·have hf : ¬ sP p n (a n):=fun hf=>by rw [if_pos hf] at h29;omega
       rw [if_neg hf] at hd h29;rw [h29];exact hd
      ·have hf:sP p n (a n):=Classical.byContradiction fun hf=>by rw [if_neg hf] at h29;omega
       rw [if_pos hf] at hd;exact hd
    ·rcases hs with ⟨s1,s2,s3,s4,s5⟩ | ⟨s1,s2,s3,s4,s5⟩
     ·refine .inl ⟨s1,s2,s3,s4,fun u hu=>?_⟩;rcases Nat.lt_or_ge u n with h' | h'
      ·exact hno u h'
      ·rw [show u=n by omega];exact s5
     ·exact .inr ⟨s1,n,s2,hno,s3,s4,s5⟩
   ·rcases n3 with ⟨e4,e1,e2,e5,hno⟩ | ⟨e4,u,hu,hno,e1,e2,e5⟩
    ·subst e4 e1 e2 e5;have hn:n=p.length:=by
      rcases Nat.lt_or_ge n p.length with h' | h'
      ·rw [hb.2 ⟨h',rfl⟩] at h;cases h
      ·omega
     exact ⟨⟨a,z1,z2,rfl,rfl,z5,z6,fun _ t ht=>hno t (by have := ht.1;omega) ht⟩,by simp only [hm];simp⟩
    ·subst e4 e1 e2 e5;have hmu:=xw hu.1 hu.2.1;refine ⟨⟨adv a u,z1.adv hu.2.1,mM R z2 hu,rfl,rfl,by simp only [lla,List.length_singleton];omega,fun r hr=>?_,fun e=>by cases e⟩,?_⟩
     ·rw [List.append_assoc];exact z6 _ (.cons hu hno hr)
     ·simp only [hm,lla,List.length_singleton];omega
  ·refine ⟨a,z1,rfl,z7 hm,fun hf=>?_⟩;have := z6 [] (.nil hf)
   rwa [List.append_nil] at this
 ·refine Jo.sum (PS:=fun _=>∀ t,t<p.length->a t=(p.getD t default).length) (PW:=fun (v:List Int×Bool)=>(v.2=true->Gr p x F (fun _=>0) v.1)/\(v.2=false->v.1=[]/\∃ a,StA p a /\ ¬ DT p a/\∀ t,¬ dx p x F a t)) ?_ fun _ h=>?_
  ·refine Jo.loop (fun z=>∃ n:Nat,n<=p.length/\z=(n:Int)/\∀ t,t<n->a t=(p.getD t default).length) (fun z=>((p.length:Int)-z).toNat) ⟨0,by omega,rfl,fun t ht=>by omega⟩ fun z ⟨n,n1,n2,n3⟩ => ?_;subst n2;unfold jZ;simp only [tnn,g1,CU];refine .bifD (fun hk => .gdD ⟨by omega,by omega⟩ (.gdD ⟨by omega,hk⟩ ?_)) fun _ => .pure fun t ht=>n3 t (by omega);have hn:n<p.length:=by omega
   have ha:=g0 n hn;rw [CS hn];refine .bifD (fun h => .pure ⟨fun e=>(by cases e),fun _=>⟨rfl,a,g0,fun hf=>by have := hf n hn;omega,g2⟩⟩) fun h => .gdI (by omega) (.pure ⟨⟨n+1,by omega,rfl,fun t ht=>?_⟩,by omega⟩);rcases Nat.lt_or_ge t n with h' | h'
   ·exact n3 t h'
   ·rw [show t=n by omega];omega
  ·exact .pure ⟨fun _=>g3 h,fun e=>by cases e⟩
theorem Ew (hp:PV p) (R:RunOf p x F):Jo (cK p (jO p (bef p x) (evs p).length)) fun v=>v.2=true/\Gr p x F (fun _=>0) v.1:=by
 obtain ⟨v,e,h1,h2⟩:=xx hp (R.cand hp);refine ⟨v,e,?_⟩
 cases hv:v.2 with
 | true=>exact ⟨hv,h1 hv⟩
 | false=>
  obtain ⟨_,a,g1,g2,g3⟩:=h2 hv;obtain ⟨t,ht⟩:=CN hp R g1 g2;exact absurd ht (g3 t)
end
section
variable {p:List (List Jh)} {x:XS} {F:LI}
def wq (p:List (List Jh)) (t:Nat) (l:Int) (k:Nat):Bool:=wrX (ins p t k)&&decide ((ins p t k).Loc=l)
def cwr (p:List (List Jh)) (t:Nat) (l:Int) (m:Nat):Nat:=((List.range m).filter (wq p t l)).length
theorem oH (t:Nat) (l:Int) (m:Nat):cwr p t l (m+1)=cwr p t l m+if wq p t l m then 1 else 0:=by
 unfold cwr;rw [List.range_succ,List.filter_append,lla]
 by_cases h:wq p t l m=true
 ·rw [if_pos h,List.filter_cons_of_pos h];rfl
 ·rw [if_neg h,List.filter_cons_of_neg h];rfl
def cnt (p:List (List Jh)) (a:Nat->Nat) (l:Int) (n:Nat):Nat:=((List.range n).map fun t=>cwr p t l (a t)).sum
theorem vW (a:Nat->Nat) (l:Int) (n:Nat):cnt p a l (n+1)=cnt p a l n+cwr p n l (a n):=by
 unfold cnt;rw [List.range_succ,List.map_append,List.sum_append];simp
def dE (a:Nat->Nat) (l:Int) (e:Jj):Bool:=(e.Writes&&decide (e.Loc=l))&&(decide (e.Thread<0)||decide (e.Index<(a e.Thread.toNat:Int)))
theorem CV (a:Nat->Nat) (l:Int) (t:Nat):∀ m:Nat,((evR t (p.getD t default) m).filter (dE a l)).length=cwr p t l (min m (a t))
 | 0=>by simp [evR,cwr]
 | m+1=>by
  have ih:=CV a l t m;simp only [evR,List.filter_append,lla,ih];have hx:((p.getD t default).getD m default)=ins p t m:=rfl;unfold evI;rw [hx]
  by_cases ho:(ins p t m).Op=4
  ·rw [if_pos ho];have hw:wq p t l m=false:=by unfold wq wrX;rw [ho];rfl
   by_cases hm:m<a t
   ·rw [show min (m+1) (a t)=min m (a t)+1 by omega,oH,show min m (a t)=m by omega,hw];rfl
   ·rw [show min (m+1) (a t)=min m (a t) by omega];rfl
  ·rw [if_neg ho];have hd:dE a l ⟨t,m,(ins p t m).Loc,rdX (ins p t m),wrX (ins p t m)⟩=(wq p t l m&&decide (m<a t)):=by
    unfold dE wq;simp only [tnn]
    congr 1
    rw [Bool.eq_iff_iff];simp only [Bool.or_eq_true,dte];omega
   by_cases hm:m<a t
   ·rw [decide_eq_true hm,Bool.and_true] at hd;rw [show min (m+1) (a t)=min m (a t)+1 by omega,oH,show min m (a t)=m by omega]
    by_cases hw:wq p t l m=true
    ·rw [List.filter_cons_of_pos (by rw [hd];exact hw),if_pos hw];rfl
    ·rw [List.filter_cons_of_neg (by rw [hd];exact hw),if_neg hw];rfl
   ·rw [decide_eq_false hm,Bool.and_false] at hd;rw [show min (m+1) (a t)=min m (a t) by omega,List.filter_cons_of_neg (by rw [hd];decide)];rfl
theorem CX {a:Nat->Nat} (ha:StA p a) {l:Nat} (hl:l<3):∀ n:Nat,n<=p.length->((evP p n).filter (dE a (l:Int))).length=cnt p a (l:Int) n+1
 | 0,_=>by
  match l,hl with
  | 0,_=>rfl
  | 1,_=>rfl
  | 2,_=>rfl
 | n+1,hn=>by
  have ih:=CX ha hl n (by omega);simp only [evP,List.filter_append,lla,ih,CV,vW];rw [show min (p.getD n default).length (a n)=a n by have := ha n (by omega);omega];omega
theorem qG {α:Type} (P:α->Bool) (d:α) (L:List α):((List.range L.length).filter fun i=>P (L.getD i d)).length=(L.filter P).length:=by
 induction L using rq with
 | h0=>rfl
 | hs L b ih=>
  rw [lla,List.length_singleton,List.range_succ,List.filter_append,lla,List.filter_append,lla];have e1:(List.range L.length).filter (fun i=>P ((L++[b]).getD i d))=(List.range L.length).filter fun i=>P (L.getD i d):=List.filter_congr fun i hi=>by
   rw [gdq,gdq,gal (List.mem_range.1 hi)]
  have e2:(L++[b]).getD L.length d=b:=by
   rw [gdq,gar (Nat.le_refl _)];simp
  rw [e1,ih]
  congr 1
  by_cases h:P b=true
  ·rw [List.filter_cons_of_pos h,List.filter_cons_of_pos (by rw [e2];exact h)];rfl
  ·rw [List.filter_cons_of_neg h,List.filter_cons_of_neg (by rw [e2];exact h)];rfl
theorem Ex (hp:PV p) (R:Cand p x F) {a:Nat->Nat} (ha:StA p a) {l:Nat} (hl:l<3):dc p x a (l:Int)=cnt p a (l:Int) p.length+1:=by
 rw [<- CX ha hl p.length (Nat.le_refl _)];show dc p x a (l:Int)=((evs p).filter (dE a (l:Int))).length;rw [<- qG (dE a (l:Int)) default (evs p)];have O:=R.ods (l:Int) (by omega);have h1:((List.range (evs p).length).filter fun i=>dE a (l:Int) ((evs p).getD i default)).length=((Jr p (l:Int)).filter (dn p a)).length:=by
  unfold Jr;rw [List.filter_filter,List.filter_map,llm]
  congr 2
  funext i
  show dE a (l:Int) ((evs p).getD i default)=(dn p a (i:Int)&&Wl p (l:Int) (i:Int));unfold dE dn Wl ev;rw [tnn,Bool.and_comm]
 rw [h1];have hnd:((Jr p (l:Int)).filter (dn p a)).Nodup:=List.Pairwise.filter _ (List.Pairwise.filter _ Fh);have hnd2:((od x (l:Int)).filter (dn p a)).Nodup:=List.Pairwise.filter _ O.nd;have g1:=List.Nodup.length_le_of_subset hnd2 (l₂:=(Jr p (l:Int)).filter (dn p a)) fun n hn=>by
  obtain ⟨m1,m2⟩:=List.mem_filter.1 hn;exact List.mem_filter.2 ⟨(CO R (by omega) n).2 m1,m2⟩
 have g2:=List.Nodup.length_le_of_subset hnd (l₂:=(od x (l:Int)).filter (dn p a)) fun n hn=>by
  obtain ⟨m1,m2⟩:=List.mem_filter.1 hn;exact List.mem_filter.2 ⟨(CO R (by omega) n).1 m1,m2⟩
 unfold dc;omega
def aP (pc:Z3i) (t:Nat):Nat:=if t<3 then (Z3i.get pc (t:Int)).toNat else 0
def NNp (pc:Z3i):Prop:=0<=pc.x0/\0<=pc.x1/\0<=pc.x2
theorem uP {pc:Z3i} (h:NNp pc) {t:Nat} (ht:t<3):Z3i.get pc (t:Int)=(aP pc t:Int):=by
 obtain ⟨a,b,c⟩:=pc;obtain ⟨h0,h1,h2⟩:=h;unfold aP;rw [if_pos ht]
 match t,ht with
 | 0,_=>exact (Int.toNat_of_nonneg h0).symm
 | 1,_=>exact (Int.toNat_of_nonneg h1).symm
 | 2,_=>exact (Int.toNat_of_nonneg h2).symm
theorem Fq {pc:Z3i} (h:NNp pc) {t:Nat} (ht:t<3):aP (Z3i.set pc (t:Int) (Z3i.get pc (t:Int)+1))=adv (aP pc) t/\NNp (Z3i.set pc (t:Int) (Z3i.get pc (t:Int)+1)):=by
 have h0:=uP h ht;refine ⟨funext fun u=>?_,?_⟩
 ·unfold adv
  by_cases hu:u<3
  ·unfold aP;rw [if_pos hu,CH _ _ _ _ (by omega) (by omega)]
   by_cases e:u=t
   ·subst e;rw [if_pos rfl,if_pos rfl,if_pos hu];omega
   ·rw [if_neg (by omega),if_neg e,if_pos hu]
  ·unfold aP;rw [if_neg hu,if_neg (by omega),if_neg hu]
 ·obtain ⟨a,b,c⟩:=pc;obtain ⟨g0,g1,g2⟩:=h;simp only at g0 g1 g2
  match t,ht with
  | 0,_=>exact ⟨by show 0<=a+1;omega,g1,g2⟩
  | 1,_=>exact ⟨g0,by show 0<=b+1;omega,g2⟩
  | 2,_=>exact ⟨g0,g1,by show 0<=c+1;omega⟩
theorem Ey (hp:PV p) {pc:Z3i} (h:NNp pc) (ha:StA p (aP pc)) (e:Ji) (nm:LL) (l:Int):Jo (dV ⟨p,e,nm⟩ pc l) (· = (cnt p (aP pc) l p.length:Int)):=by
 have hl:=hp.vs.1;have cwl:∀ t k:Nat,cwr p t l k<=k:=fun t k=>Nat.le_trans (List.length_filter_le _ _) (by simp);unfold dV;refine Jo.bind (P:=(· = (cnt p (aP pc) l p.length:Int))) ?_ fun v hv => .pure hv;refine Jo.loop (fun z=>∃ n:Nat,n<=p.length/\z=((n:Int),(cnt p (aP pc) l n:Int))/\cnt p (aP pc) l n<=7*n) (fun z=>((p.length:Int)-z.1).toNat) ⟨0,by omega,rfl,by simp [cnt]⟩ fun z ⟨n,n1,n2,n3⟩ => ?_;subst n2;unfold iM;simp only [tnn];refine .bifD (fun hk=>?_) fun hk => .pure ?_
 ·have hn:n<p.length:=by omega
  have hg:=uP h (t:=n) (by omega);have han:=ha n hn;have hrow:=hp.vs.2 n;have hcl:=cwl n (aP pc n);refine Jo.bind (P:=(· = (cnt p (aP pc) l (n+1):Int))) (.gdD ⟨by omega,hk⟩ (.gdD ⟨by omega,by omega⟩ (.gdD ⟨by omega,by omega,by omega⟩ ?_))) fun v hv => .gdI (by omega) (.pure ⟨⟨n+1,by omega,by rw [hv];rfl,by rw [vW];omega⟩,by simp only [];omega⟩);have hsl:(((p.getD n default).drop (0:Int).toNat).take ((Z3i.get pc (n:Int)).toNat-(0:Int).toNat))=(p.getD n default).take (aP pc n):=by rw [hg];simp
  refine Jo.loop (fun z=>∃ k:Nat,k<=aP pc n/\z=((k:Int),((cnt p (aP pc) l n+cwr p n l k:Nat):Int))) (fun z=>((aP pc n:Int)-z.1).toNat) ⟨0,by omega,rfl⟩ fun z ⟨k,k1,k2⟩ => ?_;subst k2;unfold ic;simp only [tnn,hsl];have hlen:((p.getD n default).take (aP pc n)).length=aP pc n:=by rw [List.length_take];omega
  rw [hlen];refine .bifD (fun hkk=>?_) fun hkk => .pure ?_
  ·have hgk:((p.getD n default).take (aP pc n)).getD k default=ins p n k:=by
    unfold ins;rw [gdq,List.getElem?_take,if_pos (by omega),<- gdq]
   rw [hgk];obtain ⟨b2,w1,w2⟩:=vL (ins p n k);have hck:=cwl n k;refine Jo.bind (P:=(· = ((cnt p (aP pc) l n+cwr p n l (k+1):Nat):Int))) (.gdD ⟨by omega,hkk⟩ ((Jo.of (P:=(· = wrX (ins p n k))) w1 w2).bind fun v18 h18=>?_)) fun v hv => .gdI (by omega) (.pure ⟨⟨k+1,by omega,by rw [hv];rfl⟩,by simp only [];omega⟩);subst h18;refine Jo.bind (P:=(· = wq p n l k)) (.bif (fun hw => .pure ?_) fun hw => .pure ?_) fun b hb=>?_
   ·unfold wq;rw [hw,Bool.true_and];exact Fe _ _
   ·unfold wq;rw [hw];rfl
   ·subst hb;rw [oH];exact .bif (fun hw => .gdI (by omega) (.pure (by rw [if_pos hw];omega))) fun hw => .pure (by rw [if_neg (by rw [hw];decide)];rfl)
  ·have : k=aP pc n:=by omega
   rw [this,vW]
 ·have : n=p.length:=by omega
  rw [this]
structure Nums (p:List (List Jh)) (nm:List (List Int)):Prop where
 len:nm.length=p.length
 row:∀ t:Nat,t<p.length->nm.getD t []=vT p t (p.getD t default).length
theorem CY (hp:PV p) (R:Cand p x F) {nm:LL} (hn:Nums p nm) {pc:Z3i} (h:NNp pc) (ha:StA p (aP pc)) {t:Nat} (ht:t<p.length):Jo (eT ⟨p,⟨x.1,x.2⟩,nm⟩ pc (t:Int)) fun b=>(b=true↔Ep p x (aP pc) t):=by
 have hl:=hp.vs.1;have hX:=IV hp R;have hg:=uP h (t:=t) (by omega);have hrow:=hp.vs.2 t;unfold eT;simp only [tnn,hg];refine .gdD ⟨by omega,by omega⟩ (.gdD ⟨by omega,by omega⟩ (.bif (fun he => .pure ?_) fun he=>?_))
 ·have he:=eq_of_beq he;exact ⟨fun e=>(by cases e),fun e=>by have := e.2.1;omega⟩
 have he:=beq_eq_false_iff_ne.1 he;have hk:aP pc t<(p.getD t default).length:=by have := ha t ht;omega
 have hnl:(nm.getD t default).length=(p.getD t default).length:=by rw [vS,hn.row t ht];simp [vT]
 have hnum:(nm.getD t default).getD (aP pc t) default=num p t (aP pc t):=by
  rw [vS,hn.row t ht];unfold vT;rw [gdq,List.getElem?_map,List.getElem?_range hk]
  rfl
 refine .gdD ⟨by omega,by omega⟩ (.gdD ⟨by omega,by rw [hn.len];omega⟩ (.gdD ⟨by omega,by rw [hnl];omega⟩ (.bif (fun ho => .pure ?_) fun ho=>?_)))
 ·have ho:sP p t (aP pc t):=eq_of_beq ho;refine ⟨fun _=>⟨ht,hk,fun n hn=>?_⟩,fun _=>rfl⟩;unfold nxt at hn;rw [if_pos ho] at hn
  cases hn
 have ho : ¬ sP p t (aP pc t):=beq_eq_false_iff_ne.1 ho;have hI:Isn p t (aP pc t):=⟨ht,hk,ho⟩;have hev:=hI.ev.1;have hb:=hI.ev.2;have hF:(base p t (aP pc t):Int)∈F:=(R.mem _).2 ⟨by omega,by omega⟩;have hloc:=hp.ins t (aP pc t) ht hk;have hL0:0<=(ins p t (aP pc t)).Loc:=hloc.1;have hL2:(ins p t (aP pc t)).Loc<=2:=hloc.2.1;have hnv:num p t (aP pc t)=(base p t (aP pc t):Int):=if_neg ho;have hdc:=Ex hp R ha (l:=(ins p t (aP pc t)).Loc.toNat) (by omega);rw [Int.toNat_of_nonneg hL0] at hdc;have O:=R.ods (ins p t (aP pc t)).Loc ⟨hL0,hL2⟩;have hdl:=(uL hp R (aP pc) (l:=(ins p t (aP pc t)).Loc) ⟨hL0,hL2⟩).2;have hod:x.2.getD (ins p t (aP pc t)).Loc.toNat default=od x (ins p t (aP pc t)).Loc:=rfl;have hle:=hX.r (ins p t (aP pc t)).Loc.toNat;rw [hod] at hle;have hnd:dn p (aP pc) (base p t (aP pc t):Int)=false:=by
  cases hd:dn p (aP pc) (base p t (aP pc t):Int) with
  | false=>rfl
  | true=>have := (gU hI).1 hd;omega
 have hlt:wrX (ins p t (aP pc t))=true->dc p x (aP pc) (ins p t (aP pc t)).Loc<(od x (ins p t (aP pc t)).Loc).length:=fun hw=>by
  have hm:(base p t (aP pc t):Int)∈od x (ins p t (aP pc t)).Loc:=(O.mem _).2 ⟨hF,by rw [hev];exact hw,by rw [hev]⟩;exact List.length_filter_lt_length_iff_exists.2 ⟨_,hm,by rw [hnd];decide⟩
 have hcan:Ep p x (aP pc) t↔(rdX (ins p t (aP pc t))=true->x.1.getD (base p t (aP pc t)) default=(od x (ins p t (aP pc t)).Loc).getD (dc p x (aP pc) (ins p t (aP pc t)).Loc-1) default)/\(wrX (ins p t (aP pc t))=true->(od x (ins p t (aP pc t)).Loc).getD (dc p x (aP pc) (ins p t (aP pc t)).Loc) default=(base p t (aP pc t):Int)):=by
  unfold Ep nxt F6;rw [if_neg ho]
  constructor
  ·intro h1;have := h1.2.2 _ rfl;rw [hev,tnn] at this;exact this
  ·intro h1;refine ⟨ht,hk,fun n hn=>?_⟩;injection hn with hn;subst hn;rw [hev,tnn];exact h1
 rw [hcan];have hins:(p.getD t default).getD (aP pc t) default=ins p t (aP pc t):=rfl;simp only [hins,hnum,hnv,hod,tnn];refine .gdD ⟨hL0,by rw [hX.o];omega⟩ ((Ey hp h ha _ _ _).bind fun v9 h9=>?_);subst h9;obtain ⟨b1,r1,r2⟩:=Cs (ins p t (aP pc t));obtain ⟨b2,w1,w2⟩:=vL (ins p t (aP pc t));subst r2 w2;have hc1:((cnt p (aP pc) (ins p t (aP pc t)).Loc p.length:Int)).toNat=dc p x (aP pc) (ins p t (aP pc t)).Loc-1:=by omega
 have hc2:((cnt p (aP pc) (ins p t (aP pc t)).Loc p.length:Int)+1).toNat=dc p x (aP pc) (ins p t (aP pc t)).Loc:=by omega
 refine Jo.bind (P:=fun b=>(b=true↔(rdX (ins p t (aP pc t))=true->x.1.getD (base p t (aP pc t)) default=(od x (ins p t (aP pc t)).Loc).getD (dc p x (aP pc) (ins p t (aP pc t)).Loc-1) default)/\(wrX (ins p t (aP pc t))=true->(od x (ins p t (aP pc t)).Loc).getD (dc p x (aP pc) (ins p t (aP pc t)).Loc) default=(base p t (aP pc t):Int)))) ?_ fun v hv => .pure hv;rw [show (⟨(ins p t (aP pc t)).Op,(ins p t (aP pc t)).Loc,(ins p t (aP pc t)).Reg,(ins p t (aP pc t)).Val⟩:Jh)=ins p t (aP pc t) from rfl,r1,w1];have wpart:∀ rd:Prop,rd->Jo (bif !wrX (ins p t (aP pc t)) then some true else gd (Jf .i64 ((cnt p (aP pc) (ins p t (aP pc t)).Loc p.length:Int)+(1:Int)))<|gd (decide (0<=((cnt p (aP pc) (ins p t (aP pc t)).Loc p.length:Int)+(1:Int))/\((cnt p (aP pc) (ins p t (aP pc t)).Loc p.length:Int)+(1:Int))<((od x (ins p t (aP pc t)).Loc).length:Int)))<|some (((od x (ins p t (aP pc t)).Loc).getD ((cnt p (aP pc) (ins p t (aP pc t)).Loc p.length:Int)+(1:Int)).toNat default)==(base p t (aP pc t):Int))) fun b=>(b=true↔rd/\(wrX (ins p t (aP pc t))=true->(od x (ins p t (aP pc t)).Loc).getD (dc p x (aP pc) (ins p t (aP pc t)).Loc) default=(base p t (aP pc t):Int))):=fun rd hrd=>by
  refine .bif (fun hw => .pure ⟨fun _=>⟨hrd,fun e=>by rw [e] at hw;cases hw⟩,fun _=>rfl⟩) fun hw=>?_;have hw:wrX (ins p t (aP pc t))=true:=by simpa using hw
  have := hlt hw;refine .gdI (by omega) (.gdD ⟨by omega,by omega⟩ (.pure ?_));rw [hc2,beq_iff_eq];exact ⟨fun e=>⟨hrd,fun _=>e⟩,fun e=>e.2 hw⟩
 refine .bif (fun hr=>?_) fun hr=>?_
 ·have hr : ¬ rdX (ins p t (aP pc t))=true:=by simpa using hr
  exact wpart _ (fun e=>absurd e hr)
 ·have hr:rdX (ins p t (aP pc t))=true:=by simpa using hr
  refine .gdD ⟨by omega,by rw [hX.f];omega⟩ (.gdD ⟨by omega,by omega⟩ ?_);rw [hc1];refine .bif (fun he=>?_) fun he => .pure ⟨fun e=>(by cases e),fun e=>?_⟩
  ·exact wpart _ (fun _=>eq_of_beq he)
  ·exact absurd (e.1 hr) (beq_eq_false_iff_ne.1 he)
end
def LeO {α:Type} (x y:Option α):Prop:=∀ r,x=some r->y=some r
section
variable {α β S E:Type}
theorem LeO.refl (x:Option α):LeO x x:=fun _ h=>h
theorem LeO.bind {x y:Option α} {f g:α->Option β} (h:LeO x y) (k:∀ v,LeO (f v) (g v)):LeO (x.bind f) (y.bind g):=fun r hr=>by
 obtain ⟨v,e,hv⟩:=FN hr;rw [h v e];exact k v r hv
theorem LeO.cond {b:Bool} {x x' y y':Option α} (h:LeO x y) (k:LeO x' y'):LeO (bif b then x else x') (bif b then y else y'):=by
 cases b
 ·exact k
 ·exact h
theorem LeO.gd {b:Bool} {x y:Option α} (h:LeO x y):LeO (Go.Proofs.YtlmjnhnpahicmaaGreat.gd b x) (Go.Proofs.YtlmjnhnpahicmaaGreat.gd b y):=by
 cases b
 ·exact fun _ h=>h
 ·exact h
theorem LeO.sumK {x y:Option (S ⊕ E)} {f g:S->Option E} (h:LeO x y) (k:∀ v,LeO (f v) (g v)):LeO (Go.Proofs.YtlmjnhnpahicmaaGreat.sumK x f) (Go.Proofs.YtlmjnhnpahicmaaGreat.sumK y g):=fun r hr=>by
 cases hx:x with
 | none=>rw [hx] at hr;cases hr
 | some v=>
  rw [hx] at hr;rw [h v hx]
  cases v with
  | inl s=>exact k s r hr
  | inr w=>exact hr
theorem LeO.loopO {f g:S->Option (S ⊕ E)} (h:∀ s,LeO (f s) (g s)) (s:S):LeO (Go.Proofs.YtlmjnhnpahicmaaGreat.loopO f s) (Go.Proofs.YtlmjnhnpahicmaaGreat.loopO g s):=fun r hr=>by
 obtain ⟨n,hn⟩:=kE.1 hr;refine kE.2 ⟨n,?_⟩;clear hr
 induction n generalizing s with
 | zero=>cases hn
 | succ n ih=>
  simp only [pG] at hn ⊢
  cases hf:f s with
  | none=>rw [hf] at hn;cases hn
  | some z=>
   rw [hf] at hn;rw [h s z hf]
   cases z with
   | inl s'=>exact ih s' hn
   | inr e=>exact hn
end
theorem CZ {f g:ZTr->Z3i->Option (ZTr×Bool)} (h:∀ s pc,LeO (f s pc) (g s pc)) (s:ZTr) (pc:Z3i):LeO (aH f s pc) (aH g s pc):=by
 unfold aH;refine .cond (.refl _) (.bind (.refl _) fun v => .cond (.refl _) (.sumK (.loopO (fun z=>?_) _) fun w => .refl _));unfold bi;exact .cond (.sumK (.bind (.refl _) fun v => .cond (.refl _) (.gd (.gd (.gd (.bind (h _ _) fun w => .refl _))))) fun w => .refl _) (.refl _)
theorem C0 (s:ZTr) (pc:Z3i) {n:Nat}:∀ {m:Nat},n<=m->LeO (ak n s pc) (ak m s pc):=by
 have key:∀ (n:Nat) (s:ZTr) (pc:Z3i),LeO (ak n s pc) (ak (n+1) s pc):=fun n=>by
  induction n with
  | zero=>exact fun _ _ r hr=>by cases hr
  | succ n ih=>exact fun s pc=>CZ ih s pc
 intro m hm
 induction hm with
 | refl=>exact .refl _
 | step _ ih=>exact fun r hr=>key _ s pc r (ih r hr)
section
variable {p:List (List Jh)} {x:XS} {F:LI}
abbrev Key:=Int×Int×Int
def aK (k:Key):Nat->Nat:=aP ⟨k.1,k.2.1,k.2.2⟩
def vX (p:List (List Jh)) (x:XS) (F:LI) (l:List (Key×Bool)):Prop:=∀ e∈l,Dead p x F (aK e.1)
theorem vX.get {l:List (Key×Bool)} (h:vX p x F l) {k:Key} (hk:((zw l k).getD false)=true):Dead p x F (aK k):=by
 unfold zw at hk
 cases hm:qM l k with
 | none=>rw [hm] at hk;cases hk
 | some j=>
  obtain ⟨hj,v,hv⟩:=rU hm;exact h (k,v) (List.mem_of_getElem? hv)
theorem vX.put {l:List (Key×Bool)} (h:vX p x F l) {k:Key} (hk:Dead p x F (aK k)):vX p x F (BC l k true):=fun e he=>by
 unfold BC at he
 cases hm:qM l k with
 | none=>
  rw [hm] at he;rcases List.mem_append.1 he with he | he
  ·exact h e he
  ·rw [List.mem_singleton] at he;subst he;exact hk
 | some j=>
  rw [hm] at he;rcases List.mem_or_eq_of_mem_set he with he | he
  ·exact h e he
  ·subst he;exact hk
theorem C8 (hp:PV p) {pc:Z3i} (h:NNp pc) (s:ZTr) (hs:s.p=p):Jo (loopO (eu s pc) ((0:Int),true)) fun b=>(b=true↔DT p (aP pc)):=by
 have hl:=hp.vs.1;refine Jo.loop (fun z=>∃ n:Nat,n<=p.length/\z.1=(n:Int)/\(z.2=true↔∀ t,t<n->aP pc t=(p.getD t default).length)) (fun z=>((p.length:Int)-z.1).toNat) ⟨0,by omega,rfl,fun _ t ht=>by omega,fun _=>rfl⟩ fun z ⟨n,n1,n2,n3⟩ => ?_;obtain ⟨z1,z2⟩:=z;simp only at n2 n3;subst n2;unfold eu;simp only [hs,tnn];refine .bifD (fun hk=>?_) fun hk => .pure ?_
 ·have hn:n<p.length:=by omega
  have hg:=uP h (t:=n) (by omega);rw [hg];refine Jo.bind (P:=fun b=>(b=true↔∀ t,t<n+1->aP pc t=(p.getD t default).length)) (.bif (fun hz => .gdD ⟨by omega,by omega⟩ (.gdD ⟨by omega,hk⟩ (.pure ?_))) fun hz => .pure ⟨fun e=>(by cases e),fun e=>?_⟩) fun b hb => .gdI (by omega) (.pure ⟨⟨n+1,by omega,rfl,hb⟩,by simp only [];omega⟩)
  ·rw [beq_iff_eq]
   constructor
   ·intro e t ht;rcases Nat.lt_or_ge t n with h' | h'
    ·exact n3.1 hz t h'
    ·rw [show t=n by omega];omega
   ·intro e;rw [e n (by omega)]
  ·rw [n3.2 fun t ht=>e t (by omega)] at hz
   cases hz
 ·have : n=p.length:=by omega
  subst this;exact n3
theorem C9 (R:RunOf p x F) {a:Nat->Nat} (h:Dead p x F a) : ¬ DT p a:=fun hf=>by
 obtain ⟨i,hi,_,h2,_⟩:=h;obtain ⟨i0,i1⟩:=(R.mem i).1 hi;rcases dX i0 i1 with h3 | ⟨t,k,h3,rfl⟩
 ·rw [mf i0 h3] at h2;cases h2
 ·have h4:=hf t h3.t;have h5:=h3.k;rw [(gU h3).2 (by omega)] at h2
  cases h2
theorem uQ (hp:PV p) (R:Cand p x F) {a:Nat->Nat} (hc:Closed p x F a) {t:Nat} (h:dx p x F a t):Ep p x a t:=⟨h.1,h.2.1,fun n hn=>by
 obtain ⟨_,_,g1,g2,_⟩:=CM R h.1 h.2.1 hn;exact CK hp R hc g1 g2 (h.2.2 n hn)⟩
theorem Ez (hp:PV p) (R:RunOf p x F) {a:Nat->Nat} {t:Nat} (h:Ep p x a t):(Dead p x F a->Dead p x F (adv a t))/\(Closed p x F a->(dx p x F a t/\Closed p x F (adv a t))\/(¬ dx p x F a t/\Dead p x F (adv a t))):=by
 have hB:=kH (R.cand hp) h.1 h.2.1;refine ⟨fun hD=>F8 hp R hD h.2.2 hB,fun hc=>?_⟩
 by_cases hr:dx p x F a t
 ·exact .inl ⟨hr,mM (R.cand hp) hc hr⟩
 ·refine .inr ⟨hr,?_⟩
  cases hn:nxt p a t with
  | none=>exact absurd ⟨h.1,h.2.1,fun n e=>by rw [hn] at e;cases e⟩ hr
  | some n=>
   obtain ⟨_,_,g1,g2,g3⟩:=CM (R.cand hp) h.1 h.2.1 hn;rw [hn] at hB;refine uh hp R hc g1 g2 (h.2.2 n hn) (fun hre=>hr ⟨h.1,h.2.1,fun m e=>?_⟩) g3 hB;rw [hn] at e;injection e with e;subst e;exact hre
structure Tr (p:List (List Jh)) (x:XS) (F:List Int) (nm:List (List Int)) (s:ZTr):Prop where
 tp:s.p=p
 tx:s.x=⟨x.1,x.2⟩
 tn:s.number=nm
 tf:vX p x F s.failed
def Post (p:List (List Jh)) (x:XS) (F:LI) (nm:LL) (a:Nat->Nat) (sch:LI) (v:ZTr×Bool):Prop:=
 (Dead p x F a/\v.2=false/\Tr p x F nm v.1/\v.1.schedule=sch)\/(Closed p x F a/\v.2=true/\∃ r,Gr p x F a r/\v.1.schedule=sch++r)
theorem zN (hp:PV p) (R:RunOf p x F) {nm:LL} (hnm:Nums p nm):∀ (m:Nat) (s:ZTr) (pc:Z3i),Tr p x F nm s->NNp pc->StA p (aP pc)->(Dead p x F (aP pc)\/Closed p x F (aP pc))->s.schedule.length+mu p (aP pc)<=21->mu p (aP pc)<m ->
  Jo (ak m s pc) (Post p x F nm (aP pc) s.schedule)
 | 0,_,_,_,_,_,_,_,h=>by omega
 | m+1,s,pc,hT,hN,hS,hdc,hb,hm=>by
  have hl:=hp.vs.1;obtain ⟨sp,⟨sf,so⟩,sn,sch,fl⟩:=s;obtain ⟨t1,t2,t3,t4⟩:=hT;simp only at t1 t2 t3 t4 hb;replace t1:=t1.symm;replace t3:=t3.symm;subst t1 t3;injection t2 with t5 t6;subst t5 t6;show Jo (aH (ak m) _ pc) _;unfold aH;simp only [];have hkey:aK (pc.x0,pc.x1,pc.x2)=aP pc:=rfl;refine .bif (fun hk => .pure ?_) fun _=>?_
  ·exact .inl ⟨by rw [<- hkey];exact t4.get hk,rfl,⟨rfl,rfl,rfl,t4⟩,rfl⟩
  refine (C8 hp hN _ rfl).bind fun b hfb => .bif (fun hb1 => .pure ?_) fun hb1=>?_
  ·have hf:=hfb.1 hb1;rcases hdc with hD | hC
   ·exact absurd hf (C9 R hD)
   ·exact .inr ⟨hC,rfl,[],.nil hf,by simp⟩
  have hnf : ¬ DT p (aP pc):=fun hf=>by rw [hfb.2 hf] at hb1;cases hb1
  refine Jo.sum (PS:=fun w=>Dead p x F (aP pc)/\w.1=p/\w.2.1=x.1/\w.2.2.1=x.2/\w.2.2.2.1=nm/\w.2.2.2.2.1=sch/\vX p x F w.2.2.2.2.2) (PW:=Post p x F nm (aP pc) sch) ?_ fun w ⟨w1,w2,w3,w4,w5,w6,w7⟩ => .pure ?_
  ·refine Jo.loop (fun z=>∃ n:Nat,n<=p.length/\z.1=p/\z.2.1=x.1/\z.2.2.1=x.2/\z.2.2.2.1=nm/\z.2.2.2.2.1=sch/\vX p x F z.2.2.2.2.2.1/\z.2.2.2.2.2.2=(n:Int)/\(Closed p x F (aP pc)->∀ u,u<n -> ¬ dx p x F (aP pc) u)) (fun z=>((p.length:Int)-z.2.2.2.2.2.2).toNat) ⟨0,by omega,rfl,rfl,rfl,rfl,rfl,t4,rfl,fun _ u hu=>by omega⟩ fun z ⟨n,n1,z1,z2,z3,z4,z5,z6,z7,z8⟩ => ?_;obtain ⟨a1,a2,a3,a4,a5,a6,a7⟩:=z;simp only at z1 z2 z3 z4 z5 z6 z7;replace z1:=z1.symm;replace z4:=z4.symm;replace z5:=z5.symm;subst z1 z2 z3 z4 z5 z7;unfold bi;simp only [tnn];refine .bifD (fun hk=>?_) fun hk => .pure ?_
   ·have hn:n<p.length:=by omega
    refine Jo.sum (PS:=fun w=>w.1=p/\w.2.1=x.1/\w.2.2.1=x.2/\w.2.2.2.1=nm/\w.2.2.2.2.1=sch/\vX p x F w.2.2.2.2.2/\(Closed p x F (aP pc) -> ¬ dx p x F (aP pc) n)) ?_ fun w ⟨w1,w2,w3,w4,w5,w6,w7⟩ => .gdI (by omega) (.pure ⟨⟨n+1,by omega,w1,w2,w3,w4,w5,w6,rfl,fun hC u hu=>?_⟩,by simp only [];omega⟩)
    ·refine (CY hp (R.cand hp) hnm hN hS hn).bind fun v23 h23 => .bif (fun hc => .pure ?_) fun hc=>?_
     ·refine ⟨rfl,rfl,rfl,rfl,rfl,z6,fun hC hr=>?_⟩;rw [h23.2 (uQ hp (R.cand hp) hC hr)] at hc
      cases hc
     have hcan:Ep p x (aP pc) n:=h23.1 (by simpa using hc);have hg:=uP hN (t:=n) (by omega);obtain ⟨g1,g2⟩:=Fq hN (t:=n) (by omega);have hS':=hS.adv hcan.2.1;have hmu:=xw hcan.1 hcan.2.1;have hrow:=hp.vs.2 n;obtain ⟨c1,c2⟩:=Ez hp R hcan;have hlt:=hcan.2.1;refine .gdD ⟨by omega,by omega⟩ (.gdI (by rw [hg];omega) (.gd (au (by omega) rfl) ?_));refine (zN hp R hnm m ⟨p,⟨x.1,x.2⟩,nm,sch++[(n:Int)],a6⟩ _ ⟨rfl,rfl,rfl,z6⟩ g2 (by rw [g1];exact hS') ?_ (by rw [g1];simp only [lla,List.length_singleton];omega) (by rw [g1];omega)).bind fun v hv=>?_
     ·rw [g1];rcases hdc with hD | hC
      ·exact .inl (c1 hD)
      ·rcases c2 hC with h | h
       ·exact .inr h.2
       ·exact .inl h.2
     rw [g1] at hv;rcases hv with ⟨hD,e1,⟨e2,e3,e4,e5⟩,e6⟩ | ⟨hC,e1,r,e2,e3⟩
     ·refine .bif (fun e=>by rw [e1] at e;cases e) fun _=>?_;have hlen:v.1.schedule.length=sch.length+1:=by rw [e6];simp
      refine .gdI (by omega) (.gdD ⟨by omega,by omega,by omega⟩ (.pure ⟨e2,by rw [e3],by rw [e3],e4,?_,e5,fun hC hr=>?_⟩))
      ·simp only [];rw [hlen,e6,show ((((sch.length+1:Nat):Int)-1).toNat-(0:Int).toNat)=sch.length by omega];simp
      ·exact j5 hp R (mM (R.cand hp) hC hr) hD
     ·refine .bif (fun _ => .pure ?_) fun e=>by rw [e1] at e;cases e
      have hCa:Closed p x F (aP pc):=by
       rcases hdc with hD | hC'
       ·exact absurd (c1 hD) (j5 hp R hC)
       ·exact hC'
      have hr:dx p x F (aP pc) n:=by
       rcases c2 hCa with h | h
       ·exact h.1
       ·exact absurd h.2 (j5 hp R hC)
      refine .inr ⟨hCa,rfl,(n:Int)::r,.cons hr (z8 hCa) e2,?_⟩;simp only [];rw [e3,List.append_assoc]
      rfl
    ·rcases Nat.lt_or_ge u n with h' | h'
     ·exact z8 hC u h'
     ·rw [show u=n by omega];exact w7 hC
   ·have hn:n=p.length:=by omega
    subst hn;have hD:Dead p x F (aP pc):=by
     rcases hdc with hD | hC
     ·exact hD
     ·exfalso;obtain ⟨t,ht⟩:=CN hp R hS hnf;exact z8 hC t ht.1 ht
    exact ⟨hD,rfl,rfl,rfl,rfl,rfl,z6⟩
  ·refine .inl ⟨w1,rfl,⟨w2,by simp only [];rw [w3,w4],w5,?_⟩,w6⟩;exact w7.put (by rw [hkey];exact w1)
theorem yR (hp:PV p) (R:RunOf p x F):Jo (av p ⟨x.1,x.2⟩) fun v=>v.2=true/\Gr p x F (fun _=>0) v.1:=by
 unfold av;refine (sM hp).bind fun v1 ⟨n1,n2⟩ => ?_;have hz:aP ⟨0,0,0⟩=fun _=>0:=by
  funext t
  unfold aP
  split
  ·rename_i h
   match t,h with
   | 0,_=>rfl
   | 1,_=>rfl
   | 2,_=>rfl
  ·rfl
 have hN:NNp ⟨0,0,0⟩:=⟨Int.le_refl 0,Int.le_refl 0,Int.le_refl 0⟩;have hmu:=Eu hp (fun _=>0);obtain ⟨v,e,hv⟩:=zN hp R ⟨n1,n2⟩ 22 ⟨p,⟨x.1,x.2⟩,v1,[],[]⟩ ⟨0,0,0⟩ ⟨rfl,rfl,rfl,fun e he=>by simp at he⟩ hN (by rw [hz];exact fun t _=>Nat.zero_le _) (.inr (by rw [hz];exact lj hp (R.cand hp))) (by rw [hz];simpa using hmu) (by rw [hz];omega);rw [hz] at hv;have hfx:dW ⟨p,⟨x.1,x.2⟩,v1,[],[]⟩ ⟨0,0,0⟩=some v:=yx 22 fun n hn=>C0 _ _ hn v e;refine (Jo.of (P:=(· = v)) hfx rfl).bind fun w hw=>?_;subst hw;rcases hv with ⟨hD,_⟩ | ⟨_,e1,r,e2,e3⟩
 ·exact absurd hD (j5 hp R (lj hp (R.cand hp)))
 ·refine .bif (fun e=>by rw [e1] at e;cases e) fun _ => .pure ⟨rfl,?_⟩;simp only [];rw [e3];exact e2
end
section
variable {p:List (List Jh)} {x:XS} {F:LI}
def Rg (p:List (List Jh)) (x:XS) (V:Int->Int) (t:Nat) (g:Int):Nat->Int
 | 0=>0
 | k+1=>if rdX (ins p t k)=true/\(ins p t k).Reg=g then V (x.1.getD (base p t k) default) else Rg p x V t g k
def Vf (p:List (List Jh)) (x:XS):Nat->Int->Int
 | 0,_=>0
 | f+1,n=>if (ev p n).Thread<0 then 0 else
  if (ins p (ev p n).Thread.toNat (ev p n).Index.toNat).Op=3 then Rg p x (Vf p x f) (ev p n).Thread.toNat (ins p (ev p n).Thread.toNat (ev p n).Index.toNat).Reg (ev p n).Index.toNat
  else (ins p (ev p n).Thread.toNat (ev p n).Index.toNat).Val
theorem vY {V W:Int->Int} {t:Nat} {g:Int}:∀ {k:Nat},(∀ j,j<k->rdX (ins p t j)=true->V (x.1.getD (base p t j) default)=W (x.1.getD (base p t j) default))->Rg p x V t g k=Rg p x W t g k
 | 0,_=>rfl
 | k+1,h=>by
  unfold Rg;rw [vY (k:=k) fun j hj=>h j (by omega)]
  split
  ·rename_i hc;exact h k (by omega) hc.1
  ·rfl
theorem Ig {t k:Nat} (h:rdX (ins p t k)=true) : ¬ ((p.getD t default).getD k default).Op=4:=fun e=>by
 unfold rdX at h;have : (ins p t k).Op=4:=e;rw [this] at h
 cases h
theorem Ih {t k:Nat} (h:wrX (ins p t k)=true) : ¬ ((p.getD t default).getD k default).Op=4:=fun e=>by
 unfold wrX at h;have : (ins p t k).Op=4:=e;rw [this] at h
 cases h
theorem vZ (R:RunOf p x F) {t k:Nat} (h:Isn p t k):(base p t k:Int)∈F:=(R.mem _).2 ⟨by omega,by have := h.ev.2;omega⟩
theorem Da (R:Cand p x F) {t k:Nat} (h:Isn p t k):(base p t k:Int)∈F:=(R.mem _).2 ⟨by omega,by have := h.ev.2;omega⟩
theorem Gc (R:RunOf p x F) {t j k:Nat} (hj:Isn p t j) (hk:Isn p t k) (h:j<k):rk F (base p t j:Int)<rk F (base p t k:Int):=by
 refine R.po _ _ (vZ R hj) (vZ R hk) ?_ ?_ ?_
 ·rw [hj.ev.1];simp only [];omega
 ·rw [hj.ev.1,hk.ev.1]
 ·rw [hj.ev.1,hk.ev.1];simp only [];omega
theorem Db (hp:PV p) (R:RunOf p x F) {t k:Nat} (h:Isn p t k) (hr:rdX (ins p t k)=true):x.1.getD (base p t k) default∈F/\rk F (x.1.getD (base p t k) default)<rk F (base p t k:Int):=by
 have hm:=vZ R h;obtain ⟨c,c1,c2,c3⟩:=R.rd hp hm (by rw [h.ev.1];exact hr);rw [tnn] at c2;obtain ⟨i0,i1⟩:=(R.mem _).1 hm;have O:=(R.od _ (jE hp i0 i1)).1;have := (c3 c c1).1 (Nat.le_refl _);rw [<- c2] at this;exact ⟨by rw [c2];exact ((O.mem _).1 (ou c1)).1,this⟩
theorem xy (hp:PV p) (R:RunOf p x F):∀ (f f':Nat) (n:Int),n∈F->rk F n<f->rk F n<f'->Vf p x f n=Vf p x f' n
 | 0,_,_,_,h,_=>by omega
 | _+1,0,_,_,_,h=>by omega
 | f+1,f'+1,n,hn,h1,h2=>by
  obtain ⟨n0,n1⟩:=(R.mem n).1 hn;unfold Vf;rcases dX n0 n1 with h3 | ⟨t,k,h3,rfl⟩
  ·have := (iV (p:=p) (l:=n.toNat) (by omega)).1;rw [Int.toNat_of_nonneg n0] at this;rw [this]
   rfl
  ·rw [h3.ev.1];simp only [tnn];rw [vY (V:=Vf p x f) (W:=Vf p x f') fun j hj hr=>?_];have hI:Isn p t j:=⟨h3.t,by have := h3.k;omega,Ig hr⟩;obtain ⟨g1,g2⟩:=Db hp R hI hr;have g3:=Gc R hI h3 hj;exact xy hp R f f' _ g1 (by omega) (by omega)
theorem IB (hp:PV p) (R:RunOf p x F):F.length<=24:=by
 have hel:=iz hp.vs;have := List.Nodup.length_le_of_subset (l₂:=(List.range (evs p).length).map fun (i:Nat)=>(i:Int)) R.nd fun n hn=>by
  obtain ⟨a,b⟩:=(R.mem n).1 hn;exact List.mem_map.2 ⟨n.toNat,List.mem_range.2 (by omega),by omega⟩
 have h2:((List.range (evs p).length).map fun (i:Nat)=>(i:Int)).length=(evs p).length:=by simp
 omega
def Vx (p:List (List Jh)) (x:XS):Int->Int:=Vf p x 26
theorem Gd {l:Nat} (hl:l<3):Vx p x (l:Int)=0:=by
 unfold Vx Vf;rw [(iV (p:=p) hl).1]
 rfl
theorem Gf (hp:PV p) (R:RunOf p x F) {t k:Nat} (h:Isn p t k):Vx p x (base p t k:Int)=if (ins p t k).Op=3 then Rg p x (Vx p x) t (ins p t k).Reg k else (ins p t k).Val:=by
 have hF:=IB hp R;show Vf p x 26 (base p t k:Int)=_;rw [Vf,h.ev.1];simp only [tnn];rw [if_neg (by omega),vY (V:=Vf p x 25) (W:=Vx p x) fun j hj hr=>?_];have hI:Isn p t j:=⟨h.t,by have := h.k;omega,Ig hr⟩;obtain ⟨g1,g2⟩:=Db hp R hI hr;have g3:rk F (x.1.getD (base p t j) default)<F.length:=List.idxOf_lt_length_of_mem g1;exact xy hp R 25 26 _ g1 (by omega) (by omega)
theorem EA {n:Int} {a b c d:LI} (h:a++n::b=c++n::d) (ha:n∉a) (hc:n∉c):a=c:=by
 have e:(a++n::b).idxOf n=(c++n::d).idxOf n:=by rw [h]
 rw [List.idxOf_append,List.idxOf_append,if_neg ha,if_neg hc,List.idxOf_cons_self,List.idxOf_cons_self] at e;exact (List.append_inj h (by omega)).1
structure ZOk (p:List (List Jh)) (x:XS) (s:List Int) (m:Nat) (z:Jn):Prop where
 a:∀ t:Nat,t<p.length->z.at_.getD t default=((s.take m).count (t:Int):Int)
 al:z.at_.length=p.length
 rl:z.regs.length=3*p.length
 ml:z.mem.length=3
 r:∀ t g:Nat,t<p.length->g<3->z.regs.getD (3*t+g) default=Rg p x (Vx p x) t (g:Int) ((s.take m).count (t:Int))
 m:∀ l:Nat,l<3->z.mem.getD l default=Vx p x (((l:Int)::(fw p s m).filter (Wl p (l:Int))).getD ((fw p s m).filter (Wl p (l:Int))).length default)
theorem Dc (a b:Int) (l:LI):(a::(l++[b])).getD (l++[b]).length default=b:=by
 rw [gdq,lla,List.length_singleton,List.getElem?_cons_succ,gar (Nat.le_refl _)];simp
theorem EB (hp:PV p) {s:LI} (hw:Whole p s) (hx:x=nE p (fw p s s.length)) (R:RunOf p x ([0,1,2]++fw p s s.length)) {m:Nat} (hm:m<s.length) {z:Jn} (h:ZOk p x s m z) :
  ZOk p x s (m+1) (AJ z (s.getD m default) ((p.getD (s.getD m default).toNat default).getD (z.at_.getD (s.getD m default).toNat default).toNat default)):=by
 obtain ⟨_,hg,hc⟩:=hw;obtain ⟨g1,g2,g3⟩:=yM hg hm;have hl:=hp.vs.1;have hT:(s.getD m default).toNat=Jp s m:=rfl;have hat:=h.a _ g1;have hk:(s.take m).count ((Jp s m:Nat):Int)=Jq s m:=by rw [g2];rfl
 rw [hk] at hat;rw [hT,hat,tnn];have hi:(p.getD (Jp s m) default).getD (Jq s m) default=ins p (Jp s m) (Jq s m):=rfl;rw [hi];have hin:=hp.ins _ _ g1 g3;rw [hi] at hin;obtain ⟨x1,x2,x3,x4,x5,x6⟩:=hin;have hcount:∀ t:Nat,(s.take (m+1)).count (t:Int)=(s.take m).count (t:Int)+if t=Jp s m then 1 else 0:=fun t=>by
  rw [mL hm]
  by_cases e:t=Jp s m
  ·rw [if_pos e,if_pos (by rw [e,g2])]
  ·rw [if_neg e,if_neg (by rw [<- g2];omega)]
 have hok:=zK hp hg (Nat.le_refl s.length);have hI:=OrdI.all hg (m:=m) (by omega);have hIall:=OrdI.all hg (Nat.le_refl s.length);have hnd:(fw p s s.length).Nodup:=hIall.pw.imp fun h=>h.1;have hrd:rdX (ins p (Jp s m) (Jq s m))=true->z.mem.getD (ins p (Jp s m) (Jq s m)).Loc.toNat default=Vx p x (x.1.getD (base p (Jp s m) (Jq s m)) default):=fun hr=>by
  have hIs:Isn p (Jp s m) (Jq s m):=⟨g1,g3,Ig hr⟩;have hmem:(base p (Jp s m) (Jq s m):Int)∈fw p s s.length:=(hIall.mem _).2 ⟨_,_,hIs,by rw [List.take_length,hc _ g1];exact g3,rfl⟩;obtain ⟨f1,_⟩:=zL (fw p s s.length) hnd hok;obtain ⟨o1,o2,e1,e2⟩:=f1 _ hmem (by rw [hIs.ev.1];exact hr);rw [hIs.ev.1,tnn,<- hx] at e2;simp only at e2;have hpre:∀ k,m<=k->∃ r,fw p s k=fw p s m++r:=fun k hk=>by
   induction hk with
   | refl=>exact ⟨[],by simp⟩
   | @step k _ ih=>
    obtain ⟨r,hr⟩:=ih;exact ⟨r++p5 p (Jp s k) (Jq s k),by rw [fw,hr,List.append_assoc]⟩
  obtain ⟨r,hr2⟩:∃ r,fw p s s.length=fw p s m++(base p (Jp s m) (Jq s m):Int)::r:=by
   have hm1:fw p s (m+1)=fw p s m++[(base p (Jp s m) (Jq s m):Int)]:=by
    rw [fw,p5,if_neg (Ig hr)]
   have : ∀ k,m+1<=k->∃ r,fw p s k=fw p s (m+1)++r:=fun k hk=>by
    induction hk with
    | refl=>exact ⟨[],by simp⟩
    | @step k _ ih=>
     obtain ⟨r,hr⟩:=ih;exact ⟨r++p5 p (Jp s k) (Jq s k),by rw [fw,hr,List.append_assoc]⟩
   obtain ⟨r,hr3⟩:=this s.length (by omega);exact ⟨r,by rw [hr3,hm1,List.append_assoc];rfl⟩
  have hno:(base p (Jp s m) (Jq s m):Int)∉fw p s m:=fun hm2=>by
   obtain ⟨t',k',h1,h2,h3⟩:=(hI.mem _).1 hm2;obtain ⟨e3,e4⟩:=ru hIs h1 (by omega);rw [<- e3,<- e4,hk] at h2;omega
  have hno1:(base p (Jp s m) (Jq s m):Int)∉o1:=fun hm2=>by
   rw [e1] at hnd;exact (List.nodup_append.1 hnd).2.2 _ hm2 _ (by simp) rfl
  have := EA (e1.symm.trans hr2) hno1 hno;rw [h.m (ins p (Jp s m) (Jq s m)).Loc.toNat (by omega),Int.toNat_of_nonneg x1,<- this,<- e2]
 have hval:wrX (ins p (Jp s m) (Jq s m))=true->DR z (s.getD m default) (ins p (Jp s m) (Jq s m))=Vx p x (base p (Jp s m) (Jq s m):Int):=fun hw=>by
  have hIs:Isn p (Jp s m) (Jq s m):=⟨g1,g3,Ih hw⟩;rw [Gf hp R hIs];unfold DR
  split
  ·have e:(s.getD m default*3+(ins p (Jp s m) (Jq s m)).Reg).toNat=3*Jp s m+(ins p (Jp s m) (Jq s m)).Reg.toNat:=by rw [<- g2];omega
   rw [e,h.r _ _ g1 (by omega),hk,Int.toNat_of_nonneg x3]
  ·rfl
 unfold AJ;refine ⟨fun t ht=>?_,by simp only [List.length_set];exact h.al,?_,?_,fun t g ht hg3=>?_,fun l hl3=>?_⟩
 ·simp only [];rw [hT,bq (by rw [h.al];exact g1),hcount,hat]
  by_cases e:t=Jp s m
  ·rw [if_pos e,if_pos e,e,hk];omega
  ·rw [if_neg e,if_neg e,h.a t ht];rfl
 ·simp only []
  split
  ·rw [List.length_set];exact h.rl
  ·exact h.rl
 ·simp only []
  split
  ·rw [List.length_set];exact h.ml
  ·exact h.ml
 ·simp only [];have e:(s.getD m default*3+(ins p (Jp s m) (Jq s m)).Reg).toNat=3*Jp s m+(ins p (Jp s m) (Jq s m)).Reg.toNat:=by rw [<- g2];omega
  rw [hcount]
  by_cases et:t=Jp s m
  ·rw [if_pos et,et,hk];show _=if rdX (ins p (Jp s m) (Jq s m))=true/\(ins p (Jp s m) (Jq s m)).Reg=(g:Int) then Vx p x (x.1.getD (base p (Jp s m) (Jq s m)) default) else Rg p x (Vx p x) (Jp s m) (g:Int) (Jq s m)
   by_cases hr:rdX (ins p (Jp s m) (Jq s m))=true
   ·rw [if_pos hr,e,bq (by rw [h.rl];omega)]
    by_cases eg:(ins p (Jp s m) (Jq s m)).Reg=(g:Int)
    ·rw [if_pos (by omega),if_pos ⟨hr,eg⟩,hrd hr]
    ·rw [if_neg (by omega),if_neg fun h=>eg h.2,h.r _ _ g1 hg3,hk]
   ·rw [if_neg hr,if_neg fun h=>hr h.1,h.r _ _ g1 hg3,hk]
  ·rw [if_neg et,Nat.add_zero,<- h.r t g ht hg3]
   split
   ·rw [e,bq (by rw [h.rl];omega),if_neg (by omega)]
   ·rfl
 ·simp only [];rw [fw]
  by_cases hw:wrX (ins p (Jp s m) (Jq s m))=true
  ·rw [if_pos hw,bq (by rw [h.ml];omega),p5,if_neg (Ih hw),List.filter_append];have hIs:Isn p (Jp s m) (Jq s m):=⟨g1,g3,Ih hw⟩
   by_cases el:l=(ins p (Jp s m) (Jq s m)).Loc.toNat
   ·rw [if_pos el,hval hw];have hW:Wl p (l:Int) (base p (Jp s m) (Jq s m):Int)=true:=by
     unfold Wl;rw [hIs.ev.1,hw];simp only [Bool.true_and,dte];omega
    rw [List.filter_cons_of_pos hW];simp only [List.filter_nil];rw [Dc]
   ·rw [if_neg el,h.m l hl3];have hW : ¬ Wl p (l:Int) (base p (Jp s m) (Jq s m):Int)=true:=by
     unfold Wl;rw [hIs.ev.1];simp only [bae,dte,not_and];intro _ hc;omega
    rw [List.filter_cons_of_neg hW];simp
  ·rw [if_neg hw,h.m l hl3];have hf:(p5 p (Jp s m) (Jq s m)).filter (Wl p (l:Int))=[]:=by
    unfold p5
    split
    ·rfl
    ·rename_i ho;have hIs:Isn p (Jp s m) (Jq s m):=⟨g1,g3,ho⟩;rw [List.filter_cons_of_neg (by unfold Wl;rw [hIs.ev.1];simp only [bae,not_and];intro h';exact absurd h' hw)]
     rfl
   rw [List.filter_append,hf,List.append_nil]
theorem yS (hp:PV p) {s:LI} (hw:Whole p s) (hx:x=nE p (fw p s s.length)) (R:RunOf p x ([0,1,2]++fw p s s.length)) {z0:Jn} (h0:Rel p (u0 p) z0):∀ m,m<=s.length->ZOk p x s m (zR p s z0 m)
 | 0,_=>by
  refine ⟨fun t ht=>?_,h0.al,h0.rl,h0.ml,fun t g ht hg=>?_,fun l hl=>?_⟩
  ·show z0.at_.getD t default=_;rw [h0.a t ht];simp only [u0,Z3b.get,List.take_zero,List.count_nil]
   split <;> (try split) <;> rfl
  ·show z0.regs.getD (3*t+g) default=_;rw [h0.r t g ht hg];simp only [u0,List.take_zero,List.count_nil,Rg,Z3b.get,Z33.get]
   split <;> (try split) <;> (try split) <;> (try split) <;> rfl
  ·show z0.mem.getD l default=_;rw [h0.m l hl];simp only [u0,fw,List.filter_nil,List.length_nil,List.getD_cons_zero];rw [Gd hl];simp only [Z3b.get]
   split <;> (try split) <;> rfl
 | m+1,hm=>EB hp hw hx R (by omega) (yS hp hw hx R h0 m (by omega))
theorem p6 {l k:LI} (hl:l.length=k.length) (h:∀ i:Nat,i<l.length->l.getD i default=k.getD i default):l=k:=by
 apply List.ext_getElem hl;intro i h1 h2;have := h i h1;rw [gdq,gdq,geq h1,geq h2] at this;exact this
theorem xz {s s':LI} (hsz:p.length<=1048576/\total p<=1048576) (hs:s.length<=1048576) (hs':s'.length<=1048576) (hw:Whole p s) (hw':Whole p s') (e:nE p (fw p s s.length)=nE p (fw p s' s'.length)) :
  ∃ o,aN p s=some (o,true)/\aN p s'=some (o,true)/\o.length<=100:=by
 have hp:=PV.of hw.1;obtain ⟨o,b,r1,_,r3,r4⟩:=vR p hsz hs;obtain ⟨o',b',r1',_,r3',r4'⟩:=vR p hsz hs';obtain rfl:=r3.2 hw;obtain rfl:=r3'.2 hw';obtain ⟨z0,e0,h0,ho⟩:=r4 rfl;obtain ⟨z0',e0',h0',ho'⟩:=r4' rfl;rw [e0] at e0';obtain rfl:=osl e0';have R:=oD hp hw;have R':=oD hp hw';rw [<- e] at R';have Z:=yS hp hw rfl R h0 s.length (Nat.le_refl _);have Z':=yS hp hw' e R' h0 s'.length (Nat.le_refl _);have hl:=hp.vs.1;have hreg:(zR p s z0 s.length).regs=(zR p s' z0 s'.length).regs:=p6 (by rw [Z.rl,Z'.rl]) fun i hi=>by
  rw [Z.rl] at hi;have h1:i / 3<p.length:=by omega
  have e1:=Z.r (i / 3) (i % 3) h1 (by omega);have e2:=Z'.r (i / 3) (i % 3) h1 (by omega);rw [show 3*(i / 3)+i % 3=i by omega,List.take_length] at e1 e2;rw [e1,e2,hw.2.2 _ h1,hw'.2.2 _ h1]
 have hmem:(zR p s z0 s.length).mem=(zR p s' z0 s'.length).mem:=p6 (by rw [Z.ml,Z'.ml]) fun i hi=>by
  rw [Z.ml] at hi;rw [Z.m i hi,Z'.m i hi];have g1:=vU (fw p s s.length) (zK hp hw.2.1 (Nat.le_refl _)) i hi;have g2:=vU (fw p s' s'.length) (zK hp hw'.2.1 (Nat.le_refl _)) i hi;rw [e,g2] at g1;have g3:(fw p s' s'.length).filter (Wl p (i:Int))=(fw p s s.length).filter (Wl p (i:Int)):=by injection g1
  rw [g3]
 refine ⟨o,r1,?_,?_⟩
 ·rw [r1',ho,ho',hreg,hmem]
 ·rw [ho,lla,Z.rl,Z.ml];omega
end
end
end Go.Proofs.YtlmjnhnpahicmaaGreat
