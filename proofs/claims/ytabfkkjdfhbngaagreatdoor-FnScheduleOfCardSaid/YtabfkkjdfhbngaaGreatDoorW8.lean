/- Texts joined. No conditions. -/
import Derived.Test.YtabfkkjdfhbngaaGreatDoorW7
namespace Go.Proofs.YtabfkkjdfhbngaaGreatDoor
noncomputable section
open _root_.Inhabited renaming default -> Rh
open _root_.Bool renaming true -> Ri
open _root_.Bool renaming false -> Rj
open _root_.Option renaming some -> Rk
open _root_.Option renaming none -> Rl
open _root_.Decidable renaming decide -> Rm
open _root_.List renaming range -> UR, filter_append -> UY, idxOf_lt_length_of_mem -> UZ, mem_filter -> U1, range_succ -> U2, map_append -> U4, mem_range -> U5, length_singleton -> U6, length_take -> U7, mem_append -> Va, idxOf_append -> Vb, length_range -> Vd, sum_append -> Ve, getElem?_range -> Vf, append_assoc -> Vg, mem_cons -> Vh, not_mem_nil -> Vi, mem_map -> Vl, getElem?_map -> Vm, nodup_append -> Vn, mem_singleton -> Vo, pairwise_iff_getElem -> Vp, idxOf_cons_self -> Vq, getElem_mem -> Vr, length_filter_le -> Vu, take_append_drop -> Vy, range' -> VA, append_nil -> VC, length_set -> VD, mem_append_left -> VF, filter_cons_of_pos -> VG, filter_cons_of_neg -> VH, mem_cons_of_mem -> VI, map_congr_left -> VK, getElem?_replicate -> VM, length_filter_lt_length_iff_exists -> VN, take_append_of_le_length -> VO, flatMap_append -> VP, eq_nil_of_length_eq_zero -> VQ
open _root_.Int renaming toNat_of_nonneg -> UT, le_refl -> U8
open _root_.Nat renaming lt_or_ge -> UU, zero_le -> UW, le_refl -> U0, add_zero -> U9, eq_of_testBit_eq -> Vj, le_trans -> Vk, pow_lt_pow_right -> Vx, mul_le_mul -> VE, le_mul_of_pos_right -> VS
open _root_.Bool renaming true_and -> UV, or_eq_true -> UX, not_eq_true' -> Vt, eq_iff_iff -> VB
open _root_.BitVec renaming ofInt -> U3, ofInt_natCast -> Vv, toNat_ofNat -> Vw
open _root_.List.Nodup renaming length_le_of_subset -> Vz, idxOf_getElem -> VJ
open Go.RowKit
set_option maxRecDepth 100000
theorem Bc {α:Type} {Q:List α->Prop} (h0:Q []) (hs:∀ l a,Q l->Q (l++[a])) (l:List α):Q l:=by
 have key:∀ m:List α,Q m.reverse:=λm=>by
  induction m with
  | nil=>exact h0
  | cons a m ih=>rw [List.reverse_cons];exact hs _ _ ih
 have h:=key l.reverse
 simp_all
section
variable {p:List (List QV)}
def ev (p:List<|List QV) (n:Int):QX:=(evs p).getD n.toNat Rh
def Wl (p:List<|List QV) (l:Int) (n:Int):Bool:=(ev p n).bK&&Rm ((ev p n).Loc=l)
theorem JI (o:LI):(∀ n∈o,OkN p n)->∀ l:Nat,l<3->(wT p o).2.getD l []=(l:Int)::o.filter (Wl p (l:Int)):=by
 induction o using Bc with
 | h0=>
  intro _ l hl
  match l,hl with
  | 0,_=>rfl
  | 1,_=>rfl
  | 2,_=>rfl
 | hs o n ih=>
  intro hok l hl;have hok':∀ m∈o,OkN p m:=λm hm=>hok m<|VF _ hm;have ih:=ih hok';obtain ⟨h1,h2,h3⟩:=hok n (by simp);have hin:=InX.run hok';have hloc:(((evs p).getD n.toNat Rh).Loc.toNat:Int)=((evs p).getD n.toNat Rh).Loc:=UT h2;rw [yp];unfold stX;simp only [];rw [yn (by grind),UY]
  by_cases e:l=((evs p).getD n.toNat Rh).Loc.toNat
  ·subst e;rw [if_pos rfl,ih _ (by omega)]
   by_cases hw:((evs p).getD n.toNat Rh).bK=Ri
   ·have : Wl p (((evs p).getD n.toNat Rh).Loc.toNat:Int) n=Ri:=by
     unfold Wl ev;rw [hw,hloc];simp
    simp_all
   have : ¬ Wl p (((evs p).getD n.toNat Rh).Loc.toNat:Int) n=Ri:=by
    unfold Wl ev;rw [Bool.eq_false_iff.2 hw];simp
   simp_all
  have : ¬ Wl p (l:Int) n=Ri:=by
   unfold Wl ev;simp only [bae,dte,not_and];intro _ hc;exact e (by omega)
  simp_all
theorem Nl (o:LI) (h:∀ n∈o,OkN p n):(wT p o).1.length=(evs p).length/\(wT p o).2.length=3:=⟨(InX.run h).f,(InX.run h).o⟩
theorem Lu (o:LI):o.Nodup->(∀ n∈o,OkN p n)->(∀ i:Int,i∈o->(ev p i).Reads=Ri->∃ o1 o2,o=o1++i::o2/\(wT p o).1.getD i.toNat Rh=((ev p i).Loc::o1.filter (Wl p (ev p i).Loc)).getD (o1.filter<|Wl p (ev p i).Loc).length Rh) /\
  ∀ i:Nat,i<(evs p).length -> ¬ ((i:Int)∈o/\(ev p i).Reads=Ri)->(wT p o).1.getD i Rh = -1:=by
 induction o using Bc with
 | h0=>
  intro _ _;refine ⟨λi hi=>by simp at hi,λi hi _=>?_⟩;show (List.replicate (evs p).length (-1:Int)).getD i Rh = -1
  simp_all
 | hs o n ih=>
  intro hnd hok;have hok':∀ m∈o,OkN p m:=λm hm=>hok m<|VF _ hm;obtain ⟨hnd1,_,hnd2⟩:=Vn.1 hnd;have hno:n∉o:=λhm=>hnd2 n hm n (by simp) rfl;obtain ⟨ih1,ih2⟩:=ih hnd1 hok';obtain ⟨h1,h2,h3⟩:=hok n (by simp);have hin:=InX.run hok';have hloc:(((evs p).getD n.toNat Rh).Loc.toNat:Int)=((evs p).getD n.toNat Rh).Loc:=UT h2;have hord:=JI o hok' ((evs p).getD n.toNat Rh).Loc.toNat (by omega);rw [yp];unfold stX;simp only [];rw [hord];have key:∀ j:Nat,(if ((evs p).getD n.toNat Rh).Reads=Ri then (wT p o).1.set n.toNat (((((evs p).getD n.toNat Rh).Loc.toNat:Int)::o.filter (Wl p (((evs p).getD n.toNat Rh).Loc.toNat:Int))).getD (((((((evs p).getD n.toNat Rh).Loc.toNat:Int)::o.filter (Wl p (((evs p).getD n.toNat Rh).Loc.toNat:Int))).length:Nat):Int)-1).toNat Rh) else (wT p o).1).getD j Rh =
    if j=n.toNat/\(ev p n).Reads=Ri then ((ev p n).Loc::o.filter (Wl p (ev p n).Loc)).getD (o.filter<|Wl p (ev p n).Loc).length Rh else (wT p o).1.getD j Rh:=λj=>by
   rw [hloc]
   by_cases hr:((evs p).getD n.toNat Rh).Reads=Ri
   ·rw [if_pos hr,jV (by rw [hin.f];omega)]
    by_cases e:j=n.toNat
    ·rw [if_pos e,if_pos ⟨e,hr⟩];unfold ev
     congr 1
     rw [llc];omega
    omega
   rw [if_neg hr,if_neg λh=>hr h.2]
  refine ⟨λi hi hr=>?_,λi hi hn=>?_⟩
  ·by_cases e:i=n
   ·grind
   have hio:i∈o:=by
    rcases Va.1 hi with h | h
    ·exact h
    simp_all
   obtain ⟨o1,o2,e1,e2⟩:=ih1 i hio hr;refine ⟨o1,o2++[n],by simp_all,?_⟩;have := (hok' i hio).1;rw [key,if_neg (λh=>e<|by omega),e2]
  have e : ¬ (i=n.toNat/\(ev p n).Reads=Ri):=λh=>hn ⟨by
   rw [show (i:Int)=n by omega];simp,by rw [show (i:Int)=n by omega];exact h.2⟩
  simp_all
theorem JJ (t:Nat) (row:List QV):∀ (r j:Nat),j<(evR t row r).length->∃ k,k<r /\ ¬ (row.getD k Rh).Op=4/\j=(evR t row k).length
 | 0,j,h=>by simp [evR] at h
 | r+1,j,h=>by
  rcases UU j (evR t row r).length with hj | hj
  ·obtain ⟨k,h1,h2,h3⟩:=JJ t row r j hj
   grind
  simp only [evR,lla] at h;have h1:=Jz t r<|row.getD r Rh;refine ⟨r,by omega,λho=>?_,by omega⟩;have : (evX t r<|row.getD r Rh).length=0:=by unfold evX;rw [if_pos ho];rfl
  omega
theorem JK:∀ (m n:Nat),n<(evP p m).length->n<3\/∃ t k,t<m/\k<(p.getD t Rh).length /\ ¬ ((p.getD t Rh).getD k Rh).Op=4/\n=base p t k
 | 0,n,h => .inl h
 | m+1,n,h=>by
  rcases UU n (evP p m).length with hn | hn
  ·rcases JK m n hn with h1 | ⟨t,k,h1,h2,h3,h4⟩
   ·exact .inl h1
   grind
  simp only [evP,lla] at h;obtain ⟨k,h1,h2,h3⟩:=JJ m (p.getD m Rh) (p.getD m Rh).length (n-(evP p m).length) (by omega);exact .inr ⟨m,k,by omega,h1,h2,by unfold base;omega⟩
theorem Ga (t k:Nat):3<=base p t k:=by
 have := (zq p<|UW t).length_le;have h3:(evP p 0).length=3:=rfl;unfold base;omega
structure Isn (p:List (List QV)) (a b:Nat):Prop where
 t:a<p.length
 k:b<(p.getD a Rh).length
 o : ¬ ((p.getD a Rh).getD b Rh).Op=4
def ins (p:List<|List QV) (t k:Nat):QV:=(p.getD t Rh).getD k Rh
theorem Isn.ev {t k:Nat} (h:Isn p t k):ev p (base p t k:Int)=⟨t,k,(ins p t k).Loc,rdX<|ins p t k,wrX<|ins p t k⟩/\base p t k<(evs p).length:=by
 have := JD h.t h.k h.o;exact ⟨by unfold Go.Proofs.YtabfkkjdfhbngaaGreatDoor.ev;rw [tnn];exact this.1,this.2⟩
theorem mO {l:Nat} (hl:l<3):ev p (l:Int)=⟨-1,l,l,Rj,Ri⟩/\l<(evs p).length:=by
 obtain ⟨h1,h2⟩:=Ha (zq p<|UW p.length) (i:=l) (by exact hl);refine ⟨?_,h2⟩;unfold ev;rw [tnn];refine h1.trans ?_
 match l,hl with
 | 0,_=>rfl
 | 1,_=>rfl
 | 2,_=>rfl
theorem gy {n:Int} (h0:0<=n) (h:n<((evs p).length:Int)):n<3\/∃ t k,Isn p t k/\n=(base p t k:Int):=by
 rcases JK p.length n.toNat (by show _<(evs p).length;omega) with h1 | ⟨t,k,h1,h2,h3,h4⟩
 ·omega
 exact .inr ⟨t,k,⟨h1,h2,h3⟩,by omega⟩
theorem D9 {t k t' k':Nat} (h:Isn p t k) (h':Isn p t' k') (e:base p t k=base p t' k'):t=t'/\k=k':=by
 have h1:=h.ev.1;rw [e,h'.ev.1] at h1
 grind
structure OrdI (p:List (List QV)) (s:List Int) (m:Nat):Prop where
 mem:∀ n:Int,n∈sN p s m↔∃ t k:Nat,Isn p t k/\k<(s.take m).count (t:Int)/\n=(base p t k:Int)
 pw:(sN p s m).Pairwise λi k=>i≠k/\((ev p i).Thread=(ev p k).Thread->(ev p i).Index<(ev p k).Index)
theorem OrdI.all {s:LI} (hg:Good p s s.length):∀ {m:Nat},m<=s.length->OrdI p s m
 | 0,_=>⟨λn=>⟨λh=>by simp [sN] at h,λ⟨t,k,_,h,_⟩=>by grind⟩,by simp [sN]⟩
 | m+1,hm=>by
  have ih:=OrdI.all hg (m:=m) (by omega);obtain ⟨g1,g2,g3⟩:=F9 hg (j:=m) (by omega);have hc:∀ v:Int,(s.take<|m+1).count v=(s.take m).count v+if s.getD m Rh=v then 1 else 0:=λv=>zo (by omega) v;have hk:stK s m=(s.take m).count ((sTh s m:Nat):Int):=by rw [g2];rfl
  have new:∀ n:Int,n∈zt p (sTh s m) (stK s m)↔Isn p (sTh s m) (stK s m)/\n=(base p (sTh s m) (stK s m):Int):=λn=>by
   unfold zt
   split
   ·rename_i ho;exact ⟨λh=>by grind,λh=>absurd ho h.1.o⟩
   rename_i ho;rw [Vo];exact ⟨λh=>⟨⟨g1,g3,ho⟩,h⟩,λh=>h.2⟩
  refine ⟨λn=>?_,?_⟩
  ·simp only [sN,Va,new,ih.mem]
   grind
  simp only [sN];refine List.pairwise_append.2 ⟨ih.pw,?_,λa ha b hb=>?_⟩
  ·unfold zt
   split <;> simp
  obtain ⟨t,k,h1,h2,rfl⟩:=(ih.mem a).1 ha;obtain ⟨h3,rfl⟩:=(new b).1 hb;have key:t=sTh s m->k<stK s m:=λe=>by simp_all
  refine ⟨λe=>?_,λe=>?_⟩
  ·obtain ⟨e1,e2⟩:=D9 h1 h3 (by omega);omega
  rw [h1.ev.1,h3.ev.1] at e ⊢
  simp_all
theorem W3:∀ l:Nat,l<3->([0,1,2]:LI).filter (Wl p (l:Int))=[(l:Int)]:=λl hl=>by
 have w:∀ j:Nat,j<3->Wl p (l:Int) (j:Int)=Rm ((j:Int)=(l:Int)):=λj hj=>by
  unfold Wl;rw [(mO (p:=p) hj).1];simp
 have w0:Wl p (l:Int) 0=Rm ((0:Int)=(l:Int)):=w 0 (by omega);have w1:Wl p (l:Int) 1=Rm ((1:Int)=(l:Int)):=w 1 (by omega)
 grind
abbrev rk (F:LI) (n:Int):Nat:=F.idxOf n
structure RunOf (p:List (List QV)) (x:XS) (F:List Int):Prop where
 ini:∃ o,F=[0,1,2]++o
 nd:F.Nodup
 mem:∀ n:Int,n∈F↔0<=n/\n<((evs p).length:Int)
 po:∀ i k:Int,i∈F->k∈F->0<=(ev p i).Thread->(ev p i).Thread=(ev p k).Thread->(ev p i).Index<(ev p k).Index->rk F i<rk F k
 ord:∀ l:Nat,l<3->x.2.getD l []=F.filter (Wl p (l:Int))
 flen:x.1.length=(evs p).length
 olen:x.2.length=3
 frm:∀ i:Int,i∈F->(ev p i).Reads=Ri->∃ c,c<(F.filter<|Wl p (ev p i).Loc).length/\x.1.getD i.toNat Rh=(F.filter<|Wl p (ev p i).Loc).getD c Rh/\∀ q,q<(F.filter<|Wl p (ev p i).Loc).length->(q<=c↔rk F ((F.filter<|Wl p (ev p i).Loc).getD q Rh)<rk F i)
 frN:∀ i:Int,i∈F->(ev p i).Reads=Rj->x.1.getD i.toNat Rh = -1
theorem EW (hp:PV p) {s:LI} (hw:Whole p s):RunOf p (wT p<|sN p s s.length) ([0,1,2]++sN p s s.length):=by
 obtain ⟨_,hg,hc⟩:=hw;have hI:=OrdI.all hg<|U0 s.length;have hok:=Mw hp hg<|U0 s.length;have hmem:∀ n:Int,n∈sN p s s.length↔3<=n/\n<((evs p).length:Int):=λn=>by
  rw [hI.mem]
  constructor
  ·rintro ⟨t,k,h1,_,rfl⟩;have := Ga (p:=p) t k;have := h1.ev.2;omega
  rintro ⟨h1,h2⟩;rcases gy (by omega) h2 with h3 | ⟨t,k,h3,rfl⟩
  ·omega
  exact ⟨t,k,h3,by rw [List.take_length,hc t h3.t];exact h3.k,rfl⟩
 have hnd0:(sN p s s.length).Nodup:=hI.pw.imp λh=>h.1;have hF:∀ n:Int,n∈[0,1,2]++sN p s s.length↔0<=n/\n<((evs p).length:Int):=λn=>by
  have h3:=(mO (p:=p) (l:=2)<|by omega).2;rw [Va,hmem];simp only [Vh,Vi,or_false];omega
 have hnd:([0,1,2]++sN p s s.length).Nodup:=by
  refine Vn.2 ⟨by decide,hnd0,λa ha b hb e=>?_⟩;subst e;have := (hmem a).1 hb;simp only [Vh,Vi,or_false] at ha;omega
 have hpw:=hI.pw;generalize ho:sN p s s.length=o at *;have hW:=W3 (p:=p);obtain ⟨f1,f2⟩:=Lu o hnd0 hok;obtain ⟨l1,l2⟩:=Nl o hok;refine ⟨⟨o,rfl⟩,hnd,hF,λi k hi hk h0 he hlt=>?_,λl hl=>?_,l1,l2,λi hi hr=>?_,λi hi hr=>?_⟩
 ·-- a thread's events come in their order
  have nz:∀ n:Int,n∈[0,1,2]++o->0<=(ev p n).Thread->n∉([0,1,2]:LI)/\n∈o:=λn hn ht=>by
   obtain ⟨g1,g2⟩:=(hF n).1 hn;rcases gy g1 g2 with g3 | ⟨t,k,g3,rfl⟩
   ·have := (mO (p:=p) (l:=n.toNat)<|by omega).1;rw [UT g1] at this;rw [this] at ht;simp at ht
   have := Ga (p:=p) t k;refine ⟨λh=>?_,(hmem _).2 ⟨by omega,g2⟩⟩;simp only [Vh,Vi,or_false] at h;omega
  obtain ⟨a1,a2⟩:=nz i hi h0;obtain ⟨b1,b2⟩:=nz k hk (by omega);unfold rk;rw [Vb,if_neg a1,Vb,if_neg b1];have pw:=Vp.1 hpw;have la:=UZ a2;have lb:=UZ b2
  grind
 ·rw [JI o hok l hl,UY,hW l hl]
  rfl
 ·have hio:i∈o:=by
   rcases Va.1 hi with h | h
   ·exfalso;obtain ⟨g1,g2⟩:=(hF i).1 hi;have g3:i<3:=by
     simp only [Vh,Vi,or_false] at h;omega
    have := (mO (p:=p) (l:=i.toNat)<|by omega).1;rw [UT g1] at this
    simp_all
   exact h
  obtain ⟨o1,o2,e1,e2⟩:=f1 i hio hr;have hloc:=hok i hio;have hl3:((ev p i).Loc.toNat:Int)=(ev p i).Loc:=UT hloc.2.1;have hA:([0,1,2]++o1).filter (Wl p (ev p i).Loc)=(ev p i).Loc::o1.filter (Wl p (ev p i).Loc):=by
   have := hW (ev p i).Loc.toNat (by have := hloc.2.2;unfold ev;omega);rw [hl3] at this;rw [UY,this]
   rfl
  have hsp:[0,1,2]++o=([0,1,2]++o1)++i::o2:=by rw [e1];simp
  have hfl:([0,1,2]++o).filter (Wl p (ev p i).Loc)=((ev p i).Loc::o1.filter (Wl p (ev p i).Loc))++(i::o2).filter (Wl p (ev p i).Loc):=by grind
  have hdj:∀ a,a∈[0,1,2]++o1->∀ b,b∈i::o2->a≠b:=by
   have := hnd;rw [hsp] at this;exact (Vn.1 this).2.2
  have hi1:i∉[0,1,2]++o1:=λh=>hdj i h i (by simp) rfl;have rki:rk ([0,1,2]++o) i=([0,1,2]++o1).length:=by
   unfold rk;rw [hsp,Vb,if_neg hi1,Vq];omega
  refine ⟨(o1.filter<|Wl p (ev p i).Loc).length,?_,?_,λq hq=>?_⟩
  ·grind
  ·grind
  rw [rki];have hq':=hq;rw [hfl] at hq'
  constructor
  ·intro hle;have hm:(([0,1,2]++o).filter<|Wl p (ev p i).Loc).getD q Rh∈[0,1,2]++o1:=by
    rw [hfl,gdq,gal (by simp;omega),<- hA,geq (by rw [hA];simp;omega)];exact (U1.1<|Vr _).1
   grind
  intro hlt;rcases UU (o1.filter<|Wl p (ev p i).Loc).length q with hc | hc
  ·exfalso;have hm:(([0,1,2]++o).filter<|Wl p (ev p i).Loc).getD q Rh∈i::o2:=by
    have hq2:q-((ev p i).Loc::o1.filter (Wl p (ev p i).Loc)).length<((i::o2).filter<|Wl p (ev p i).Loc).length:=by
     rw [lla] at hq';simp only [llc] at hq' ⊢;omega
    rw [hfl,gdq,gar (by simp;omega),geq hq2];exact (U1.1<|Vr _).1
   have hn:(([0,1,2]++o).filter<|Wl p (ev p i).Loc).getD q Rh∉[0,1,2]++o1:=λh=>hdj _ h _ hm rfl;unfold rk at hlt;rw [hsp,Vb,<- hsp,if_neg hn] at hlt;omega
  omega
 obtain ⟨g1,g2⟩:=(hF i).1 hi;exact f2 i.toNat (by omega) λh=>by
  rw [UT g1] at h
  simp_all
end
theorem BS {α:Type} {P:α->Bool} [Inhabited α]:∀ {l:List α},(∀ q r,q<r->r<l.length->P (l.getD r Rh)=Ri->P (l.getD q Rh)=Ri)->∀ q,q<l.length->(P (l.getD q Rh)=Ri↔q<(l.filter P).length)
 | [],_,q,hq=>by grind
 | a::l,h,q,hq=>by
  have hs:∀ q r,q<r->r<l.length->P (l.getD r Rh)=Ri->P (l.getD q Rh)=Ri:=λq r h1 h2 h3=>h (q+1) (r+1) (by omega) (by simp_all) h3
  by_cases ha:P a=Ri
  ·rw [VG ha]
   cases q with
   | zero=>simp_all
   | succ q=>
    have := BS hs q (by simpa using hq)
    simp_all
  rw [VH ha];have hn:l.filter P=[]:=List.filter_eq_nil_iff.2 λb hb hb2=>by
   obtain ⟨r,hr,e⟩:=List.getElem_of_mem hb;refine ha<|h 0 (r+1) (by omega) (by simp;omega) ?_
   simp_all
  rw [hn];refine ⟨λhq2=>?_,λhq2=>by simp_all⟩
  cases q with
  | zero=>simp_all
  | succ q=>
   simp_all
theorem uk {α:Type} {P Q:α->Bool} {n:α}:∀ {l:List α},(∀ a∈l,P a=Ri->Q a=Ri)->(l.filter P).length<=(l.filter Q).length/\(n∈l->P n=Rj->Q n=Ri->(l.filter P).length+1<=(l.filter Q).length)
 | [],_=>⟨U0 _,λh=>by grind⟩
 | a::l,h=>by
  obtain ⟨h1,h2⟩:=uk (n:=n) (l:=l) λb hb=>h b<|VI _ hb
  grind
theorem Mx {α:Type} (f:α->Nat) (Q:α->Prop) (h:∃ a,Q a):∃ a,Q a/\∀ b,Q b->f a<=f b:=by
 obtain ⟨a,ha⟩:=h;have key:∀ n a,Q a->f a<=n->∃ a,Q a/\∀ b,Q b->f a<=f b:=λn=>by
  induction n with
  | zero=>grind
  | succ n ih=>
   grind
 exact key (f a) a ha<|U0 _
section
variable {p:List (List QV)} {x:XS} {F:LI}
def dn (p:List<|List QV) (a:Nat->Nat) (n:Int):Bool:=Rm ((ev p n).Thread<0)||Rm ((ev p n).Index<(a (ev p n).Thread.toNat:Int))
def od (x:XS) (l:Int):LI:=x.2.getD l.toNat []
def plc (l:LI) (n:Int):Int:=if n∈l then (l.idxOf n:Int) else -1
def poB (p:List<|List QV) (i k:Int):Bool:=(Rm ((ev p i).Thread=(ev p k).Thread)&&Rm (0<=(ev p i).Thread))&&Rm ((ev p i).Index<(ev p k).Index)
def rfB (p:List<|List QV) (x:XS) (i k:Int):Bool:=(ev p k).Reads&&Rm (x.1.getD k.toNat Rh=i)
def coB (p:List<|List QV) (x:XS) (i k:Int):Bool:=(((ev p i).bK&&(ev p k).bK)&&Rm ((ev p i).Loc=(ev p k).Loc))&&Rm (plc (od x (ev p i).Loc) i<plc (od x (ev p i).Loc) k)
def frB (p:List<|List QV) (x:XS) (i k:Int):Bool:=((((ev p i).Reads&&(ev p k).bK)&&Rm ((ev p i).Loc=(ev p k).Loc)) && !decide (i=k))&&Rm (plc (od x (ev p i).Loc) (x.1.getD i.toNat Rh)<plc (od x (ev p i).Loc) k)
def bef (p:List<|List QV) (x:XS) (i k:Int):Bool:=((poB p i k||rfB p x i k)||coB p x i k)||frB p x i k
theorem ny (hp:PV p) {n:Int} (h0:0<=n) (h:n<((evs p).length:Int)):0<=(ev p n).Loc/\(ev p n).Loc<=2:=by
 rcases gy h0 h with h3 | ⟨t,k,h3,rfl⟩
 ·have := (mO (p:=p) (l:=n.toNat)<|by omega).1
  grind
 rw [h3.ev.1];have := hp.ins t k h3.t h3.k;exact ⟨this.1,this.2.1⟩
theorem yt {l:LI} {n:Int} (h:n∈l):l.getD (l.idxOf n) Rh=n:=by
 grind
theorem lu {l:LI} (h:l.Nodup) {q:Nat} (hq:q<l.length):l.idxOf (l.getD q Rh)=q/\l.getD q Rh∈l:=by
 simp_all
theorem gM {l:LI} {n:Int} (h:n∈l):plc l n=(l.idxOf n:Int):=if_pos h
structure OdI (p:List (List QV)) (F L:List Int) (l:Int):Prop where
 nd:L.Nodup
 mem:∀ n,n∈L↔n∈F/\(ev p n).bK=Ri/\(ev p n).Loc=l
 rk:∀ q r,q<r->r<L.length->rk F (L.getD q Rh)<rk F (L.getD r Rh)
theorem RunOf.od (R:RunOf p x F) (l:Int) (hl:0<=l/\l<=2):OdI p F (od x l) l/\Go.Proofs.YtabfkkjdfhbngaaGreatDoor.od x l=F.filter (Wl p l):=by
 have h:Go.Proofs.YtabfkkjdfhbngaaGreatDoor.od x l=F.filter (Wl p l):=by
  have := R.ord l.toNat (by omega);rw [UT hl.1] at this;exact this
 refine ⟨⟨by rw [h];exact R.nd.filter _,λn=>?_,λq r hqr hr=>?_⟩,h⟩
 ·rw [h,U1];unfold Wl;simp
 rw [h] at hr ⊢;have pw:F.Pairwise λi k=>Go.Proofs.YtabfkkjdfhbngaaGreatDoor.rk F i<Go.Proofs.YtabfkkjdfhbngaaGreatDoor.rk F k:=Vp.2 λi j hi hj hij=>by
  show F.idxOf F[i]<F.idxOf F[j];rw [VJ R.nd i hi,VJ R.nd j hj];exact hij
 have := Vp.1 (pw.filter<|Wl p l) q r (by omega) hr hqr
 grind
theorem OW {F:LI} {i k:Int} (hi:i∈F) (hk:k∈F) (e:rk F i=rk F k):i=k:=by
 have h1:=yt hi
 grind
theorem RunOf.rd (hp:PV p) (R:RunOf p x F) {i:Int} (hi:i∈F) (hr:(ev p i).Reads=Ri):∃ c,c<(Go.Proofs.YtabfkkjdfhbngaaGreatDoor.od x (ev p i).Loc).length/\x.1.getD i.toNat Rh=(Go.Proofs.YtabfkkjdfhbngaaGreatDoor.od x (ev p i).Loc).getD c Rh/\∀ q,q<(Go.Proofs.YtabfkkjdfhbngaaGreatDoor.od x (ev p i).Loc).length->(q<=c↔rk F ((Go.Proofs.YtabfkkjdfhbngaaGreatDoor.od x (ev p i).Loc).getD q Rh)<rk F i):=by
 obtain ⟨h0,h1⟩:=(R.mem i).1 hi;rw [(R.od _<|ny hp h0 h1).2];exact R.frm i hi hr
structure OdC (p:List (List QV)) (F L:List Int) (l:Int):Prop where
 nd:L.Nodup
 mem:∀ n,n∈L↔n∈F/\(ev p n).bK=Ri/\(ev p n).Loc=l
structure Cand (p:List (List QV)) (x:XS) (F:List Int):Prop where
 mem:∀ n:Int,n∈F↔0<=n/\n<((evs p).length:Int)
 flen:x.1.length=(evs p).length
 olen:x.2.length=3
 ods:∀ l:Int,0<=l/\l<=2->OdC p F (od x l) l
 hd:∀ l:Nat,l<3->∃ t,od x (l:Int)=(l:Int)::t
 rdc:∀ i:Int,i∈F->(ev p i).Reads=Ri->x.1.getD i.toNat Rh∈od x (ev p i).Loc
 ne:∀ i:Int,i∈F->(ev p i).Reads=Ri->x.1.getD i.toNat Rh≠i
 frN:∀ i:Int,i∈F->(ev p i).Reads=Rj->x.1.getD i.toNat Rh = -1
theorem Cand.rdi (R:Cand p x F) {i:Int} (hi:i∈F) (hr:(ev p i).Reads=Ri):∃ c,c<(Go.Proofs.YtabfkkjdfhbngaaGreatDoor.od x (ev p i).Loc).length/\x.1.getD i.toNat Rh=(Go.Proofs.YtabfkkjdfhbngaaGreatDoor.od x (ev p i).Loc).getD c Rh:=by
 have h:=R.rdc i hi hr;exact ⟨_,UZ h,(yt h).symm⟩
theorem RunOf.cand (hp:PV p) (R:RunOf p x F):Cand p x F:=by
 refine ⟨R.mem,R.flen,R.olen,λl hl=>⟨(R.od l hl).1.nd,(R.od l hl).1.mem⟩,λl hl=>?_,λi hi hr=>?_,λi hi hr e=>?_,R.frN⟩
 ·obtain ⟨o,ho⟩:=R.ini;refine ⟨o.filter<|Wl p l,?_⟩;rw [(R.od (l:Int)<|by omega).2,ho,UY,W3 l hl]
  rfl
 ·obtain ⟨c,c1,c2,_⟩:=R.rd hp hi hr
  simp_all
 obtain ⟨c,c1,c2,c3⟩:=R.rd hp hi hr
 grind
theorem My (hp:PV p) (R:RunOf p x F) {i k:Int} (hi:i∈F) (hk:k∈F) (h:bef p x i k=Ri):rk F i<rk F k:=by
 obtain ⟨i0,i1⟩:=(R.mem i).1 hi;obtain ⟨k0,k1⟩:=(R.mem k).1 hk;unfold bef at h;simp only [UX] at h;rcases h with ((h | h) | h) | h
 ·simp only [poB,bae,dte] at h;exact R.po i k hi hk h.1.2 h.1.1 h.2
 ·simp only [rfB,bae,dte] at h;obtain ⟨c,c1,c2,c3⟩:=R.rd hp hk h.1
  grind
 ·simp only [coB,bae,dte] at h;obtain ⟨⟨⟨h1,h2⟩,h3⟩,h4⟩:=h;have O:=(R.od _<|ny hp i0 i1).1;have mi:=(O.mem i).2 ⟨hi,h1,rfl⟩;have mk:=(O.mem k).2 ⟨hk,h2,h3.symm⟩;rw [gM mi,gM mk] at h4;have := O.rk _ _ (by omega:List.idxOf i (Go.Proofs.YtabfkkjdfhbngaaGreatDoor.od x (ev p i).Loc)<List.idxOf k (Go.Proofs.YtabfkkjdfhbngaaGreatDoor.od x (ev p i).Loc))<|UZ mk
  grind
 simp only [frB,bae,dte,Vt,decide_eq_false_iff_not] at h;obtain ⟨⟨⟨⟨h1,h2⟩,h3⟩,h4⟩,h5⟩:=h;have O:=(R.od _<|ny hp i0 i1).1;have mk:=(O.mem k).2 ⟨hk,h2,h3.symm⟩;obtain ⟨c,c1,c2,c3⟩:=R.rd hp hi h1;obtain ⟨d1,d2⟩:=lu O.nd c1;rw [c2,gM d2,gM mk,d1] at h5;have hq:=UZ mk;have := mt (c3 _ hq).2 (by omega);rw [yt mk] at this;rcases Nat.lt_trichotomy (rk F i) (rk F k) with h6 | h6 | h6
 ·exact h6
 ·exact absurd (OW hi hk h6) h4
 omega
def dc (p:List<|List QV) (x:XS) (a:Nat->Nat) (l:Int):Nat:=((od x l).filter<|dn p a).length
def Closed (p:List<|List QV) (x:XS) (F:LI) (a:Nat->Nat):Prop:=∀ i k:Int,i∈F->k∈F->bef p x i k=Ri->dn p a k=Ri->dn p a i=Ri
def wI (p:List<|List QV) (x:XS) (F:LI) (a:Nat->Nat) (n:Int):Prop:=∀ i:Int,i∈F->bef p x i n=Ri->dn p a i=Ri
def Dead (p:List<|List QV) (x:XS) (F:LI) (a:Nat->Nat):Prop:=∃ i:Int,i∈F/\(ev p i).Reads=Ri/\dn p a i=Rj/\∃ c,c<(od x (ev p i).Loc).length/\x.1.getD i.toNat Rh=(od x (ev p i).Loc).getD c Rh/\c+1<dc p x a (ev p i).Loc
def Nn (p:List<|List QV) (x:XS) (a:Nat->Nat) (n:Int):Prop:=((ev p n).Reads=Ri->x.1.getD n.toNat Rh=(od x (ev p n).Loc).getD (dc p x a (ev p n).Loc-1) Rh)/\((ev p n).bK=Ri->(od x (ev p n).Loc).getD (dc p x a (ev p n).Loc) Rh=n)
def Behind (p:List<|List QV) (F:LI) (a b:Nat->Nat) (n:Option Int):Prop:=∀ m∈F,(dn p b m=Ri↔dn p a m=Ri\/n=Rk m)
theorem Dk (hp:PV p) (R:Cand p x F) (a:Nat->Nat) {l:Int} (hl:0<=l/\l<=2):1<=dc p x a l/\dc p x a l<=(od x l).length:=by
 refine ⟨?_,Vu _ _⟩;obtain ⟨e1,e2⟩:=mO (p:=p) (l:=l.toNat) (by omega);rw [UT hl.1] at e1;have hm:l∈od x l:=((R.ods l hl).mem l).2 ⟨(R.mem l).2 (by omega),by rw [e1],by rw [e1]⟩;refine List.length_pos_iff.2<|List.ne_nil_of_mem (a:=l)<|U1.2 ⟨hm,?_⟩;unfold dn
 simp_all
theorem BU (hp:PV p) (R:Cand p x F) {a:Nat->Nat} (hc:Closed p x F a) {l:Int} (hl:0<=l/\l<=2):∀ q,q<(od x l).length->(dn p a ((od x l).getD q Rh)=Ri↔q<dc p x a l):=by
 have O:=R.ods l hl;refine BS λq r hqr hr hd=>?_;obtain ⟨a1,a2⟩:=lu O.nd hr;obtain ⟨b1,b2⟩:=lu O.nd (show q<(od x l).length by omega);obtain ⟨a3,a4,a5⟩:=(O.mem _).1 a2;obtain ⟨b3,b4,b5⟩:=(O.mem _).1 b2;refine hc _ _ b3 a3 ?_ hd;unfold bef;rw [UX,UX];refine .inl<|.inr ?_;unfold coB;rw [a4,b4,a5,b5,gM a2,gM b2,a1,b1]
 simp_all
theorem JL (hp:PV p) (R:Cand p x F) {a:Nat->Nat} (hc:Closed p x F a) {n:Int} (hn:n∈F) (hd:dn p a n=Rj) (hr:wI p x F a n):Nn p x a n:=by
 obtain ⟨n0,n1⟩:=(R.mem n).1 hn;have hl:=ny hp n0 n1;have O:=R.ods _ hl;have P:=BU hp R hc hl;obtain ⟨p1,p2⟩:=Dk hp R a hl;refine ⟨λh=>?_,λh=>?_⟩
 ·obtain ⟨c,c1,c2⟩:=R.rdi hn h;obtain ⟨d1,d2⟩:=lu O.nd c1;obtain ⟨d3,d4,d5⟩:=(O.mem _).1 d2;have hb:dn p a ((od x (ev p n).Loc).getD c Rh)=Ri:=hr _ d3 (by
   unfold bef rfB;rw [h,c2];simp)
  have hlt:=(P c c1).1 hb;rcases UU (c+1) (dc p x a (ev p n).Loc) with h1 | h1
  ·exfalso;have h2:c+1<(od x (ev p n).Loc).length:=by omega
   have hw:=(P _ h2).2 h1;obtain ⟨f1,f2⟩:=lu O.nd h2;obtain ⟨f3,f4,f5⟩:=(O.mem _).1 f2;have : dn p a n=Ri:=hc n _ hn f3 (by
    unfold bef;rw [UX];refine .inr ?_;unfold frB;have hne:n≠(od x (ev p n).Loc).getD (c+1) Rh:=λe=>by rw [<- e,hd] at hw;cases hw
    rw [h,f4,f5,c2,gM d2,gM f2,d1,f1,decide_eq_false hne];simp only [UV,decide_true,Bool.not_false,dte];omega) hw
   rw [hd] at this
   cases this
  grind
 have m:=(O.mem n).2 ⟨hn,h,rfl⟩;have hq:=UZ m;have h1 : ¬ (od x (ev p n).Loc).idxOf n<dc p x a (ev p n).Loc:=λh1=>by
  have := (P _ hq).2 h1;rw [yt m,hd] at this
  cases this
 rcases UU (dc p x a (ev p n).Loc) ((od x (ev p n).Loc).idxOf n) with h2 | h2
 ·exfalso;have h3:dc p x a (ev p n).Loc<(od x (ev p n).Loc).length:=by omega
  obtain ⟨f1,f2⟩:=lu O.nd h3;obtain ⟨f3,f4,f5⟩:=(O.mem _).1 f2;have := (P _ h3).1 (hr _ f3 (by
   unfold bef;rw [UX,UX];refine .inl (.inr ?_);unfold coB;rw [h,f4,f5,gM m,gM f2,f1];simp only [UV,decide_true,dte];omega))
  omega
 grind
theorem Np {a b:Nat->Nat} (h:∀ m∈F,dn p a m=Ri->dn p b m=Ri) {l:Int} (hm:∀ m∈od x l,m∈F):dc p x a l<=dc p x b l:=(uk (n:=0) λm h1 h2=>h m (hm m h1) h2).1
theorem CL (hp:PV p) (R:RunOf p x F) {a b:Nat->Nat} (hc:Closed p x F a) {n:Int} (hn:n∈F) (hd:dn p a n=Rj) (Bg:Nn p x a n) (hnr : ¬ wI p x F a n) (hpo:∀ i:Int,i∈F->poB p i n=Ri->dn p a i=Ri) (hb:Behind p F a b<|Rk n):Dead p x F b:=by
 obtain ⟨n0,n1⟩:=(R.mem n).1 hn;have hl:=ny hp n0 n1;have O:=(R.od _ hl).1;have P:=BU hp (R.cand hp) hc hl;obtain ⟨p1,p2⟩:=Dk hp (R.cand hp) a hl;have hex:∃ i:Int,i∈F/\bef p x i n=Ri/\dn p a i=Rj:=by
  apply Classical.byContradiction;intro hno;refine hnr λi hi hbi=>?_
  cases hdi:dn p a i with
  | true=>rfl
  | false=>simp_all
 obtain ⟨i,hi,hbi,hdi⟩:=hex;have atn:(ev p n).bK=Ri->n∈od x (ev p n).Loc/\(od x (ev p n).Loc).idxOf n=dc p x a (ev p n).Loc:=λh=>by
  have m:=(O.mem n).2 ⟨hn,h,rfl⟩;refine ⟨m,?_⟩;have hq:=UZ m;have h1 : ¬ (od x (ev p n).Loc).idxOf n<dc p x a (ev p n).Loc:=λh1=>by
   have := (P _ hq).2 h1;rw [yt m,hd] at this
   cases this
  have h3:dc p x a (ev p n).Loc<(od x (ev p n).Loc).length:=by omega
  have := (lu O.nd h3).1;rw [Bg.2 h] at this;omega
 unfold bef at hbi;simp only [UX] at hbi;rcases hbi with ((h | h) | h) | h
 ·simp_all
 ·exfalso;simp only [rfB,bae,dte] at h;have h1:=Bg.1 h.1
  grind
 ·exfalso;simp only [coB,bae,dte] at h;obtain ⟨⟨⟨h1,h2⟩,h3⟩,h4⟩:=h;obtain ⟨m,hq⟩:=atn h2;rw [h3] at h4;have mi:=(O.mem i).2 ⟨hi,h1,h3⟩;rw [gM mi,gM m,hq] at h4
  grind
 simp only [frB,bae,dte,Vt,decide_eq_false_iff_not] at h;obtain ⟨⟨⟨⟨h1,h2⟩,h3⟩,h4⟩,h5⟩:=h;obtain ⟨m,hq⟩:=atn h2;obtain ⟨c,c1,c2,c3⟩:=R.rd hp hi h1;rw [h3] at c1 c2 c3 h5;obtain ⟨d1,d2⟩:=lu O.nd c1;rw [c2,gM d2,gM m,d1,hq] at h5;refine ⟨i,hi,h1,?_,c,by simp_all,by simp_all,?_⟩
 ·cases hdb:dn p b i with
  | false=>rfl
  | true=>
   rcases (hb i hi).1 hdb with h6 | h6
   ·rw [hdi] at h6;cases h6
   grind
 have := (uk (P:=dn p a) (Q:=dn p b) (n:=n) (l:=od x (ev p n).Loc) λq hq1 hq2=>(hb q ((O.mem q).1 hq1).1).2<|.inl hq2).2 m hd<|(hb n hn).2<|.inr rfl;rw [h3];unfold dc at h5 ⊢;omega
theorem Nq (hp:PV p) (R:RunOf p x F) {a b:Nat->Nat} (hD:Dead p x F a) {n:Option Int} (Bg:∀ m,n=Rk m->Nn p x a m) (hb:Behind p F a b n):Dead p x F b:=by
 obtain ⟨i,hi,h1,h2,c,c1,c2,c3⟩:=hD;obtain ⟨i0,i1⟩:=(R.mem i).1 hi;have hl:=ny hp i0 i1;have O:=(R.od _ hl).1;obtain ⟨p1,p2⟩:=Dk hp (R.cand hp) a hl;refine ⟨i,hi,h1,?_,c,c1,c2,Nat.lt_of_lt_of_le c3<|Np (λm hm hd=>(hb m hm).2<|.inl hd) λm hm=>((O.mem m).1 hm).1⟩
 cases hdb:dn p b i with
 | false=>rfl
 | true=>
  exfalso;rcases (hb i hi).1 hdb with h6 | h6
  ·simp_all
  have h7:=(Bg i h6).1 h1;rw [c2] at h7;have e1:=(lu O.nd c1).1;have e2:=(lu O.nd<|show dc p x a (ev p i).Loc-1<_ by omega).1
  simp_all
theorem rP (hp:PV p) (R:RunOf p x F) {a:Nat->Nat} (hc:Closed p x F a) : ¬ Dead p x F a:=by
 rintro ⟨i,hi,h1,h2,c,c1,c2,c3⟩;obtain ⟨i0,i1⟩:=(R.mem i).1 hi;have hl:=ny hp i0 i1;have O:=(R.od _ hl).1;obtain ⟨p1,p2⟩:=Dk hp (R.cand hp) a hl;have h3:c+1<(od x (ev p i).Loc).length:=by omega
 have hw:=(BU hp (R.cand hp) hc hl _ h3).2 c3;obtain ⟨d1,d2⟩:=lu O.nd c1;obtain ⟨f1,f2⟩:=lu O.nd h3;obtain ⟨f3,f4,f5⟩:=(O.mem _).1 f2;have : dn p a i=Ri:=hc i _ hi f3 (by
  unfold bef;rw [UX];refine .inr ?_;unfold frB;have hne:i≠(od x (ev p i).Loc).getD (c+1) Rh:=λe=>by rw [<- e,h2] at hw;cases hw
  rw [h1,f4,f5,c2,gM d2,gM f2,d1,f1,decide_eq_false hne];simp only [UV,decide_true,Bool.not_false,dte];omega) hw
 simp_all
theorem JM {a b:Nat->Nat} (hc:Closed p x F a) {n:Option Int} (hr:∀ m,n=Rk m->wI p x F a m) (hb:Behind p F a b n):Closed p x F b:=λi k hi hk hbef hd=>by
 rcases (hb k hk).1 hd with h | h
 ·exact (hb i hi).2<|.inl<|hc i k hi hk hbef h
 exact (hb i hi).2<|.inl<|hr k h i hi hbef
theorem Im (hp:PV p) (R:RunOf p x F) {a:Nat->Nat} (h:∃ i,i∈F/\dn p a i=Rj):∃ n,n∈F/\dn p a n=Rj/\wI p x F a n:=by
 obtain ⟨n,⟨h1,h2⟩,h3⟩:=Mx (rk F) _ h;refine ⟨n,h1,h2,λi hi hb=>?_⟩;have := My hp R hi h1 hb
 grind
def adv (a:Nat->Nat) (t:Nat):Nat->Nat:=λu=>if u=t then a t+1 else a u
def BV (p:List<|List QV) (t k:Nat):Prop:=((p.getD t Rh).getD k Rh).Op=4
instance (t k:Nat):Decidable (BV p t k):=by unfold BV;infer_instance
def StA (p:List<|List QV) (a:Nat->Nat):Prop:=∀ t,t<p.length->a t<=(p.getD t Rh).length
def nxt (p:List<|List QV) (a:Nat->Nat) (t:Nat):Option Int:=if BV p t (a t) then Rl else Rk (base p t (a t):Int)
theorem jY {a:Nat->Nat} {t k:Nat} (h:Isn p t k):(dn p a (base p t k:Int)=Ri↔k<a t):=by
 unfold dn;rw [h.ev.1]
 grind
theorem ul {a:Nat->Nat} {n:Int} (h0:0<=n) (h:n<3):dn p a n=Ri:=by
 have := (mO (p:=p) (l:=n.toNat)<|by omega).1;rw [UT h0] at this;unfold dn
 simp_all
theorem tC (R:Cand p x F) {a:Nat->Nat} {t:Nat} (ht:t<p.length) (hk:a t<(p.getD t Rh).length):Behind p F a (adv a t) (nxt p a t):=λm hm=>by
 obtain ⟨m0,m1⟩:=(R.mem m).1 hm;rcases gy m0 m1 with h3 | ⟨t',k',h3,rfl⟩
 ·exact ⟨λ_ => .inl<|ul m0 h3,λ_=>ul m0 h3⟩
 rw [jY h3,jY h3];unfold adv nxt
 by_cases e:t'=t
 ·subst e;rw [if_pos rfl]
  by_cases e2:k'=a t'
  ·rw [<- e2,if_neg (show ¬ BV p t' k' from h3.o)]
   simp_all
  refine ⟨λh => .inl (by omega),λh=>?_⟩;rcases h with h | h
  ·omega
  split at h
  ·cases h
  rename_i ho;injection h with h;exact absurd (D9 h3 ⟨ht,hk,ho⟩<|by omega).2 e2
 rw [if_neg e];refine ⟨λh => .inl h,λh=>?_⟩;rcases h with h | h
 ·exact h
 split at h
 ·cases h
 rename_i ho;injection h with h;exact absurd (D9 h3 ⟨ht,hk,ho⟩<|by omega).1 e
theorem JN (R:Cand p x F) {a:Nat->Nat} {t:Nat} (ht:t<p.length) (hk:a t<(p.getD t Rh).length) {n:Int} (h:nxt p a t=Rk n):Isn p t (a t)/\n=(base p t (a t):Int)/\n∈F/\dn p a n=Rj/\∀ i:Int,i∈F->poB p i n=Ri->dn p a i=Ri:=by
 unfold nxt at h
 split at h
 ·cases h
 rename_i ho;injection h with h;subst h;have hI:Isn p t (a t):=⟨ht,hk,ho⟩;refine ⟨hI,rfl,(R.mem _).2 ⟨by omega,by have := hI.ev.2;omega⟩,?_,λi hi hpo=>?_⟩
 ·cases hd:dn p a (base p t (a t):Int) with
  | false=>rfl
  | true=>have := (jY hI).1 hd;omega
 obtain ⟨m0,m1⟩:=(R.mem i).1 hi;rcases gy m0 m1 with h3 | ⟨t',k',h3,rfl⟩
 ·exact ul m0 h3
 simp only [poB,bae,dte,h3.ev.1,hI.ev.1] at hpo;rw [jY h3]
 grind
def iS (p:List<|List QV) (x:XS) (F:LI) (a:Nat->Nat) (t:Nat):Prop:=t<p.length/\a t<(p.getD t Rh).length/\∀ n,nxt p a t=Rk n->wI p x F a n
def Lv (p:List<|List QV) (x:XS) (a:Nat->Nat) (t:Nat):Prop:=t<p.length/\a t<(p.getD t Rh).length/\∀ n,nxt p a t=Rk n->Nn p x a n
def JO (p:List<|List QV) (a:Nat->Nat):Prop:=∀ t,t<p.length->a t=(p.getD t Rh).length
theorem JP (hp:PV p) (R:RunOf p x F) {a:Nat->Nat} (hs:StA p a) (hf : ¬ JO p a):∃ t,iS p x F a t:=by
 have hex:∃ t,t<p.length/\a t<(p.getD t Rh).length:=by
  apply Classical.byContradiction;intro hno;refine hf λt ht=>?_;have := hs t ht;have := mt (λh=>(⟨t,ht,h⟩:∃ t,t<p.length/\a t<(p.getD t Rh).length)) hno;omega
 by_cases hfe:∃ t,t<p.length/\a t<(p.getD t Rh).length/\BV p t (a t)
 ·obtain ⟨t,h1,h2,h3⟩:=hfe;refine ⟨t,h1,h2,λn hn=>?_⟩;unfold nxt at hn
  simp_all
 have hev:∀ t,t<p.length->a t<(p.getD t Rh).length->Isn p t (a t):=λt h1 h2=>⟨h1,h2,λh3=>hfe ⟨t,h1,h2,h3⟩⟩;obtain ⟨t,h1,h2⟩:=hex;have hI:=hev t h1 h2;obtain ⟨n,n1,n2,n3⟩:=Im hp R (a:=a) ⟨(base p t (a t):Int),(R.mem _).2 ⟨by omega,by have := hI.ev.2;omega⟩,by
  cases hd:dn p a (base p t (a t):Int) with
  | false=>rfl
  | true=>have := (jY hI).1 hd;omega⟩
 obtain ⟨m0,m1⟩:=(R.mem n).1 n1;rcases gy m0 m1 with h3 | ⟨t',k',h3,rfl⟩
 ·rw [ul m0 h3] at n2
  cases n2
 have hle:a t'<=k':=by
  rcases UU k' (a t') with h | h
  ·rw [(jY h3).2 h] at n2;cases n2
  exact h
 have hI':=hev t' h3.t (by have := h3.k;omega);have : a t'=k':=by
  rcases UU (a t') k' with h | h
  ·exfalso;have := (jY hI').1 (n3 (base p t' (a t'):Int) ((R.mem _).2 ⟨by omega,by have := hI'.ev.2;omega⟩) (by
    unfold bef poB;rw [hI'.ev.1,h3.ev.1];simp only [decide_true,UV,UX,dte,bae];exact .inl (.inl (.inl ⟨by omega,by omega⟩)))
    )
   omega
  omega
 refine ⟨t',h3.t,hI'.k,λm hm=>?_⟩;unfold nxt at hm
 simp_all
inductive Gr (p:List (List QV)) (x:XS) (F:List Int):(Nat->Nat)->List Int->Prop
 | nil {a:Nat->Nat} (h:JO p a):Gr p x F a []
 | cons {a:Nat->Nat} {t:Nat} {r:LI} (h:iS p x F a t) (hl:∀ u,u<t -> ¬ iS p x F a u) (k:Gr p x F (adv a t) r):Gr p x F a ((t:Int)::r)
theorem Gr.uniq {a:Nat->Nat} {r:LI} (h:Gr p x F a r):∀ {r'},Gr p x F a r'->r=r':=by
 induction h with
 | nil h=>
  intro r' h'
  cases h' with
  | nil _=>rfl
  | cons h1 _ _=>have := h _ h1.1;have := h1.2.1;omega
 | @cons a t r h hl _ ih=>
  intro r' h'
  cases h' with
  | nil h1=>have := h1 _ h.1;have := h.2.1;omega
  | @cons _ u _ h1 hl1 k1=>
   grind
end
theorem Nr (a b:Int):(a==b)=Rm (a=b):=by grind
theorem vY {n:Nat} (h:n<9223372036854775808):IntKind.wrap .i64 (n:Int)=(n:Int):=by
 simp only [IntKind.wrap];show (let m:=(n:Int) % 18446744073709551616;if Ri&&m>=(9223372036854775808:Int) then m-18446744073709551616 else m)=n
 grind
theorem wU {a b:Nat} (ha:a<9223372036854775808) (hb:b<9223372036854775808):bOr .i64 (a:Int) (b:Int)=((a|||b:Nat):Int):=by
 have hlt:(a|||b)<2 ^ 63:=Nat.or_lt_two_pow ha hb;show IntKind.wrap .i64 (((U3 64 (a:Int)|||U3 64 (b:Int)).toNat:Nat):Int)=_;have h1:(U3 64 (a:Int)).toNat=a:=by rw [Vv,Vw];omega
 have h2:(U3 64 (b:Int)).toNat=b:=by rw [Vv,Vw];omega
 rw [BitVec.toNat_or,h1,h2];exact vY hlt
theorem Ea {k:Nat} (h:k<62):EI .i64 1 (k:Int)=((2 ^ k:Nat):Int):=by
 show IntKind.wrap .i64 (1*2 ^ (min (k:Int).toNat 64))=_;have hm:min (k:Int).toNat 64=k:=by omega
 rw [hm,Int.one_mul,show (2:Int) ^ k=((2 ^ k:Nat):Int) by simp];refine vY ?_;have := Vx (a:=2) (by omega) (show k<63 by omega);omega
theorem JQ {m k:Nat} (hm:m<9223372036854775808) (hk:k<62):dJ .i64 (gu .i64 (m:Int) (k:Int)) 1=if m.testBit k then 1 else 0:=by
 have h1:gu .i64 (m:Int) (k:Int)=((m / 2 ^ k:Nat):Int):=by
  show (m:Int).fdiv (2 ^ (min (k:Int).toNat 64))=_;have hm:min (k:Int).toNat 64=k:=by omega
  rw [hm,show (2:Int) ^ k=((2 ^ k:Nat):Int) by simp,Int.fdiv_eq_ediv_of_nonneg _ (Int.natCast_nonneg _)]
  rfl
 have hlt:m / 2 ^ k<9223372036854775808:=Nat.lt_of_le_of_lt (Nat.div_le_self _ _) hm;rw [h1];show IntKind.wrap .i64 (((U3 64 ((m / 2 ^ k:Nat):Int)&&&U3 64 (1:Int)).toNat:Nat):Int)=_;rw [Nat.testBit_eq_decide_div_mod_eq];generalize m / 2 ^ k=d at hlt;have h2:(U3 64 ((d:Nat):Int)).toNat=d:=by rw [Vv,Vw];omega
 rw [BitVec.toNat_and,h2,show (U3 64 (1:Int)).toNat=1 from rfl,Nat.and_one_is_mod]
 by_cases h:d % 2=1
 ·rw [h,if_pos (by simp)];exact vY (by omega)
 rw [show d % 2=0 by omega,if_neg (by simp)];exact vY (by omega)
def Q5 (f:Nat->Bool):Nat->Nat
 | 0=>0
 | n+1=>if f n then Q5 f n|||2 ^ n else Q5 f n
theorem iY (f:Nat->Bool):∀ (n j:Nat),(Q5 f n).testBit j=(Rm (j<n)&&f j)
 | 0,j=>by simp [Q5]
 | n+1,j=>by
  have ih:=iY f n j;unfold Q5
  grind
theorem JR (f:Nat->Bool):∀ n:Nat,Q5 f n<2 ^ n
 | 0=>by simp [Q5]
 | n+1=>by
  have ih:=JR f n;have h2:(2:Nat) ^ (n+1)=2*2 ^ n:=by omega
  unfold Q5
  split
  ·exact Nat.or_lt_two_pow (by omega) (by omega)
  omega
theorem Hd (f g:Nat->Bool) (n:Nat):Q5 f n|||Q5 g n=Q5 (λj=>f j||g j) n:=by
 apply Vj;intro j;rw [Nat.testBit_or,iY,iY,iY]
 grind
theorem cu {f:Nat->Bool} {n:Nat} (h:n<=62):Q5 f n<9223372036854775808:=by
 have h1:=JR f n;have h2:(2:Nat) ^ n<=2 ^ 62:=Nat.pow_le_pow_right (by omega) h;omega
theorem yu {l:LI} (hl:l.length<=4000000) (n:Int):Q4 (fO l n) (· = plc l n):=by
 unfold fO;refine Q4.sum (PS:=λ_=>n∉l) (PW:=(· = plc l n)) ?_ λ_ hn => .pure (by unfold plc;simp_all);refine Q4.loop (λz=>∃ i:Nat,i<=l.length/\z=(i:Int)/\∀ j,j<i->l.getD j Rh≠n) (λz=>((l.length:Int)-z).toNat) ⟨0,by omega,rfl,λj hj=>by omega⟩ λz ⟨i,h1,h2,h3⟩ => ?_;subst h2;unfold tu J;refine .bifD (λhk => .gdD ⟨by omega,hk⟩<|.bif (λhe => .pure ?_) λhe => .gdI (by omega)<|.pure ⟨⟨i+1,by omega,rfl,λj hj=>?_⟩,by omega⟩) λhk => .pure ?_
 ·simp only [tnn,beq_iff_eq] at he;have hi:i<l.length:=by omega
  have hm:n∈l:=by rw [<- he];exact ym hi
  unfold plc;rw [if_pos hm]
  congr 1
  have h4:=UZ hm;rcases Nat.lt_trichotomy i (l.idxOf n) with h5 | h5 | h5
  ·exfalso;have : l.idxOf n<=i:=by
    have e:l=l.take i++l.drop i:=(Vy i l).symm;rw [e,Vb]
    split
    ·have := UZ (by assumption:n∈l.take i);rw [U7] at this;omega
    rw [List.drop_eq_getElem_cons hi,show l[i]=n by rw [<- he,gdq,geq hi];rfl,Vq,U7];omega
   omega
  ·exact h5
  grind
 ·grind
 intro hm;have h4:=UZ hm
 grind
section
variable {p:List (List QV)} {x:XS} {F:LI}
structure XOk (p:List (List QV)) (x:XS):Prop where
 f:x.1.length=(evs p).length
 o:x.2.length=3
 r:∀ i:Nat,(x.2.getD i Rh).length<=4000000
theorem Dl (hx:XOk p x) {l:Int} (hl:0<=l/\l<=2) (i k:Int):Q4 (jo ⟨x.1,x.2⟩ l i k) (· = Rm (plc (od x l) i<plc (od x l) k)):=by
 unfold jo J;refine .gdD ⟨hl.1,by simp only [];rw [hx.o];omega⟩ ((yu (hx.r _) i).bind λv hv=>(yu (hx.r _) k).bind λw hw => .pure ?_);subst hv hw
 rfl
theorem Lx (hp:PV p) (hx:XOk p x) {i k:Nat} (hi:i<(evs p).length) (hk:k<(evs p).length) (name:BA) (f:Int->Int->Bool)
  (h:(name=⟨#[112,111]⟩/\f=poB p)\/(name=⟨#[114,102]⟩/\f=rfB p x)\/(name=⟨#[99,111]⟩/\f=coB p x)\/(name=⟨#[102,114]⟩/\f=frB p x)):Q4 (qd p ⟨x.1,x.2⟩ (evs p) name (i:Int) (k:Int)) (· = f i k):=by
 have ei:(evs p).getD i Rh=ev p (i:Int):=by unfold ev;simp_all
 have ek:(evs p).getD k Rh=ev p (k:Int):=by unfold ev;simp_all
 have hl:=ny hp (n:=(i:Int)) (by omega) (by omega);unfold qd J;simp only [tnn,ei,ek];refine .gdD ⟨by omega,by omega⟩ (.gdD ⟨by omega,by omega⟩ (Q4.bind (P:=(· = (Rm ((ev p i).Thread=(ev p k).Thread)&&Rm (0<=(ev p i).Thread)))) (.bif (λh => .pure ?_) λh => .pure ?_) λsame hs=>?_))
 ·simp_all
 ·simp_all
 subst hs;rcases h with ⟨rfl,rfl⟩ | ⟨rfl,rfl⟩ | ⟨rfl,rfl⟩ | ⟨rfl,rfl⟩
 ·refine Q4.sumR ?_;refine .bif (λ_=>Q4.bind (P:=(· = poB p i k)) (.bif (λh => .pure ?_) λh => .pure ?_) λv hv => .pure<|by rw [hv]) λh=>absurd h (by decide)
  ·unfold poB;grind
  unfold poB;grind
 ·refine Q4.sumR<|.bif (λh=>absurd h<|by decide) λ_ => .bif (λh=>absurd h<|by decide) λ_ => .bif (λh=>absurd h<|by decide) λ_ => .bif (λ_=>?_) λh=>absurd h (by decide);refine Q4.bind (P:=(· = rfB p x i k)) (.bif (λh => .gdD ⟨by omega,by rw [hx.f];omega⟩<|.pure ?_) λh => .pure ?_) λv hv => .pure (by rw [hv])
  ·unfold rfB;grind
  unfold rfB;simp_all
 ·refine Q4.sumR<|.bif (λh=>absurd h<|by decide) λ_ => .bif (λh=>absurd h<|by decide) λ_ => .bif (λh=>absurd h<|by decide) λ_ => .bif (λh=>absurd h<|by decide) λ_ => .bif (λ_=>?_) λh=>absurd h (by decide);refine Q4.bind (P:=(· = ((ev p i).bK&&(ev p k).bK))) (.bif (λh => .pure<|by simp_all) λh => .pure<|by simp_all) λv1 h1=>?_;refine Q4.bind (P:=(· = (((ev p i).bK&&(ev p k).bK)&&Rm ((ev p i).Loc=(ev p k).Loc)))) (.bif (λh => .pure<|by grind) λh => .pure<|by simp_all) λv2 h2=>?_;refine Q4.bind (P:=(· = coB p x i k)) (.bif (λh=>(Dl hx hl _ _).bind λv hv => .pure<|by unfold coB;simp_all) λh => .pure<|by unfold coB;simp_all) λv hv => .pure (by rw [hv])
 refine Q4.sumR<|.bif (λh=>absurd h<|by decide) λ_ => .bif (λh=>absurd h<|by decide) λ_ => .bif (λh=>absurd h<|by decide) λ_ => .bif (λh=>absurd h<|by decide) λ_ => .bif (λh=>absurd h<|by decide) λ_ => .bif (λ_=>?_) λh=>absurd h (by decide);refine Q4.bind (P:=(· = frB p x i k)) (.bif (λh1 => .bif (λh2 => .bif (λh3 => .bif (λh4 => .gdD ⟨by omega,by rw [hx.f];omega⟩<|(Dl hx hl _ _).bind λv hv => .pure ?_) λh4 => .pure ?_) λh3 => .pure ?_) λh2 => .pure ?_) λh1 => .pure ?_) λv hv => .pure (by rw [hv])
 ·have h4 : ¬ (i:Int)=(k:Int):=by simpa using h4
  unfold frB
  simp_all
 ·have h4:(i:Int)=(k:Int):=by simpa using h4
  unfold frB
  simp_all
 ·unfold frB
  simp_all
 ·unfold frB;simp_all
 unfold frB;simp_all
def sx (p:List<|List QV) (f:Int->Int->Bool) (n:Nat):LI:=(UR n).map λ(i:Nat)=>((Q5 (λk=>f (i:Int) k) (evs p).length:Nat):Int)
theorem Dm (f:Int->Int->Bool) (n:Nat):sx p f (n+1)=sx p f n++[((Q5 (λk=>f n k) (evs p).length:Nat):Int)]:=by
 unfold sx;rw [U2,U4]
 rfl
theorem yw (f:Int->Int->Bool) (n:Nat):(sx p f n).length=n:=by simp [sx]
theorem BW (f:Int->Int->Bool) {n i:Nat} (h:i<n):(sx p f n).getD i Rh=((Q5 (λk=>f i k) (evs p).length:Nat):Int):=by
 unfold sx
 simp_all
theorem Eb (hp:PV p) (hx:XOk p x) (name:BA) (f:Int->Int->Bool)
  (h:(name=⟨#[112,111]⟩/\f=poB p)\/(name=⟨#[114,102]⟩/\f=rfB p x)\/(name=⟨#[99,111]⟩/\f=coB p x)\/(name=⟨#[102,114]⟩/\f=frB p x)):Q4 (jp p ⟨x.1,x.2⟩ name) (· = sx p f (evs p).length):=by
 have hel:=jX hp.vs;unfold jp;refine (D6 hp.vs).bind λv1 h1=>?_;subst h1;refine Q4.bind (P:=(· = sx p f (evs p).length)) ?_ λv hv => .pure hv;refine Q4.loop (λz=>∃ n:Nat,n<=(evs p).length/\z=(sx p f n,(n:Int))) (λz=>(((evs p).length:Int)-z.2).toNat) ⟨0,by omega,rfl⟩ λz ⟨n,h1,h2⟩ => ?_;subst h2;unfold vv;refine .bifD (λhk=>?_) λhk => .pure ?_
 ·simp only [] at hk;refine Q4.bind (P:=(· = sx p f (n+1))) (Q4.bind (P:=(· = ((Q5 (λk=>f n k) (evs p).length:Nat):Int))) ?_ λv hv => .gd (bJ (by simp only [];rw [yw];omega) rfl)<|.pure<|by simp only [];rw [hv,Dm]) λv hv => .gdI (by simp only [];omega) (.pure ⟨⟨n+1,by omega,by rw [hv];rfl⟩,by simp only [];omega⟩);refine Q4.loop (λz=>∃ k:Nat,k<=(evs p).length/\z=((k:Int),((Q5 (λk=>f n k) k:Nat):Int))) (λz=>(((evs p).length:Int)-z.1).toNat) ⟨0,by omega,rfl⟩ λz ⟨k,k1,k2⟩ => ?_;subst k2;unfold uJ;refine .bifD (λhkk=>?_) λhkk => .pure ?_
  ·simp only [] at hkk;refine Q4.bind (P:=(· = ((Q5 (λk=>f n k) (k+1):Nat):Int))) ((Lx hp hx (i:=n) (k:=k) (by omega) (by omega) name f h).bind λv hv => .bif (λhb => .gdD (by simp only [];omega)<|.pure ?_) λhb => .pure ?_) λv hv => .gdI (by simp only [];omega) (.pure ⟨⟨k+1,by omega,by rw [hv];rfl⟩,by simp only [];omega⟩)
   ·simp only [];rw [Ea (by omega),wU (cu<|by omega) (by have := Vx (a:=2) (by omega) (show k<63 by omega);omega)];rw [hv] at hb;simp only [Q5,hb,if_true]
   rw [hv] at hb;simp only [Q5,hb]
   rfl
  have : k=(evs p).length:=by simp only [] at hkk;omega
  rw [<- this]
 grind
theorem BX (hp:PV p) (f g:Int->Int->Bool):Q4 (iT (sx p f (evs p).length)<|sx p g (evs p).length) (· = sx p (λi k=>f i k||g i k) (evs p).length):=by
 have hel:=jX hp.vs;unfold iT;refine Q4.bind (P:=(· = sx p (λi k=>f i k||g i k) (evs p).length)) ?_ λv hv => .pure hv;refine Q4.loop (λz=>∃ n:Nat,n<=(evs p).length/\z=(sx p (λi k=>f i k||g i k) n,(n:Int))) (λz=>(((evs p).length:Int)-z.2).toNat) ⟨0,by omega,rfl⟩ λz ⟨n,h1,h2⟩ => ?_;subst h2;unfold tv J;simp only [yw,tnn];refine .bifD (λhk=>?_) λhk => .pure ?_
 ·refine .gdD ⟨by omega,by omega⟩<|.gdD ⟨by omega,by omega⟩<|.gd (bJ (by omega) rfl)<|.gdI (by omega)<|.pure ⟨⟨n+1,by omega,?_⟩,by simp only [];omega⟩;rw [BW f (by omega),BW g (by omega),wU (cu<|by omega) (cu<|by omega),Hd,Dm]
  rfl
 grind
theorem Ly (hp:PV p) (hx:XOk p x):Q4 (kZ p ⟨x.1,x.2⟩) (· = sx p (bef p x) (evs p).length):=by
 unfold kZ;refine (Eb hp hx _ (poB p)<|.inl ⟨rfl,rfl⟩).bind λv1 h1=>(Eb hp hx _ (rfB p x)<|.inr<|.inl ⟨rfl,rfl⟩).bind λv2 h2=>?_;subst h1 h2;refine (BX hp _ _).bind λv3 h3=>(Eb hp hx _ (coB p x)<|.inr<|.inr<|.inl ⟨rfl,rfl⟩).bind λv4 h4=>?_;subst h3 h4;refine (BX hp _ _).bind λv5 h5=>(Eb hp hx _ (frB p x)<|.inr<|.inr<|.inr ⟨rfl,rfl⟩).bind λv6 h6=>?_;subst h5 h6;exact (BX hp _ _).bind λv7 h7 => .pure h7
theorem wV (hp:PV p) (l:Int):Q4 (cJ (evs p) l) (· = ((UR (evs p).length).map λ(i:Nat)=>(i:Int)).filter (Wl p l)):=by
 have hel:=jX hp.vs;unfold cJ;refine Q4.bind (P:=(· = ((UR (evs p).length).map λ(i:Nat)=>(i:Int)).filter (Wl p l))) ?_ λv hv => .pure hv;refine Q4.loop (λz=>∃ n:Nat,n<=(evs p).length/\z=(((UR n).map λ(i:Nat)=>(i:Int)).filter<|Wl p l,(n:Int))) (λz=>(((evs p).length:Int)-z.2).toNat) ⟨0,by omega,rfl⟩ λz ⟨n,h1,h2⟩ => ?_;subst h2;unfold qM J;have en:(evs p).getD n Rh=ev p (n:Int):=by unfold ev;rw [tnn]
 simp only [tnn,en];refine .bifD (λhk=>?_) λhk => .pure ?_
 ·have hsl:(((UR n).map λ(i:Nat)=>(i:Int)).filter<|Wl p l).length<=n:=Vk (Vu _ _) (by simp);have hst:((UR<|n+1).map λ(i:Nat)=>(i:Int)).filter (Wl p l)=((UR n).map λ(i:Nat)=>(i:Int)).filter (Wl p l)++if Wl p l (n:Int) then [(n:Int)] else []:=by
   rw [U2,U4,UY]
   congr 1
   by_cases h:Wl p l (n:Int)=Ri
   ·rw [if_pos h];simp [h]
   rw [if_neg h];simp [h]
  refine Q4.bind (P:=(· = ((UR<|n+1).map λ(i:Nat)=>(i:Int)).filter (Wl p l))) (.gdD ⟨by omega,hk⟩ (Q4.bind (P:=(· = Wl p l (n:Int))) (.bif (λh => .pure ?_) λh => .pure ?_) λb hb => .bif (λh => .gd (bJ (by omega) rfl)<|.pure ?_) λh => .pure ?_)) λv hv => .gdI (by omega)<|.pure ⟨⟨n+1,by omega,by rw [hv];rfl⟩,by simp only [];omega⟩
  ·unfold Wl;rw [h,UV];exact Nr _ _
  ·unfold Wl;rw [h];rfl
  ·rw [hst,<- hb,h];rfl
  rw [hst,<- hb,h];simp
 grind
theorem PU (hp:PV p) (R:Cand p x F):XOk p x:=by
 refine ⟨R.flen,R.olen,λi=>?_⟩;rcases UU i 3 with hi | hi
 ·have O:=R.ods (i:Int) (by omega);have h2:=jX hp.vs;have := Vz (l₂:=(UR (evs p).length).map λ(i:Nat)=>(i:Int)) O.nd λn hn=>by
   obtain ⟨a,b⟩:=(R.mem n).1 ((O.mem n).1 hn).1;exact Vl.2 ⟨n.toNat,U5.2 (by omega),by omega⟩
  rw [llm,Vd] at this;have e:x.2.getD i Rh=od x (i:Int):=by unfold od;rw [tnn,D8]
  grind
 rw [gdq,gen (by rw [R.olen];exact hi)];exact UW _
end
section
variable {p:List (List QV)} {x:XS} {F:LI}
def Q6 (p:List<|List QV) (l:Int):LI:=((UR (evs p).length).map λ(i:Nat)=>(i:Int)).filter<|Wl p l
theorem o6 (n:Int):n∈(UR (evs p).length).map (λ(i:Nat)=>(i:Int))↔0<=n/\n<((evs p).length:Int):=by
 rw [Vl]
 constructor
 ·grind
 rintro ⟨h1,h2⟩;exact ⟨n.toNat,U5.2 (by omega),by omega⟩
theorem MB:((UR (evs p).length).map λ(i:Nat)=>(i:Int)).Nodup:=List.pairwise_map.2<|List.nodup_range.imp λh e=>h (by omega)
theorem JS (R:Cand p x F) {l:Int} (hl:0<=l/\l<=2) (n:Int):n∈Q6 p l↔n∈od x l:=by
 rw [(R.ods l hl).mem,R.mem];unfold Q6;rw [U1,o6];unfold Wl
 simp_all
theorem Bd {l:Nat} (hl:l<3):∃ t,Q6 p (l:Int)=(l:Int)::t:=by
 have h3:3<=(evs p).length:=(zq p<|UW p.length).length_le;refine ⟨((VA 3<|(evs p).length-3).map λ(i:Nat)=>(i:Int)).filter<|Wl p (l:Int),?_⟩;have e:UR (evs p).length=[0,1,2]++VA 3 ((evs p).length-3):=by
  rw [List.range_eq_range',show [0,1,2]=VA 0 3 from rfl];have := List.range'_append (s:=0) (m:=3) (n:=(evs p).length-3) (step:=1);rw [show 3+((evs p).length-3)=(evs p).length by omega] at this;exact this.symm
 unfold Q6;rw [e,U4,UY];have := W3 (p:=p) l hl
 simp_all
theorem Ns (R:Cand p x F) {l:Nat} (hl:l<3):∃ t,od x (l:Int)=(l:Int)::t:=R.hd l hl
theorem JU (hp:PV p) {t k:Nat} (ht:t<p.length) (hk:k<(p.getD t Rh).length):Q4 (mg (evs p) (t:Int) (k:Int)) (· = if BV p t k then -1 else (base p t k:Int)):=by
 have hel:=jX hp.vs;unfold mg;refine Q4.sum (PS:=λ_=>BV p t k) (PW:=(· = if BV p t k then -1 else (base p t k:Int))) ?_ λ_ hf => .pure (by rw [if_pos hf]);refine Q4.loop (λz=>∃ n:Nat,n<=(evs p).length/\z=(n:Int)/\∀ j:Nat,j<n -> ¬ ((ev p (j:Int)).Thread=t/\(ev p (j:Int)).Index=k)) (λz=>(((evs p).length:Int)-z).toNat) ⟨0,by omega,rfl,λj hj=>by omega⟩ λz ⟨n,n1,n2,n3⟩ => ?_;subst n2;unfold rI J;have en:(evs p).getD n Rh=ev p (n:Int):=by unfold ev;rw [tnn]
 simp only [tnn,en];refine .bifD (λhkk => .gdD ⟨by omega,hkk⟩<|Q4.bind (P:=λb=>(b=Ri↔(ev p (n:Int)).Thread=t/\(ev p (n:Int)).Index=k)) (.bif (λh => .pure ?_) λh => .pure ?_) λb hb => .bif (λh => .pure ?_) λh => .gdI (by omega)<|.pure ⟨⟨n+1,by omega,rfl,λj hj=>?_⟩,by omega⟩) λhkk => .pure ?_
 ·have h:=eq_of_beq h;rw [beq_iff_eq];exact ⟨λe=>⟨h,e⟩,λe=>e.2⟩
 ·have h:=beq_eq_false_iff_ne.1 h;exact ⟨λe=>(by cases e),λe=>absurd e.1 h⟩
 ·obtain ⟨h1,h2⟩:=hb.1 h;rcases gy (p:=p) (n:=(n:Int)) (by omega) hkk with h3 | ⟨t',k',h3,e⟩
  ·rw [(mO (p:=p) (l:=n)<|by omega).1] at h1;simp only at h1;omega
  rw [e,h3.ev.1] at h1 h2;simp only at h1 h2;have e1:t'=t:=by omega
  have e2:k'=k:=by omega
  subst e1 e2;rw [if_neg (show ¬ BV p t' k' from h3.o)];exact e
 ·rcases UU j n with h' | h'
  ·exact n3 j h'
  rw [show j=n by omega];exact λe=>by rw [hb.2 e] at h;cases h
 have : n=(evs p).length:=by omega
 subst this
 by_cases hf:BV p t k
 ·exact hf
 exfalso;have hI:Isn p t k:=⟨ht,hk,hf⟩;refine n3 (base p t k) hI.ev.2 ?_;rw [hI.ev.1];exact ⟨rfl,rfl⟩
def dmk (p:List<|List QV) (a:Nat->Nat):Int:=((Q5 (λj=>dn p a (j:Int)) (evs p).length:Nat):Int)
theorem JV (hp:PV p) (R:Cand p x F) (a:Nat->Nat) {n:Nat} (hn:n<(evs p).length):Q4 (mh (sx p (bef p x) (evs p).length) (dmk p a) (n:Int)) λb=>(b=Ri↔wI p x F a (n:Int)):=by
 have hel:=jX hp.vs;unfold mh;refine Q4.sum (PS:=λ_=>wI p x F a (n:Int)) (PW:=λb=>(b=Ri↔wI p x F a (n:Int))) ?_ λ_ h => .pure ⟨λ_=>h,λ_=>rfl⟩;refine Q4.loop (λz=>∃ i:Nat,i<=(evs p).length/\z=(i:Int)/\∀ j:Nat,j<i->bef p x (j:Int) (n:Int)=Ri->dn p a (j:Int)=Ri) (λz=>(((evs p).length:Int)-z).toNat) ⟨0,by omega,rfl,λj hj=>by omega⟩ λz ⟨i,i1,i2,i3⟩ => ?_;subst i2;unfold rJ;simp only [yw];refine .bifD (λhk=>?_) λhk => .pure ?_
 ·refine Q4.bind (P:=(· = bef p x (i:Int) (n:Int))) ?_ λv7 h7=>?_
  ·unfold vw J;simp only [yw,tnn];refine .gdD ⟨by omega,hk⟩<|.gdD (by omega)<|.pure ?_;rw [BW _ (by omega),JQ (cu<|by omega) (by omega),iY,decide_eq_true hn,UV]
   cases bef p x (i:Int) (n:Int) <;> rfl
  subst h7;refine Q4.bind (P:=(· = (bef p x (i:Int) (n:Int) && !dn p a (i:Int)))) (.bif (λh => .gdD (by omega)<|.pure ?_) λh => .pure<|by rw [h];rfl) λv8 h8 => .bif (λh => .pure ?_) λh => .gdI (by omega) (.pure ⟨⟨i+1,by omega,rfl,λj hj hb=>?_⟩,by omega⟩)
  ·unfold dmk;rw [h,JQ (cu<|by omega) (by omega),iY,decide_eq_true (show i<(evs p).length by omega),UV]
   cases dn p a (i:Int) <;> rfl
  ·rw [h] at h8;have h8:=h8.symm;simp only [bae,Vt] at h8;refine ⟨λe=>(by cases e),λhr=>?_⟩;have := hr (i:Int) ((R.mem _).2 ⟨by omega,hk⟩) h8.1;rw [h8.2] at this
   cases this
  rcases UU j i with h' | h'
  ·exact i3 j h' hb
  have : j=i:=by omega
  subst this;rw [h,hb,UV] at h8;simpa using h8.symm
 have : i=(evs p).length:=by omega
 subst this;intro m hm hb;obtain ⟨m0,m1⟩:=(R.mem m).1 hm;have := i3 m.toNat (by omega);rw [UT m0] at this;exact this hb
def mu (p:List<|List QV) (a:Nat->Nat):Nat:=((UR p.length).map λt=>(p.getD t Rh).length-a t).sum
theorem Gb {f g:Nat->Nat}:∀ {n t:Nat},t<n->f t=g t+1->(∀ u,u<n->u≠t->f u=g u)->((UR n).map f).sum=((UR n).map g).sum+1
 | 0,t,h,_,_=>by omega
 | n+1,t,h,h1,h2=>by
  rw [U2,U4,U4,Ve,Ve];simp only [List.map_cons,List.map_nil,List.sum_cons,List.sum_nil]
  by_cases e:t=n
  ·subst e;have : (UR t).map f=(UR t).map g:=VK λu hu=>h2 u (by have := U5.1 hu;omega) (by have := U5.1 hu;omega)
   grind
  have := Gb (n:=n) (t:=t) (by omega) h1 λu hu hne=>h2 u (by omega) hne
  grind
theorem He {a:Nat->Nat} {t:Nat} (ht:t<p.length) (hk:a t<(p.getD t Rh).length):mu p a=mu p (adv a t)+1:=
 Gb ht (by
  show (p.getD t Rh).length-a t=(p.getD t Rh).length-adv a t t+1;unfold adv
  grind) λu _ hne=>by
  show (p.getD u Rh).length-a u=(p.getD u Rh).length-adv a t u;unfold adv
  simp_all
theorem MC {f:Nat->Nat} {m:Nat} (h:∀ u,f u<=m):∀ n:Nat,((UR n).map f).sum<=n*m
 | 0=>by simp
 | n+1=>by
  rw [U2,U4,Ve];simp only [List.map_cons,List.map_nil,List.sum_cons,List.sum_nil];have h1:=MC h n
  grind
theorem LA (hp:PV p) (a:Nat->Nat):mu p a<=21:=by
 have h1:=MC (f:=λt=>(p.getD t Rh).length-a t) (m:=7) (λu=>by have := hp.vs.2 u;omega) p.length;have h2:=hp.vs.1;unfold mu;omega
def ats (p:List<|List QV) (a:Nat->Nat):LI:=(UR p.length).map λt=>(a t:Int)
theorem JW {a:Nat->Nat} {t:Nat} (ht:t<p.length):(ats p a).getD t Rh=(a t:Int):=by
 unfold ats
 simp_all
theorem JX (a:Nat->Nat):(ats p a).length=p.length:=by simp [ats]
theorem Nt {a:Nat->Nat} {t:Nat} (ht:t<p.length):(ats p a).set t ((a t:Int)+1)=ats p (adv a t):=by
 apply List.ext_getElem?;intro i;rw [List.getElem?_set];unfold ats;simp only [llm,Vd,Vm]
 by_cases e:t=i
 ·subst e;rw [if_pos rfl,if_pos ht,Vf ht];simp [adv]
 rw [if_neg e];rcases UU i p.length with h | h
 ·rw [Vf h];simp [adv,Ne.symm e]
 simp_all
theorem StA.adv {a:Nat->Nat} {t:Nat} (h:StA p a) (hk:a t<(p.getD t Rh).length):StA p (Go.Proofs.YtabfkkjdfhbngaaGreatDoor.adv a t):=λu hu=>by
 unfold Go.Proofs.YtabfkkjdfhbngaaGreatDoor.adv
 by_cases e:u=t
 ·grind
 rw [if_neg e];exact h u hu
theorem Nu (hp:PV p) (R:Cand p x F) {a:Nat->Nat} {t:Nat} (ht:t<p.length) (hk:a t<(p.getD t Rh).length):(if BV p t (a t) then dmk p a else bOr .i64 (dmk p a) (EI .i64 1 (base p t (a t):Int)))=dmk p (adv a t):=by
 have hel:=jX hp.vs;have hB:=tC R ht hk;have mF:∀ j:Nat,j<(evs p).length->(j:Int)∈F:=λj hj=>(R.mem _).2 ⟨by omega,by omega⟩
 by_cases hf:BV p t (a t)
 ·rw [if_pos hf];unfold dmk
  congr 1
  apply Vj;intro j;rw [iY,iY]
  by_cases hj:j<(evs p).length
  ·rw [decide_eq_true hj,UV,UV];have := hB (j:Int)<|mF j hj;unfold nxt at this;rw [if_pos hf] at this;rw [VB,this];simp
  grind
 rw [if_neg hf];have hI:Isn p t (a t):=⟨ht,hk,hf⟩;have hb:=hI.ev.2;unfold dmk;rw [Ea (by omega),wU (cu<|by omega) (by have := Vx (a:=2) (by omega) (show base p t (a t)<63 by omega);omega)]
 congr 1
 apply Vj;intro j;rw [Nat.testBit_or,iY,iY,Nat.testBit_two_pow]
 by_cases hj:j<(evs p).length
 ·rw [decide_eq_true hj,UV,UV];have := hB (j:Int)<|mF j hj;unfold nxt at this;rw [if_neg hf] at this;rw [VB,this];simp only [UX,dte,sie]
  constructor
  ·rintro (h | h)
   ·exact .inl h
   exact .inr (by omega)
  rintro (h | h)
  ·exact .inl h
  exact .inr (by omega)
 grind
theorem LB (hp:PV p):dmk p (λ_=>0)=7:=by
 have h3:3<=(evs p).length:=(zq p<|UW p.length).length_le;unfold dmk;have : Q5 (λj=>dn p (λ_=>0) (j:Int)) (evs p).length=2 ^ 3-1:=by
  apply Vj;intro j;rw [iY,Nat.testBit_two_pow_sub_one]
  by_cases hj:j<(evs p).length
  ·rw [decide_eq_true hj,UV];rcases gy (p:=p) (n:=(j:Int)) (by omega) (by omega) with h | ⟨t,k,h,e⟩
   ·rw [decide_eq_true (show j<3 by omega)];exact ul (by omega) h
   have := Ga (p:=p) t k;rw [decide_eq_false (show ¬ j<3 by omega),e]
   cases hd:dn p (λ_=>0) (base p t k:Int) with
   | false=>rfl
   | true=>have := (jY h).1 hd;omega
  rw [decide_eq_false hj,decide_eq_false (show ¬ j<3 by omega)];rfl
 omega
theorem um (hp:PV p) (R:Cand p x F):Closed p x F (λ_=>0):=λi k hi hk hb hd=>by
 obtain ⟨k0,k1⟩:=(R.mem k).1 hk;obtain ⟨i0,i1⟩:=(R.mem i).1 hi;rcases gy k0 k1 with h | ⟨t,j,h,rfl⟩
 ·rcases gy i0 i1 with h' | ⟨t',j',h',rfl⟩
  ·exact ul i0 h'
  exfalso;have hk3:=(mO (p:=p) (l:=k.toNat)<|by omega).1;rw [UT k0] at hk3;obtain ⟨tl,htl⟩:=R.hd k.toNat (by omega);rw [UT k0] at htl;have hpk:plc (od x k) k=0:=by
   rw [gM (by simp_all),htl,Vq]
   rfl
  unfold bef at hb;simp only [UX] at hb;rcases hb with ((h1 | h1) | h1) | h1
  ·simp only [poB,bae,dte,hk3] at h1;omega
  ·simp only [rfB,bae,hk3] at h1
   simp_all
  ·simp only [coB,bae,dte,hk3] at h1;obtain ⟨⟨⟨g1,_⟩,g3⟩,g4⟩:=h1;rw [g3,hpk,gM (((R.ods k<|by omega).mem _).2 ⟨hi,g1,g3⟩)] at g4;omega
  simp only [frB,bae,dte,hk3] at h1;obtain ⟨⟨⟨⟨g1,_⟩,g3⟩,_⟩,g5⟩:=h1;have := R.rdc _ hi g1;rw [g3] at this g5;rw [hpk,gM this] at g5;omega
 have := (jY h).1 hd;omega
theorem Dn (R:Cand p x F) {a:Nat->Nat} {t:Nat} (ht:t<p.length) (hk:a t<(p.getD t Rh).length):iS p x F a t↔BV p t (a t)\/wI p x F a (base p t (a t):Int):=by
 unfold iS nxt
 grind
theorem vZ (R:Cand p x F) {a:Nat->Nat} {t:Nat} (hc:Closed p x F a) (h:iS p x F a t):Closed p x F (adv a t):=JM hc h.2.2<|tC R h.1 h.2.1
theorem BZ (hp:PV p) (R:Cand p x F):Q4 (iU p<|sx p (bef p x) (evs p).length) λv=>(v.2=Ri->Gr p x F (λ_=>0) v.1)/\(v.2=Rj->v.1=[]/\∃ a,StA p a /\ ¬ JO p a/\∀ t,¬ iS p x F a t):=by
 have hl:=hp.vs.1;have hel:=jX hp.vs;unfold iU;refine (D6 hp.vs).bind λv1 h1=>?_;subst h1;refine .gdD (by omega) (Q4.bind (P:=(· = 7)) ?_ λv3 h3=>?_)
 ·unfold uj;exact .gdD (by omega)<|.gd rfl<|.pure rfl
 subst h3;refine Q4.bind (P:=λz=>∃ a,StA p a/\z.1=ats p a/\(∀ t,¬ iS p x F a t)/\(JO p a->Gr p x F (λ_=>0) z.2)) ?_ λs4 ⟨a,g0,g1,g2,g3⟩ => ?_
 ·refine Q4.loop (λz=>∃ a,StA p a/\Closed p x F a/\z.1=ats p a/\z.2.2.2=dmk p a/\z.2.1.length+mu p a<=21/\(∀ r,Gr p x F a r->Gr p x F (λ_=>0) (z.2.1++r))/\(z.2.2.1=Rj->∀ t,¬ iS p x F a t)) (λz=>(((21-z.2.1.length:Nat))*2+if z.2.2.1 then 1 else 0)) ⟨λ_=>0,λt _=>UW _,um hp R,?_,(LB hp).symm,by have := LA hp λ_=>0;simpa using this,(by intro r hr;exact hr),λh=>by cases h⟩ λz ⟨a,z1,z2,z3,z4,z5,z6,z7⟩ => ?_
  ·simp only [tnn];apply List.ext_getElem?;intro i;unfold ats;rw [VM,Vm]
   split
   ·rename_i h;rw [Vf h]
    rfl
   rename_i h;rw [gen (by simpa using h)]
   rfl
  obtain ⟨atl,out,more,dm⟩:=z;simp only at z3 z4 z5 z6 z7;subst z3 z4;unfold rL;simp only [];refine .bif (λhm=>?_) λhm => .pure ?_
  ·refine Q4.loop (λw=>∃ n:Nat,n<=p.length/\w.2.2.1=(n:Int)/\((w.2.2.2.1=Rj/\w.1=ats p a/\w.2.1=out/\w.2.2.2.2=dmk p a/\∀ u,u<n -> ¬ iS p x F a u)\/(w.2.2.2.1=Ri/\∃ u,iS p x F a u/\(∀ v,v<u -> ¬ iS p x F a v)/\w.1=ats p (adv a u)/\w.2.1=out++[(u:Int)]/\w.2.2.2.2=dmk p (adv a u)))) (λw=>((p.length:Int)-w.2.2.1).toNat) ⟨0,by omega,rfl,.inl ⟨rfl,rfl,rfl,rfl,λu hu=>by omega⟩⟩ λw ⟨n,n1,n2,n3⟩ => ?_;obtain ⟨w1,w2,w3,w4,w5⟩:=w;simp only at n2 n3;subst n2;unfold rK J;simp only [tnn];refine Q4.bind (P:=λb=>(b=Ri↔n<p.length/\w4=Rj)) (.bifD (λh => .pure ?_) λh => .pure ?_) λb hb => .bif (λh=>?_) λh => .pure ?_
   ·cases w4
    ·exact ⟨λ_=>⟨by omega,rfl⟩,λ_=>rfl⟩
    exact ⟨λe=>(by cases e),λe=>(by cases e.2)⟩
   ·exact ⟨λe=>(by cases e),λe=>by omega⟩
   ·obtain ⟨hn,e4⟩:=hb.1 h;subst e4;rcases n3 with n3 | ⟨e,_⟩
    rotate_left
    ·cases e
    obtain ⟨_,e1,e2,e5,hno⟩:=n3;subst e1 e2 e5;have hrow:=hp.vs.2 n;have ha:=z1 n hn;refine Q4.bind (P:=λs=>(s.2.2.1=Rj/\s.1=ats p a/\s.2.1=w2/\s.2.2.2=dmk p a /\ ¬ iS p x F a n)\/(s.2.2.1=Ri/\iS p x F a n/\s.1=ats p (adv a n)/\s.2.1=w2++[(n:Int)]/\s.2.2.2=dmk p (adv a n))) (.gdD ⟨by omega,by rw [JX];omega⟩<|.gdD ⟨by omega,by omega⟩ ?_) λs hs => .gdI (by omega) (.pure ⟨⟨n+1,by omega,rfl,?_⟩,by simp only [];omega⟩)
    ·rw [JW hn];refine .bif (λhe => .pure<|.inl ⟨rfl,rfl,rfl,rfl,λhr=>?_⟩) λhe=>?_
     ·have he:=eq_of_beq he;have := hr.2.1;omega
     have he:=beq_eq_false_iff_ne.1 he;have hk:a n<(p.getD n Rh).length:=by omega
     refine (JU hp hn hk).bind λv29 h29=>?_;refine Q4.bind (P:=λb=>(b=Ri ↔ ¬ iS p x F a n)) (.bifD (λh0=>?_) λh0 => .pure ⟨λe=>(by cases e),λe=>?_⟩) λb30 h30 => .bif (λh => .pure<|.inl ⟨rfl,rfl,rfl,rfl,h30.1 h⟩) λh=>?_
     ·have hf : ¬ BV p n (a n):=λhf=>by rw [if_pos hf] at h29;omega
      rw [if_neg hf] at h29;subst h29;refine (JV hp R a (n:=base p n<|a n) (Isn.ev ⟨hn,hk,hf⟩).2).bind λv32 h32 => .pure ?_;rw [Dn R hn hk]
      cases v32 with
      | true=>exact ⟨λe=>(by cases e),λe=>absurd (.inr<|h32.1 rfl) e⟩
      | false=>
       refine ⟨λ_ e=>?_,λ_=>rfl⟩;rcases e with e | e
       ·exact hf e
       have := h32.2 e
       cases this
     ·have hf:BV p n (a n):=Classical.byContradiction λhf=>by rw [if_neg hf] at h29;omega
      exact absurd ((Dn R hn hk).2<|.inl hf) e
     have hr:iS p x F a n:=Classical.byContradiction λhr=>by rw [h30.2 hr] at h;cases h
     refine Q4.bind (P:=(· = dmk p (adv a n))) ?_ λv34 h34 => .gdI (by omega)<|.gd (bJ (by omega) rfl)<|.pure<|.inr ⟨rfl,hr,Nt hn,rfl,h34⟩;have hd:=Nu hp R hn hk;refine .bifD (λh0 => .gdD h0<|.pure ?_) λh0 => .pure ?_
     ·have hf : ¬ BV p n (a n):=λhf=>by rw [if_pos hf] at h29;omega
      rw [if_neg hf] at hd h29;rw [h29];exact hd
     have hf:BV p n (a n):=Classical.byContradiction λhf=>by rw [if_neg hf] at h29;omega
     rw [if_pos hf] at hd;exact hd
    rcases hs with ⟨s1,s2,s3,s4,s5⟩ | ⟨s1,s2,s3,s4,s5⟩
    ·refine .inl ⟨s1,s2,s3,s4,λu hu=>?_⟩;rcases UU u n with h' | h'
     ·exact hno u h'
     rw [show u=n by omega];exact s5
    exact .inr ⟨s1,n,s2,hno,s3,s4,s5⟩
   rcases n3 with ⟨e4,e1,e2,e5,hno⟩ | ⟨e4,u,hu,hno,e1,e2,e5⟩
   ·subst e4 e1 e2 e5;have hn:n=p.length:=by
     rcases UU n p.length with h' | h'
     ·rw [hb.2 ⟨h',rfl⟩] at h;cases h
     omega
    exact ⟨⟨a,z1,z2,rfl,rfl,z5,z6,λ_ t ht=>hno t (by have := ht.1;omega) ht⟩,by simp only [hm];simp⟩
   subst e4 e1 e2 e5;have hmu:=He hu.1 hu.2.1;refine ⟨⟨adv a u,z1.adv hu.2.1,vZ R z2 hu,rfl,rfl,by simp only [lla,U6];omega,λr hr=>?_,λe=>by cases e⟩,?_⟩
   ·rw [Vg];exact z6 _<|.cons hu hno hr
   simp only [hm,lla,U6];omega
  refine ⟨a,z1,rfl,z7 hm,λhf=>?_⟩;have := z6 []<|.nil hf
  rwa [VC] at this
 refine Q4.sum (PS:=λ_=>∀ t,t<p.length->a t=(p.getD t Rh).length) (PW:=λ(v:List Int×Bool)=>(v.2=Ri->Gr p x F (λ_=>0) v.1)/\(v.2=Rj->v.1=[]/\∃ a,StA p a /\ ¬ JO p a/\∀ t,¬ iS p x F a t)) ?_ λ_ h=>?_
 ·refine Q4.loop (λz=>∃ n:Nat,n<=p.length/\z=(n:Int)/\∀ t,t<n->a t=(p.getD t Rh).length) (λz=>((p.length:Int)-z).toNat) ⟨0,by omega,rfl,λt ht=>by omega⟩ λz ⟨n,n1,n2,n3⟩ => ?_;subst n2;unfold rM J;simp only [tnn,g1,JX];refine .bifD (λhk => .gdD ⟨by omega,by omega⟩<|.gdD ⟨by omega,hk⟩ ?_) λ_ => .pure λt ht=>n3 t (by omega);have hn:n<p.length:=by omega
  have ha:=g0 n hn;rw [JW hn];refine .bifD (λh => .pure ⟨λe=>(by cases e),λ_=>⟨rfl,a,g0,λhf=>by have := hf n hn;omega,g2⟩⟩) λh => .gdI (by omega) (.pure ⟨⟨n+1,by omega,rfl,λt ht=>?_⟩,by omega⟩);rcases UU t n with h' | h'
  ·exact n3 t h'
  rw [show t=n by omega];omega
 exact .pure ⟨λ_=>g3 h,λe=>by cases e⟩
theorem LC (hp:PV p) (R:RunOf p x F):Q4 (iU p<|sx p (bef p x) (evs p).length) λv=>v.2=Ri/\Gr p x F (λ_=>0) v.1:=by
 obtain ⟨v,e,h1,h2⟩:=BZ hp<|R.cand hp;refine ⟨v,e,?_⟩
 cases hv:v.2 with
 | true=>exact ⟨hv,h1 hv⟩
 | false=>
  obtain ⟨_,a,g1,g2,g3⟩:=h2 hv;obtain ⟨t,ht⟩:=JP hp R g1 g2;exact absurd ht<|g3 t
end
section
variable {p:List (List QV)} {x:XS} {F:LI}
def wq (p:List<|List QV) (t:Nat) (l:Int) (k:Nat):Bool:=wrX (ins p t k)&&Rm ((ins p t k).Loc=l)
def cwr (p:List<|List QV) (t:Nat) (l:Int) (m:Nat):Nat:=((UR m).filter<|wq p t l).length
theorem yx (t:Nat) (l:Int) (m:Nat):cwr p t l (m+1)=cwr p t l m+if wq p t l m then 1 else 0:=by
 unfold cwr;rw [U2,UY,lla]
 grind
def cnt (p:List<|List QV) (a:Nat->Nat) (l:Int) (n:Nat):Nat:=((UR n).map λt=>cwr p t l<|a t).sum
theorem Ec (a:Nat->Nat) (l:Int) (n:Nat):cnt p a l (n+1)=cnt p a l n+cwr p n l (a n):=by
 unfold cnt;rw [U2,U4,Ve];simp
def dE (a:Nat->Nat) (l:Int) (e:QX):Bool:=(e.bK&&Rm (e.Loc=l))&&(Rm (e.Thread<0)||Rm (e.Index<(a e.Thread.toNat:Int)))
theorem JY (a:Nat->Nat) (l:Int) (t:Nat):∀ m:Nat,((evR t (p.getD t Rh) m).filter<|dE a l).length=cwr p t l (min m<|a t)
 | 0=>by simp [evR,cwr]
 | m+1=>by
  have ih:=JY a l t m;simp only [evR,UY,lla,ih];have hx:((p.getD t Rh).getD m Rh)=ins p t m:=rfl;unfold evX;rw [hx]
  by_cases ho:(ins p t m).Op=4
  ·rw [if_pos ho];have hw:wq p t l m=Rj:=by unfold wq wrX;rw [ho];rfl
   by_cases hm:m<a t
   ·rw [show min (m+1) (a t)=min m (a t)+1 by omega,yx,show min m (a t)=m by omega,hw];rfl
   grind
  rw [if_neg ho];have hd:dE a l ⟨t,m,(ins p t m).Loc,rdX<|ins p t m,wrX<|ins p t m⟩=(wq p t l m&&Rm (m<a t)):=by
   unfold dE wq;simp only [tnn]
   congr 1
   rw [VB];simp only [UX,dte];omega
  by_cases hm:m<a t
  ·rw [decide_eq_true hm,Bool.and_true] at hd;rw [show min (m+1) (a t)=min m (a t)+1 by omega,yx,show min m (a t)=m by omega]
   by_cases hw:wq p t l m=Ri
   ·rw [VG (by rw [hd];exact hw),if_pos hw];rfl
   rw [VH (by rw [hd];exact hw),if_neg hw];rfl
  grind
theorem JZ {a:Nat->Nat} (ha:StA p a) {l:Nat} (hl:l<3):∀ n:Nat,n<=p.length->((evP p n).filter<|dE a (l:Int)).length=cnt p a (l:Int) n+1
 | 0,_=>by
  match l,hl with
  | 0,_=>rfl
  | 1,_=>rfl
  | 2,_=>rfl
 | n+1,hn=>by
  have ih:=JZ ha hl n (by omega);simp only [evP,UY,lla,ih,JY,Ec];rw [show min (p.getD n Rh).length (a n)=a n by have := ha n (by omega);omega];omega
theorem Ae {α:Type} (P:α->Bool) (d:α) (L:List α):((UR L.length).filter λi=>P<|L.getD i d).length=(L.filter P).length:=by
 induction L using Bc with
 | h0=>rfl
 | hs L b ih=>
  rw [lla,U6,U2,UY,lla,UY,lla];have e1:(UR L.length).filter (λi=>P<|(L++[b]).getD i d)=(UR L.length).filter λi=>P (L.getD i d):=List.filter_congr λi hi=>by
   rw [gdq,gdq,gal (U5.1 hi)]
  grind
theorem LD (hp:PV p) (R:Cand p x F) {a:Nat->Nat} (ha:StA p a) {l:Nat} (hl:l<3):dc p x a (l:Int)=cnt p a (l:Int) p.length+1:=by
 rw [<- JZ ha hl p.length (U0 _)];show dc p x a (l:Int)=((evs p).filter<|dE a (l:Int)).length;rw [<- Ae (dE a (l:Int)) Rh (evs p)];have O:=R.ods (l:Int) (by omega);have h1:((UR (evs p).length).filter λi=>dE a (l:Int)<|(evs p).getD i Rh).length=((Q6 p (l:Int)).filter<|dn p a).length:=by
  unfold Q6;rw [List.filter_filter,List.filter_map,llm]
  congr 2
  funext i
  show dE a (l:Int) ((evs p).getD i Rh)=(dn p a (i:Int)&&Wl p (l:Int) (i:Int));unfold dE dn Wl ev
  grind
 rw [h1];have hnd:((Q6 p (l:Int)).filter<|dn p a).Nodup:=List.Pairwise.filter _<|List.Pairwise.filter _ MB;have hnd2:((od x (l:Int)).filter<|dn p a).Nodup:=List.Pairwise.filter _ O.nd;have g1:=Vz hnd2 (l₂:=(Q6 p (l:Int)).filter<|dn p a) λn hn=>by
  obtain ⟨m1,m2⟩:=U1.1 hn;exact U1.2 ⟨(JS R (by omega) n).2 m1,m2⟩
 have g2:=Vz hnd (l₂:=(od x (l:Int)).filter<|dn p a) λn hn=>by
  obtain ⟨m1,m2⟩:=U1.1 hn;exact U1.2 ⟨(JS R (by omega) n).1 m1,m2⟩
 unfold dc;omega
def aP (pc:Z3i) (t:Nat):Nat:=if t<3 then (Z3i.get pc (t:Int)).toNat else 0
def NNp (pc:Z3i):Prop:=0<=pc.x0/\0<=pc.x1/\0<=pc.x2
theorem Dp {pc:Z3i} (h:NNp pc) {t:Nat} (ht:t<3):Z3i.get pc (t:Int)=(aP pc t:Int):=by
 obtain ⟨a,b,c⟩:=pc;obtain ⟨h0,h1,h2⟩:=h;unfold aP;rw [if_pos ht]
 match t,ht with
 | 0,_=>exact (UT h0).symm
 | 1,_=>exact (UT h1).symm
 | 2,_=>exact (UT h2).symm
theorem ME {pc:Z3i} (h:NNp pc) {t:Nat} (ht:t<3):aP (Z3i.set pc (t:Int)<|Z3i.get pc (t:Int)+1)=adv (aP pc) t/\NNp (Z3i.set pc (t:Int)<|Z3i.get pc (t:Int)+1):=by
 have h0:=Dp h ht;refine ⟨funext λu=>?_,?_⟩
 ·unfold adv
  by_cases hu:u<3
  ·unfold aP;rw [if_pos hu,ET _ _ _ _ (by omega) (by omega)]
   by_cases e:u=t
   ·subst e;rw [if_pos rfl,if_pos rfl,if_pos hu];omega
   rw [if_neg (by omega),if_neg e,if_pos hu]
  unfold aP;rw [if_neg hu,if_neg (by omega),if_neg hu]
 obtain ⟨a,b,c⟩:=pc;obtain ⟨g0,g1,g2⟩:=h;simp only at g0 g1 g2
 match t,ht with
 | 0,_=>exact ⟨by show 0<=a+1;omega,g1,g2⟩
 | 1,_=>exact ⟨g0,by show 0<=b+1;omega,g2⟩
 | 2,_=>exact ⟨g0,g1,by show 0<=c+1;omega⟩
theorem LF (hp:PV p) {pc:Z3i} (h:NNp pc) (ha:StA p<|aP pc) (e:QW) (nm:LL) (l:Int):Q4 (jb ⟨p,e,nm⟩ pc l) (· = (cnt p (aP pc) l p.length:Int)):=by
 have hl:=hp.vs.1;have cwl:∀ t k:Nat,cwr p t l k<=k:=λt k=>Vk (Vu _ _) (by simp);unfold jb;refine Q4.bind (P:=(· = (cnt p (aP pc) l p.length:Int))) ?_ λv hv => .pure hv;refine Q4.loop (λz=>∃ n:Nat,n<=p.length/\z=((n:Int),(cnt p (aP pc) l n:Int))/\cnt p (aP pc) l n<=7*n) (λz=>((p.length:Int)-z.1).toNat) ⟨0,by omega,rfl,by simp [cnt]⟩ λz ⟨n,n1,n2,n3⟩ => ?_;subst n2;unfold oh J;simp only [tnn];refine .bifD (λhk=>?_) λhk => .pure ?_
 ·have hn:n<p.length:=by omega
  have hg:=Dp h (t:=n) (by omega);have han:=ha n hn;have hrow:=hp.vs.2 n;have hcl:=cwl n<|aP pc n;refine Q4.bind (P:=(· = (cnt p (aP pc) l (n+1):Int))) (.gdD ⟨by omega,hk⟩<|.gdD ⟨by omega,by omega⟩<|.gdD ⟨by omega,by omega,by omega⟩ ?_) λv hv => .gdI (by omega)<|.pure ⟨⟨n+1,by omega,by rw [hv];rfl,by rw [Ec];omega⟩,by simp only [];omega⟩;have hsl:(((p.getD n Rh).drop (0:Int).toNat).take<|(Z3i.get pc (n:Int)).toNat-(0:Int).toNat)=(p.getD n Rh).take (aP pc n):=by rw [hg];simp
  refine Q4.loop (λz=>∃ k:Nat,k<=aP pc n/\z=((k:Int),((cnt p (aP pc) l n+cwr p n l k:Nat):Int))) (λz=>((aP pc n:Int)-z.1).toNat) ⟨0,by omega,rfl⟩ λz ⟨k,k1,k2⟩ => ?_;subst k2;unfold nu J;simp only [tnn,hsl];have hlen:((p.getD n Rh).take<|aP pc n).length=aP pc n:=by rw [U7];omega
  rw [hlen];refine .bifD (λhkk=>?_) λhkk => .pure ?_
  ·have hgk:((p.getD n Rh).take<|aP pc n).getD k Rh=ins p n k:=by
    unfold ins;rw [gdq,List.getElem?_take,if_pos (by omega),<- gdq]
   rw [hgk];obtain ⟨b2,w1,w2⟩:=BR<|ins p n k;have hck:=cwl n k;refine Q4.bind (P:=(· = ((cnt p (aP pc) l n+cwr p n l (k+1):Nat):Int))) (.gdD ⟨by omega,hkk⟩ ((Q4.of (P:=(· = wrX (ins p n k))) w1 w2).bind λv18 h18=>?_)) λv hv => .gdI (by omega)<|.pure ⟨⟨k+1,by omega,by rw [hv];rfl⟩,by simp only [];omega⟩;subst h18;refine Q4.bind (P:=(· = wq p n l k)) (.bif (λhw => .pure ?_) λhw => .pure ?_) λb hb=>?_
   ·unfold wq;rw [hw,UV];exact Nr _ _
   ·unfold wq;rw [hw];rfl
   subst hb;rw [yx];exact .bif (λhw => .gdI (by omega)<|.pure<|by rw [if_pos hw];omega) λhw => .pure (by rw [if_neg (by rw [hw];decide)];rfl)
  have : k=aP pc n:=by omega
  rw [this,Ec]
 have : n=p.length:=by omega
 rw [this]
structure Nums (p:List (List QV)) (nm:List (List Int)):Prop where
 len:nm.length=p.length
 row:∀ t:Nat,t<p.length->nm.getD t []=Bb p t (p.getD t Rh).length
theorem J0 (hp:PV p) (R:Cand p x F) {nm:LL} (hn:Nums p nm) {pc:Z3i} (h:NNp pc) (ha:StA p<|aP pc) {t:Nat} (ht:t<p.length):Q4 (ky ⟨p,⟨x.1,x.2⟩,nm⟩ pc (t:Int)) λb=>(b=Ri↔Lv p x (aP pc) t):=by
 have hl:=hp.vs.1;have hX:=PU hp R;have hg:=Dp h (t:=t) (by omega);have hrow:=hp.vs.2 t;unfold ky J;simp only [tnn,hg];refine .gdD ⟨by omega,by omega⟩<|.gdD ⟨by omega,by omega⟩<|.bif (λhe => .pure ?_) λhe=>?_
 ·have he:=eq_of_beq he;exact ⟨λe=>(by cases e),λe=>by have := e.2.1;omega⟩
 have he:=beq_eq_false_iff_ne.1 he;have hk:aP pc t<(p.getD t Rh).length:=by have := ha t ht;omega
 have hnl:(nm.getD t Rh).length=(p.getD t Rh).length:=by rw [D8,hn.row t ht];simp [Bb]
 have hnum:(nm.getD t Rh).getD (aP pc t) Rh=num p t (aP pc t):=by
  rw [D8,hn.row t ht];unfold Bb;rw [gdq,Vm,Vf hk]
  rfl
 refine .gdD ⟨by omega,by omega⟩<|.gdD ⟨by omega,by rw [hn.len];omega⟩<|.gdD ⟨by omega,by rw [hnl];omega⟩<|.bif (λho => .pure ?_) λho=>?_
 ·have ho:BV p t (aP pc t):=eq_of_beq ho;refine ⟨λ_=>⟨ht,hk,λn hn=>?_⟩,λ_=>rfl⟩;unfold nxt at hn;rw [if_pos ho] at hn
  cases hn
 have ho : ¬ BV p t (aP pc t):=beq_eq_false_iff_ne.1 ho;have hI:Isn p t (aP pc t):=⟨ht,hk,ho⟩;have hev:=hI.ev.1;have hb:=hI.ev.2;have hF:(base p t (aP pc t):Int)∈F:=(R.mem _).2 ⟨by omega,by omega⟩;have hloc:=hp.ins t (aP pc t) ht hk;have hL0:0<=(ins p t<|aP pc t).Loc:=hloc.1;have hL2:(ins p t<|aP pc t).Loc<=2:=hloc.2.1;have hnv:num p t (aP pc t)=(base p t (aP pc t):Int):=if_neg ho;have hdc:=LD hp R ha (l:=(ins p t<|aP pc t).Loc.toNat) (by omega);rw [UT hL0] at hdc;have O:=R.ods (ins p t<|aP pc t).Loc ⟨hL0,hL2⟩;have hdl:=(Dk hp R (aP pc) (l:=(ins p t<|aP pc t).Loc) ⟨hL0,hL2⟩).2;have hod:x.2.getD (ins p t<|aP pc t).Loc.toNat Rh=od x (ins p t<|aP pc t).Loc:=rfl;have hle:=hX.r (ins p t<|aP pc t).Loc.toNat;rw [hod] at hle;have hnd:dn p (aP pc) (base p t (aP pc t):Int)=Rj:=by
  cases hd:dn p (aP pc) (base p t (aP pc t):Int) with
  | false=>rfl
  | true=>have := (jY hI).1 hd;omega
 have hlt:wrX (ins p t<|aP pc t)=Ri->dc p x (aP pc) (ins p t<|aP pc t).Loc<(od x (ins p t<|aP pc t).Loc).length:=λhw=>by
  have hm:(base p t (aP pc t):Int)∈od x (ins p t<|aP pc t).Loc:=(O.mem _).2 ⟨hF,by rw [hev];exact hw,by rw [hev]⟩;exact VN.2 ⟨_,hm,by rw [hnd];decide⟩
 have Bg:Lv p x (aP pc) t↔(rdX (ins p t<|aP pc t)=Ri->x.1.getD (base p t<|aP pc t) Rh=(od x (ins p t<|aP pc t).Loc).getD (dc p x (aP pc) (ins p t<|aP pc t).Loc-1) Rh)/\(wrX (ins p t<|aP pc t)=Ri->(od x (ins p t<|aP pc t).Loc).getD (dc p x (aP pc) (ins p t<|aP pc t).Loc) Rh=(base p t (aP pc t):Int)):=by
  unfold Lv nxt Nn;rw [if_neg ho]
  constructor
  ·intro h1;have := h1.2.2 _ rfl;rw [hev,tnn] at this;exact this
  intro h1;refine ⟨ht,hk,λn hn=>?_⟩;injection hn with hn;subst hn;rw [hev,tnn];exact h1
 rw [Bg];have hins:(p.getD t Rh).getD (aP pc t) Rh=ins p t (aP pc t):=rfl;simp only [hins,hnum,hnv,hod,tnn];refine .gdD ⟨hL0,by rw [hX.o];omega⟩ ((LF hp h ha _ _ _).bind λv9 h9=>?_);subst h9;obtain ⟨b1,r1,r2⟩:=G8<|ins p t<|aP pc t;obtain ⟨b2,w1,w2⟩:=BR<|ins p t<|aP pc t;subst r2 w2;have hc1:((cnt p (aP pc) (ins p t<|aP pc t).Loc p.length:Int)).toNat=dc p x (aP pc) (ins p t<|aP pc t).Loc-1:=by omega
 have hc2:((cnt p (aP pc) (ins p t<|aP pc t).Loc p.length:Int)+1).toNat=dc p x (aP pc) (ins p t<|aP pc t).Loc:=by omega
 refine Q4.bind (P:=λb=>(b=Ri↔(rdX (ins p t<|aP pc t)=Ri->x.1.getD (base p t<|aP pc t) Rh=(od x (ins p t<|aP pc t).Loc).getD (dc p x (aP pc) (ins p t<|aP pc t).Loc-1) Rh)/\(wrX (ins p t<|aP pc t)=Ri->(od x (ins p t<|aP pc t).Loc).getD (dc p x (aP pc) (ins p t<|aP pc t).Loc) Rh=(base p t (aP pc t):Int)))) ?_ λv hv => .pure hv;rw [show (⟨(ins p t<|aP pc t).Op,(ins p t<|aP pc t).Loc,(ins p t<|aP pc t).Reg,(ins p t<|aP pc t).Val⟩:QV)=ins p t (aP pc t) from rfl,r1,w1];have wpart:∀ rd:Prop,rd->Q4 (bif !wrX (ins p t<|aP pc t) then Rk Ri else gd (QS .i64<|(cnt p (aP pc) (ins p t<|aP pc t).Loc p.length:Int)+(1:Int))<|gd (Rm<|0<=((cnt p (aP pc) (ins p t<|aP pc t).Loc p.length:Int)+(1:Int))/\((cnt p (aP pc) (ins p t<|aP pc t).Loc p.length:Int)+(1:Int))<((od x (ins p t<|aP pc t).Loc).length:Int))<|Rk<|((od x (ins p t<|aP pc t).Loc).getD ((cnt p (aP pc) (ins p t<|aP pc t).Loc p.length:Int)+(1:Int)).toNat Rh)==(base p t (aP pc t):Int)) λb=>(b=Ri↔rd/\(wrX (ins p t<|aP pc t)=Ri->(od x (ins p t<|aP pc t).Loc).getD (dc p x (aP pc) (ins p t<|aP pc t).Loc) Rh=(base p t (aP pc t):Int))):=λrd hrd=>by
  refine .bif (λhw => .pure ⟨λ_=>⟨hrd,λe=>by rw [e] at hw;cases hw⟩,λ_=>rfl⟩) λhw=>?_;have hw:wrX (ins p t<|aP pc t)=Ri:=by simpa using hw
  have := hlt hw;refine .gdI (by omega)<|.gdD ⟨by omega,by omega⟩<|.pure ?_;rw [hc2,beq_iff_eq];exact ⟨λe=>⟨hrd,λ_=>e⟩,λe=>e.2 hw⟩
 refine .bif (λhr=>?_) λhr=>?_
 ·have hr : ¬ rdX (ins p t<|aP pc t)=Ri:=by simpa using hr
  exact wpart _ λe=>absurd e hr
 have hr:rdX (ins p t<|aP pc t)=Ri:=by simpa using hr
 refine .gdD ⟨by omega,by rw [hX.f];omega⟩ (.gdD ⟨by omega,by omega⟩ ?_);rw [hc1];refine .bif (λhe=>?_) λhe => .pure ⟨λe=>(by cases e),λe=>?_⟩
 ·exact wpart _ λ_=>eq_of_beq he
 exact absurd (e.1 hr)<|beq_eq_false_iff_ne.1 he
end
def LeO {α:Type} (x y:Option α):Prop:=∀ r,x=Rk r->y=Rk r
section
variable {α β S E:Type}
theorem LeO.refl (x:Option α):LeO x x:=λ_ h=>h
theorem LeO.bind {x y:Option α} {f g:α->Option β} (h:LeO x y) (k:∀ v,LeO (f v)<|g v):LeO (x.bind f) (y.bind g):=λr hr=>by
 obtain ⟨v,e,hv⟩:=Ao hr;rw [h v e];exact k v r hv
theorem LeO.cond {b:Bool} {x x' y y':Option α} (h:LeO x y) (k:LeO x' y'):LeO (bif b then x else x') (bif b then y else y'):=by
 grind
theorem LeO.gd {b:Bool} {x y:Option α} (h:LeO x y):LeO (Go.Proofs.YtabfkkjdfhbngaaGreatDoor.gd b x) (Go.Proofs.YtabfkkjdfhbngaaGreatDoor.gd b y):=by
 cases b
 ·exact λ_ h=>h
 exact h
theorem LeO.sumK {x y:Option (S ⊕ E)} {f g:S->Option E} (h:LeO x y) (k:∀ v,LeO (f v)<|g v):LeO (Go.Proofs.YtabfkkjdfhbngaaGreatDoor.sumK x f) (Go.Proofs.YtabfkkjdfhbngaaGreatDoor.sumK y g):=λr hr=>by
 cases hx:x with
 | none=>rw [hx] at hr;cases hr
 | some v=>
  rw [hx] at hr;rw [h v hx]
  cases v with
  | inl s=>exact k s r hr
  | inr w=>exact hr
theorem LeO.loopO {f g:S->Option (S ⊕ E)} (h:∀ s,LeO (f s)<|g s) (s:S):LeO (Go.Proofs.YtabfkkjdfhbngaaGreatDoor.loopO f s) (Go.Proofs.YtabfkkjdfhbngaaGreatDoor.loopO g s):=λr hr=>by
 obtain ⟨n,hn⟩:=sU.1 hr;refine sU.2 ⟨n,?_⟩;clear hr
 induction n generalizing s with
 | zero=>cases hn
 | succ n ih=>
  simp only [yZ] at hn ⊢
  cases hf:f s with
  | none=>simp_all
  | some z=>
   rw [hf] at hn;rw [h s z hf]
   grind
end
theorem J1 {f g:ZTr->Z3i->Option (ZTr×Bool)} (h:∀ s pc,LeO (f s pc)<|g s pc) (s:ZTr) (pc:Z3i):LeO (aV f s pc) (aV g s pc):=by
 unfold aV;refine .cond (.refl _)<|.bind (.refl _) λv => .cond (.refl _)<|.sumK (.loopO (λz=>?_) _) λw => .refl _;unfold eY;exact .cond (.sumK (.bind (.refl _) λv => .cond (.refl _)<|.gd<|.gd<|.gd<|.bind (h _ _) λw => .refl _) λw => .refl _)<|.refl _
theorem J2 (s:ZTr) (pc:Z3i) {n:Nat}:∀ {m:Nat},n<=m->LeO (aL n s pc) (aL m s pc):=by
 have key:∀ (n:Nat) (s:ZTr) (pc:Z3i),LeO (aL n s pc) (aL (n+1) s pc):=λn=>by
  induction n with
  | zero=>exact λ_ _ r hr=>by cases hr
  | succ n ih=>exact λs pc=>J1 ih s pc
 intro m hm
 induction hm with
 | refl=>exact .refl _
 | step _ ih=>exact λr hr=>key _ s pc r (ih r hr)
section
variable {p:List (List QV)} {x:XS} {F:LI}
abbrev Key:=Int×Int×Int
def aK (k:Key):Nat->Nat:=aP ⟨k.1,k.2.1,k.2.2⟩
def Ed (p:List<|List QV) (x:XS) (F:LI) (l:List<|Key×Bool):Prop:=∀ e∈l,Dead p x F<|aK e.1
theorem Ed.get {l:List (Key×Bool)} (h:Ed p x F l) {k:Key} (hk:((GN l k).getD Rj)=Ri):Dead p x F (aK k):=by
 unfold GN at hk
 cases hm:Am l k with
 | none=>rw [hm] at hk;cases hk
 | some j=>
  obtain ⟨hj,v,hv⟩:=BD hm;exact h (k,v)<|List.mem_of_getElem? hv
theorem Ed.put {l:List (Key×Bool)} (h:Ed p x F l) {k:Key} (hk:Dead p x F<|aK k):Ed p x F (I4 l k Ri):=λe he=>by
 unfold I4 at he
 cases hm:Am l k with
 | none=>
  rw [hm] at he;rcases Va.1 he with he | he
  ·exact h e he
  rw [Vo] at he;subst he;exact hk
 | some j=>
  rw [hm] at he;rcases List.mem_or_eq_of_mem_set he with he | he
  ·exact h e he
  subst he;exact hk
theorem J3 (hp:PV p) {pc:Z3i} (h:NNp pc) (s:ZTr) (hs:s.p=p):Q4 (loopO (jm s pc) ((0:Int),Ri)) λb=>(b=Ri↔JO p (aP pc)):=by
 have hl:=hp.vs.1;refine Q4.loop (λz=>∃ n:Nat,n<=p.length/\z.1=(n:Int)/\(z.2=Ri↔∀ t,t<n->aP pc t=(p.getD t Rh).length)) (λz=>((p.length:Int)-z.1).toNat) ⟨0,by omega,rfl,λ_ t ht=>by omega,λ_=>rfl⟩ λz ⟨n,n1,n2,n3⟩ => ?_;obtain ⟨z1,z2⟩:=z;simp only at n2 n3;subst n2;unfold jm J;simp only [hs,tnn];refine .bifD (λhk=>?_) λhk => .pure ?_
 ·have hn:n<p.length:=by omega
  have hg:=Dp h (t:=n) (by omega);rw [hg];refine Q4.bind (P:=λb=>(b=Ri↔∀ t,t<n+1->aP pc t=(p.getD t Rh).length)) (.bif (λhz => .gdD ⟨by omega,by omega⟩<|.gdD ⟨by omega,hk⟩<|.pure ?_) λhz => .pure ⟨λe=>(by cases e),λe=>?_⟩) λb hb => .gdI (by omega)<|.pure ⟨⟨n+1,by omega,rfl,hb⟩,by simp only [];omega⟩
  ·rw [beq_iff_eq]
   constructor
   ·intro e t ht;rcases UU t n with h' | h'
    ·exact n3.1 hz t h'
    rw [show t=n by omega];omega
   intro e;rw [e n (by omega)]
  rw [n3.2 λt ht=>e t (by omega)] at hz
  cases hz
 have : n=p.length:=by omega
 subst this;exact n3
theorem J4 (R:RunOf p x F) {a:Nat->Nat} (h:Dead p x F a) : ¬ JO p a:=λhf=>by
 obtain ⟨i,hi,_,h2,_⟩:=h;obtain ⟨i0,i1⟩:=(R.mem i).1 hi;rcases gy i0 i1 with h3 | ⟨t,k,h3,rfl⟩
 ·rw [ul i0 h3] at h2;cases h2
 have h4:=hf t h3.t;have h5:=h3.k;rw [(jY h3).2 (by omega)] at h2
 cases h2
theorem Dq (hp:PV p) (R:Cand p x F) {a:Nat->Nat} (hc:Closed p x F a) {t:Nat} (h:iS p x F a t):Lv p x a t:=⟨h.1,h.2.1,λn hn=>by
 obtain ⟨_,_,g1,g2,_⟩:=JN R h.1 h.2.1 hn;exact JL hp R hc g1 g2 (h.2.2 n hn)⟩
theorem LG (hp:PV p) (R:RunOf p x F) {a:Nat->Nat} {t:Nat} (h:Lv p x a t):(Dead p x F a->Dead p x F (adv a t))/\(Closed p x F a->(iS p x F a t/\Closed p x F (adv a t))\/(¬ iS p x F a t/\Dead p x F (adv a t))):=by
 have hB:=tC (R.cand hp) h.1 h.2.1;refine ⟨λhD=>Nq hp R hD h.2.2 hB,λhc=>?_⟩
 by_cases hr:iS p x F a t
 ·exact .inl ⟨hr,vZ (R.cand hp) hc hr⟩
 refine .inr ⟨hr,?_⟩
 cases hn:nxt p a t with
 | none=>exact absurd ⟨h.1,h.2.1,λn e=>by simp_all⟩ hr
 | some n=>
  obtain ⟨_,_,g1,g2,g3⟩:=JN (R.cand hp) h.1 h.2.1 hn;rw [hn] at hB;refine CL hp R hc g1 g2 (h.2.2 n hn) (λhre=>hr ⟨h.1,h.2.1,λm e=>?_⟩) g3 hB
  simp_all
structure Tr (p:List (List QV)) (x:XS) (F:List Int) (nm:List (List Int)) (s:ZTr):Prop where
 tp:s.p=p
 tx:s.x=⟨x.1,x.2⟩
 tn:s.number=nm
 tf:Ed p x F s.failed
def Post (p:List<|List QV) (x:XS) (F:LI) (nm:LL) (a:Nat->Nat) (sch:LI) (v:ZTr×Bool):Prop:=
 (Dead p x F a/\v.2=Rj/\Tr p x F nm v.1/\v.1.schedule=sch)\/(Closed p x F a/\v.2=Ri/\∃ r,Gr p x F a r/\v.1.schedule=sch++r)
theorem Hf (hp:PV p) (R:RunOf p x F) {nm:LL} (hnm:Nums p nm):∀ (m:Nat) (s:ZTr) (pc:Z3i),Tr p x F nm s->NNp pc->StA p (aP pc)->(Dead p x F (aP pc)\/Closed p x F (aP pc))->s.schedule.length+mu p (aP pc)<=21->mu p (aP pc)<m ->
  Q4 (aL m s pc) (Post p x F nm (aP pc) s.schedule)
 | 0,_,_,_,_,_,_,_,h=>by omega
 | m+1,s,pc,hT,hN,hS,hdc,hb,hm=>by
  have hl:=hp.vs.1;obtain ⟨sp,⟨sf,so⟩,sn,sch,fl⟩:=s;obtain ⟨t1,t2,t3,t4⟩:=hT;simp only at t1 t2 t3 t4 hb;replace t1:=t1.symm;replace t3:=t3.symm;subst t1 t3;injection t2 with t5 t6;subst t5 t6;show Q4 (aV (aL m) _ pc) _;unfold aV;simp only [];have hkey:aK (pc.x0,pc.x1,pc.x2)=aP pc:=rfl;refine .bif (λhk => .pure ?_) λ_=>?_
  ·exact .inl ⟨by rw [<- hkey];exact t4.get hk,rfl,⟨rfl,rfl,rfl,t4⟩,rfl⟩
  refine (J3 hp hN _ rfl).bind λb hfb => .bif (λhb1 => .pure ?_) λhb1=>?_
  ·have hf:=hfb.1 hb1;rcases hdc with hD | hC
   ·exact absurd hf<|J4 R hD
   exact .inr ⟨hC,rfl,[],.nil hf,by simp⟩
  have hnf : ¬ JO p (aP pc):=λhf=>by rw [hfb.2 hf] at hb1;cases hb1
  refine Q4.sum (PS:=λw=>Dead p x F (aP pc)/\w.1=p/\w.2.1=x.1/\w.2.2.1=x.2/\w.2.2.2.1=nm/\w.2.2.2.2.1=sch/\Ed p x F w.2.2.2.2.2) (PW:=Post p x F nm (aP pc) sch) ?_ λw ⟨w1,w2,w3,w4,w5,w6,w7⟩ => .pure ?_
  ·refine Q4.loop (λz=>∃ n:Nat,n<=p.length/\z.1=p/\z.2.1=x.1/\z.2.2.1=x.2/\z.2.2.2.1=nm/\z.2.2.2.2.1=sch/\Ed p x F z.2.2.2.2.2.1/\z.2.2.2.2.2.2=(n:Int)/\(Closed p x F (aP pc)->∀ u,u<n -> ¬ iS p x F (aP pc) u)) (λz=>((p.length:Int)-z.2.2.2.2.2.2).toNat) ⟨0,by omega,rfl,rfl,rfl,rfl,rfl,t4,rfl,λ_ u hu=>by omega⟩ λz ⟨n,n1,z1,z2,z3,z4,z5,z6,z7,z8⟩ => ?_;obtain ⟨a1,a2,a3,a4,a5,a6,a7⟩:=z;simp only at z1 z2 z3 z4 z5 z6 z7;replace z1:=z1.symm;replace z4:=z4.symm;replace z5:=z5.symm;subst z1 z2 z3 z4 z5 z7;unfold eY;simp only [tnn];refine .bifD (λhk=>?_) λhk => .pure ?_
   ·have hn:n<p.length:=by omega
    refine Q4.sum (PS:=λw=>w.1=p/\w.2.1=x.1/\w.2.2.1=x.2/\w.2.2.2.1=nm/\w.2.2.2.2.1=sch/\Ed p x F w.2.2.2.2.2/\(Closed p x F (aP pc) -> ¬ iS p x F (aP pc) n)) ?_ λw ⟨w1,w2,w3,w4,w5,w6,w7⟩ => .gdI (by omega)<|.pure ⟨⟨n+1,by omega,w1,w2,w3,w4,w5,w6,rfl,λhC u hu=>?_⟩,by simp only [];omega⟩
    ·refine (J0 hp (R.cand hp) hnm hN hS hn).bind λv23 h23 => .bif (λhc => .pure ?_) λhc=>?_
     ·refine ⟨rfl,rfl,rfl,rfl,rfl,z6,λhC hr=>?_⟩;rw [h23.2 (Dq hp (R.cand hp) hC hr)] at hc
      cases hc
     have Bg:Lv p x (aP pc) n:=h23.1 (by simpa using hc);have hg:=Dp hN (t:=n) (by omega);obtain ⟨g1,g2⟩:=ME hN (t:=n) (by omega);have hS':=hS.adv Bg.2.1;have hmu:=He Bg.1 Bg.2.1;have hrow:=hp.vs.2 n;obtain ⟨c1,c2⟩:=LG hp R Bg;have hlt:=Bg.2.1;refine .gdD ⟨by omega,by omega⟩<|.gdI (by rw [hg];omega)<|.gd (bJ (by omega) rfl) ?_;refine (Hf hp R hnm m ⟨p,⟨x.1,x.2⟩,nm,sch++[(n:Int)],a6⟩ _ ⟨rfl,rfl,rfl,z6⟩ g2 (by rw [g1];exact hS') ?_ (by rw [g1];simp only [lla,U6];omega)<|by rw [g1];omega).bind λv hv=>?_
     ·rw [g1];rcases hdc with hD | hC
      ·exact .inl<|c1 hD
      rcases c2 hC with h | h
      ·exact .inr h.2
      exact .inl h.2
     rw [g1] at hv;rcases hv with ⟨hD,e1,⟨e2,e3,e4,e5⟩,e6⟩ | ⟨hC,e1,r,e2,e3⟩
     ·refine .bif (λe=>by rw [e1] at e;cases e) λ_=>?_;have hlen:v.1.schedule.length=sch.length+1:=by rw [e6];simp
      refine .gdI (by omega)<|.gdD ⟨by omega,by omega,by omega⟩<|.pure ⟨e2,by rw [e3],by rw [e3],e4,?_,e5,λhC hr=>?_⟩
      ·simp only [];rw [hlen,e6,show ((((sch.length+1:Nat):Int)-1).toNat-(0:Int).toNat)=sch.length by omega];simp
      exact rP hp R (vZ (R.cand hp) hC hr) hD
     refine .bif (λ_ => .pure ?_) λe=>by rw [e1] at e;cases e
     have hCa:Closed p x F (aP pc):=by
      rcases hdc with hD | hC'
      ·exact absurd (c1 hD)<|rP hp R hC
      exact hC'
     have hr:iS p x F (aP pc) n:=by
      rcases c2 hCa with h | h
      ·exact h.1
      exact absurd h.2<|rP hp R hC
     refine .inr ⟨hCa,rfl,(n:Int)::r,.cons hr (z8 hCa) e2,?_⟩;simp only [];rw [e3,Vg]
     rfl
    rcases UU u n with h' | h'
    ·exact z8 hC u h'
    rw [show u=n by omega];exact w7 hC
   have hn:n=p.length:=by omega
   subst hn;have hD:Dead p x F (aP pc):=by
    rcases hdc with hD | hC
    ·exact hD
    exfalso;obtain ⟨t,ht⟩:=JP hp R hS hnf;exact z8 hC t ht.1 ht
   exact ⟨hD,rfl,rfl,rfl,rfl,rfl,z6⟩
  refine .inl ⟨w1,rfl,⟨w2,by simp only [];rw [w3,w4],w5,?_⟩,w6⟩;exact w7.put (by rw [hkey];exact w1)
theorem Gc (hp:PV p) (R:RunOf p x F):Q4 (bU p ⟨x.1,x.2⟩) λv=>v.2=Ri/\Gr p x F (λ_=>0) v.1:=by
 unfold bU;refine (wS hp).bind λv1 ⟨n1,n2⟩ => ?_;have hz:aP ⟨0,0,0⟩=λ_=>0:=by
  funext t
  unfold aP
  split
  ·rename_i h
   match t,h with
   | 0,_=>rfl
   | 1,_=>rfl
   | 2,_=>rfl
  rfl
 have hN:NNp ⟨0,0,0⟩:=⟨U8 0,U8 0,U8 0⟩;have hmu:=LA hp λ_=>0;obtain ⟨v,e,hv⟩:=Hf hp R ⟨n1,n2⟩ 22 ⟨p,⟨x.1,x.2⟩,v1,[],[]⟩ ⟨0,0,0⟩ ⟨rfl,rfl,rfl,λe he=>by simp at he⟩ hN (by rw [hz];exact λt _=>UW _) (.inr<|by rw [hz];exact um hp<|R.cand hp) (by rw [hz];simpa using hmu) (by rw [hz];omega);rw [hz] at hv;have hfx:jc ⟨p,⟨x.1,x.2⟩,v1,[],[]⟩ ⟨0,0,0⟩=Rk v:=vo 22 λn hn=>J2 _ _ hn v e;refine (Q4.of (P:=(· = v)) hfx rfl).bind λw hw=>?_;subst hw;rcases hv with ⟨hD,_⟩ | ⟨_,e1,r,e2,e3⟩
 ·exact absurd hD<|rP hp R<|um hp<|R.cand hp
 refine .bif (λe=>by rw [e1] at e;cases e) λ_ => .pure ⟨rfl,?_⟩;simp only [];rw [e3];exact e2
end
section
variable {p:List (List QV)} {x:XS} {F:LI}
theorem QD {t k:Nat} (h:wrX (ins p t k)=Ri) : ¬ ((p.getD t Rh).getD k Rh).Op=4:=λe=>by
 unfold wrX at h;have : (ins p t k).Op=4:=e;rw [this] at h
 cases h
theorem J5 (R:Cand p x F) {t k:Nat} (h:Isn p t k):(base p t k:Int)∈F:=(R.mem _).2 ⟨by omega,by have := h.ev.2;omega⟩
theorem Ee {l k:LI} (hl:l.length=k.length) (h:∀ i:Nat,i<l.length->l.getD i Rh=k.getD i Rh):l=k:=by
 apply List.ext_getElem hl;intro i h1 h2;have := h i h1;rw [gdq,gdq,geq h1,geq h2] at this;exact this
end
section
variable {p:List (List QV)} {x:XS} {F:LI}
def px (p:List<|List QV) (x:XS) (a:Nat->Nat):XS:=((UR (evs p).length).map λ(i:Nat)=>if dn p a (i:Int)=Ri then x.1.getD i Rh else -1,[(od x 0).take (dc p x a 0),(od x 1).take (dc p x a 1),(od x 2).take (dc p x a 2)])
theorem qQ (a:Nat->Nat):(px p x a).1.length=(evs p).length:=by simp [px]
theorem B0 {a:Nat->Nat} {i:Nat} (h:i<(evs p).length):(px p x a).1.getD i Rh=if dn p a (i:Int)=Ri then x.1.getD i Rh else -1:=by
 unfold px;simp only [];rw [gdq,Vm,Vf h]
 rfl
theorem Ca {a:Nat->Nat} {l:Nat} (hl:l<3):(px p x a).2.getD l []=(od x (l:Int)).take (dc p x a (l:Int)):=by
 match l,hl with
 | 0,_=>rfl
 | 1,_=>rfl
 | 2,_=>rfl
theorem PF {l k:LL} (hl:l.length=3) (hk:k.length=3) (h:∀ i:Nat,i<3->l.getD i []=k.getD i []):l=k:=by
 match l,hl,k,hk with
 | [a,b,c],_,[d,e,f],_=>
  have h0:a=d:=h 0 (by omega);have h1:b=e:=h 1 (by omega);have h2:c=f:=h 2 (by omega);rw [h0,h1,h2]
theorem Nv {a:Nat->Nat} {t:Nat} (ht:t<p.length) (l:Int):cnt p (adv a t) l p.length=cnt p a l p.length+if wq p t l (a t)=Ri then 1 else 0:=by
 have e1:adv a t t=a t+1:=by unfold adv;rw [if_pos rfl]
 by_cases h:wq p t l (a t)=Ri
 ·rw [if_pos h];refine Gb (f:=λu=>cwr p u l<|adv a t u) (g:=λu=>cwr p u l<|a u) ht ?_ λu _ hne=>?_
  ·simp only [e1,yx,if_pos h]
  show cwr p u l (adv a t u)=cwr p u l (a u);unfold adv;rw [if_neg hne]
 rw [if_neg h,U9];unfold cnt
 congr 1
 apply VK;intro u _
 by_cases hne:u=t
 ·subst hne;rw [e1,yx,if_neg h,U9]
 unfold adv;rw [if_neg hne]
theorem MF (hp:PV p) (R:Cand p x F) {a:Nat->Nat} (ha:StA p a) {t:Nat} (ht:t<p.length) (hk:a t<(p.getD t Rh).length) {l:Nat} (hl:l<3):dc p x (adv a t) (l:Int)=dc p x a (l:Int)+if wq p t (l:Int) (a t)=Ri then 1 else 0:=by
 rw [LD hp R ha hl,LD hp R (ha.adv hk) hl,Nv ht];omega
theorem Nw (hp:PV p) (R:Cand p x F):px p x (λ_=>0)=x0 p:=by
 have hz:StA p (λ_=>0):=λt _=>UW _;refine Prod.ext (Ee (by rw [qQ];simp [x0]) λi hi=>?_) (PF rfl rfl λl hl=>?_)
 ·rw [qQ] at hi;rw [B0 hi];have e:(x0 p).1.getD i Rh = -1:=by
   show (List.replicate (evs p).length (-1:Int)).getD i Rh = -1;rw [gdq,VM,if_pos hi]
   rfl
  rw [e]
  split
  ·rename_i hd;rcases gy (p:=p) (n:=(i:Int)) (by omega) (by omega) with h3 | ⟨t,k,h3,e3⟩
   ·have h4:=(mO (p:=p) (l:=i)<|by omega).1;have := R.frN (i:Int) ((R.mem _).2 ⟨by omega,by omega⟩) (by rw [h4]);rw [tnn] at this;exact this
   rw [e3] at hd;have := (jY h3).1 hd;omega
  rfl
 rw [Ca hl,LD hp R hz hl];have hc:cnt p (λ_=>0) (l:Int) p.length=0:=by
  unfold cnt;have : ((UR p.length).map λt=>cwr p t (l:Int) 0)=(UR p.length).map λ_=>0:=rfl;rw [this];have h0:∀ n:Nat,((UR n).map λ_=>0).sum=0:=λn=>by
   induction n with
   | zero=>rfl
   | succ n ih=>rw [U2,U4,Ve,ih];rfl
  exact h0 _
 rw [hc];obtain ⟨t,e⟩:=Ns R hl;rw [e]
 match l,hl with
 | 0,_=>rfl
 | 1,_=>rfl
 | 2,_=>rfl
theorem OX (hp:PV p) (R:Cand p x F) {a:Nat->Nat} (hf:JO p a):px p x a=x:=by
 have all:∀ n:Int,n∈F->dn p a n=Ri:=λn hn=>by
  obtain ⟨n0,n1⟩:=(R.mem n).1 hn;rcases gy n0 n1 with h | ⟨t,k,h,rfl⟩
  ·exact ul n0 h
  refine (jY h).2 ?_;rw [hf t h.t];exact h.k
 refine Prod.ext (Ee (by rw [qQ,R.flen]) λi hi=>?_)<|PF rfl R.olen λl hl=>?_
 ·rw [qQ] at hi;rw [B0 hi,if_pos (all _<|(R.mem _).2 ⟨by omega,by omega⟩)]
 have O:=R.ods (l:Int) (by omega);rw [Ca hl];have e:dc p x a (l:Int)=(od x (l:Int)).length:=by
  unfold dc;rw [List.filter_eq_self.2 λn hn=>all n ((O.mem n).1 hn).1]
 rw [e,List.take_length]
 rfl
theorem LH (hp:PV p) (R:Cand p x F) {a:Nat->Nat} (ha:StA p a) {t:Nat} (ht:t<p.length) (hk:a t<(p.getD t Rh).length) (hf:BV p t<|a t):px p x (adv a t)=px p x a:=by
 have hB:=tC R ht hk;unfold nxt at hB;rw [if_pos hf] at hB;have hd:∀ n:Int,n∈F->(dn p (adv a t) n=Ri↔dn p a n=Ri):=λn hn=>by rw [hB n hn];simp
 refine Prod.ext (Ee (by rw [qQ,qQ]) λi hi=>?_)<|PF rfl rfl λl hl=>?_
 ·rw [qQ] at hi;rw [B0 hi,B0 hi];have := hd (i:Int)<|(R.mem _).2 ⟨by omega,by omega⟩
  by_cases h:dn p a (i:Int)=Ri
  ·rw [if_pos h,if_pos (this.2 h)]
  rw [if_neg h,if_neg (λe=>h<|this.1 e)]
 have hw : ¬ wq p t (l:Int) (a t)=Ri:=λh=>by
  unfold wq at h;rw [bae] at h;exact QD h.1 hf
 rw [Ca hl,Ca hl,MF hp R ha ht hk hl,if_neg hw,U9]
theorem Ny (hp:PV p) (R:Cand p x F) {a:Nat->Nat} (ha:StA p a) {t:Nat} (hc:Lv p x a t) (hf : ¬ BV p t (a t)):stX p (px p x a) (base p t (a t):Int)=px p x (adv a t):=by
 have hI:Isn p t (a t):=⟨hc.1,hc.2.1,hf⟩;have hev:=hI.ev.1;have hb:=hI.ev.2;have Bg:Nn p x a (base p t (a t):Int):=hc.2.2 _ (by unfold nxt;rw [if_neg hf]);have hB:=tC R hc.1 hc.2.1;unfold nxt at hB;rw [if_neg hf] at hB;have hn:(base p t (a t):Int)∈F:=J5 R hI;have hnd:dn p a (base p t (a t):Int)=Rj:=by
  cases hd:dn p a (base p t (a t):Int) with
  | false=>rfl
  | true=>have := (jY hI).1 hd;omega
 have hin:=hp.ins t (a t) hc.1 hc.2.1;have x1:0<=(ins p t<|a t).Loc:=hin.1;have x2:(ins p t<|a t).Loc<=2:=hin.2.1;unfold Nn at Bg;rw [hev,tnn] at Bg;simp only at Bg;obtain ⟨d1,d2⟩:=Dk hp R a (l:=(ins p t<|a t).Loc) ⟨x1,x2⟩;have hev':(evs p).getD (base p t (a t):Int).toNat Rh=⟨t,(a t:Nat),(ins p t<|a t).Loc,rdX<|ins p t<|a t,wrX<|ins p t<|a t⟩:=hev;have hord:(px p x a).2.getD (ins p t<|a t).Loc.toNat []=(od x (ins p t<|a t).Loc).take (dc p x a (ins p t<|a t).Loc):=by
  have := Ca (p:=p) (x:=x) (a:=a) (l:=(ins p t<|a t).Loc.toNat) (by omega);rw [UT x1] at this;exact this
 have hlen:((od x (ins p t<|a t).Loc).take<|dc p x a (ins p t<|a t).Loc).length=dc p x a (ins p t<|a t).Loc:=by rw [U7];omega
 unfold stX;rw [hev'];simp only [hord,tnn];refine Prod.ext (Ee ?_ λi hi=>?_)<|PF (by simp only [VD];rfl) rfl λl hl=>?_
 ·simp only []
  split
  ·rw [VD,qQ,qQ]
  rw [qQ,qQ]
 ·simp only [] at hi ⊢;have hi':i<(evs p).length:=by
   split at hi
   ·rw [VD,qQ] at hi;exact hi
   rw [qQ] at hi;exact hi
  have hBi:=hB (i:Int)<|(R.mem _).2 ⟨by omega,by omega⟩;rw [B0 hi']
  by_cases e:i=base p t (a t)
  ·subst e;rw [if_pos (hBi.2<|.inr rfl)]
   split
   ·rename_i hr;rw [jV (by rw [qQ];exact hb),if_pos rfl,hlen,Bg.1 hr,gdq,List.getElem?_take,if_pos (by omega),<- gdq]
    congr 1
    omega
   rename_i hr;rw [B0 hi',hnd];have := R.frN _ hn (by rw [hev];exact Bool.eq_false_iff.2 hr);rw [tnn] at this;rw [this]
   rfl
  have hiff:dn p (adv a t) (i:Int)=Ri↔dn p a (i:Int)=Ri:=by
   rw [hBi];refine ⟨λh=>?_,.inl⟩;rcases h with h | h
   ·exact h
   injection h with h;exact absurd (by omega) e
  have key:(px p x a).1.getD i Rh=if dn p (adv a t) (i:Int)=Ri then x.1.getD i Rh else -1:=by
   rw [B0 hi']
   by_cases h:dn p a (i:Int)=Ri
   ·rw [if_pos h,if_pos (hiff.2 h)]
   rw [if_neg h,if_neg λe=>h (hiff.1 e)]
  split
  ·rw [jV (by rw [qQ];exact hb),if_neg e,key]
  exact key
 simp only [];rw [yn (by show _<3;omega),Ca hl,Ca hl,MF hp R ha hc.1 hc.2.1 hl]
 by_cases e:l=(ins p t<|a t).Loc.toNat
 ·have el:(l:Int)=(ins p t<|a t).Loc:=by omega
  rw [if_pos e,el];have hwq:wq p t (ins p t<|a t).Loc (a t)=wrX (ins p t<|a t):=by unfold wq;simp
  rw [hwq]
  split
  ·rename_i hw;rw [<- Bg.2 hw];have hlt:dc p x a (ins p t<|a t).Loc<(od x (ins p t<|a t).Loc).length:=by
    have O:=R.ods (ins p t<|a t).Loc ⟨x1,x2⟩;have hm:(base p t (a t):Int)∈od x (ins p t<|a t).Loc:=(O.mem _).2 ⟨hn,by rw [hev];exact hw,by rw [hev]⟩;exact VN.2 ⟨_,hm,by rw [hnd];decide⟩
   rw [gdq,geq hlt];exact List.take_append_getElem hlt
  rw [U9]
 rw [if_neg e];have hwq : ¬ wq p t (l:Int) (a t)=Ri:=by
  unfold wq;rw [bae,dte];intro h;exact e (by omega)
 rw [if_neg hwq,U9]
theorem Hg (s r:LI):∀ m,m<=s.length->sN p (s++r) m=sN p s m
 | 0,_=>rfl
 | m+1,hm=>by
  have e1:(s++r).getD m Rh=s.getD m Rh:=by rw [gdq,gal (by omega),<- gdq]
  have e2:(s++r).take m=s.take m:=VO (by omega);rw [sN,sN,Hg s r m (by omega)];unfold sTh stK;rw [e1,e2]
inductive Ch (p:List (List QV)) (x:XS):(Nat->Nat)->List Int->Prop
 | nil {a:Nat->Nat} (h:JO p a):Ch p x a []
 | cons {a:Nat->Nat} {t:Nat} {r:LI} (h:Lv p x a t) (k:Ch p x (adv a t) r):Ch p x a ((t:Int)::r)
theorem PX (hp:PV p) (R:Cand p x F) {a:Nat->Nat} {r:LI} (h:Gr p x F a r):Closed p x F a->Ch p x a r:=by
 induction h with
 | nil h=>exact λ_ => .nil h
 | cons h _ _ ih=>exact λhC => .cons (Dq hp R hC h) (ih<|vZ R hC h)
theorem LJ (hp:PV p) (R:Cand p x F) {a:Nat->Nat} {r:LI} (h:Ch p x a r):StA p a->∀ pre:LI,(∀ t:Nat,t<p.length->pre.count (t:Int)=a t)->Good p pre pre.length->wT p (sN p pre pre.length)=px p x a ->
  Good p (pre++r) (pre++r).length/\(∀ t:Nat,t<p.length->(pre++r).count (t:Int)=(p.getD t Rh).length)/\wT p (sN p (pre++r) (pre++r).length)=x:=by
 induction h with
 | nil h=>
  intro _ pre h1 h2 h3;rw [VC];exact ⟨h2,λt ht=>by rw [h1 t ht,h t ht],by rw [h3,OX hp R h]⟩
 | @cons a t r h _ ih=>
  intro ha pre h1 h2 h3;have ht:=h.1;have hk:=h.2.1;have e0:(pre++[(t:Int)]).getD pre.length Rh=(t:Int):=by rw [gdq,gar (U0 _)];simp
  have e1:(pre++[(t:Int)]).take pre.length=pre:=by simp
  have hT:sTh (pre++[(t:Int)]) pre.length=t:=by unfold sTh;rw [e0];omega
  have hK:stK (pre++[(t:Int)]) pre.length=a t:=by unfold stK;rw [e0,e1,h1 t ht]
  have := ih (ha.adv hk) (pre++[(t:Int)]) (λu hu=>?_) (λj hj=>?_) ?_
  ·rw [Vg] at this;exact this
  ·rw [List.count_append,h1 u hu,List.count_singleton];unfold adv
   by_cases e:u=t
   ·subst e;simp
   rw [if_neg e,if_neg (by simp;omega),U9]
  ·rw [lla,U6] at hj;rcases UU j pre.length with hj' | hj'
   ·have := h2 j hj';rw [gdq,gal hj',<- gdq,VO (by omega)];exact this
   have : j=pre.length:=by omega
   subst this;rw [e0,e1,h1 t ht,tnn];exact ⟨by omega,hk⟩
  rw [lla,U6,sN,Hg pre [(t:Int)] _ (U0 _),hT,hK];unfold zt
  split
  ·rename_i hf;rw [VC,h3,LH hp R ha ht hk hf]
  rename_i hf;rw [yp,h3,Ny hp R ha h hf]
end
section
variable {p:List (List QV)} {x:XS} {F:LI}
structure TrC (p:List (List QV)) (x:XS) (nm:List (List Int)) (s:ZTr):Prop where
 tp:s.p=p
 tx:s.x=⟨x.1,x.2⟩
 tn:s.number=nm
def OY (p:List<|List QV) (x:XS) (nm:LL) (a:Nat->Nat) (sch:LI) (v:ZTr×Bool):Prop:=
 (v.2=Rj/\TrC p x nm v.1/\v.1.schedule=sch)\/(v.2=Ri/\∃ r,Ch p x a r/\v.1.schedule=sch++r)
theorem EY (hp:PV p) (R:Cand p x F) {nm:LL} (hnm:Nums p nm):∀ (m:Nat) (s:ZTr) (pc:Z3i),TrC p x nm s->NNp pc->StA p (aP pc)->s.schedule.length+mu p (aP pc)<=21->mu p (aP pc)<m ->
  Q4 (aL m s pc) (OY p x nm (aP pc) s.schedule)
 | 0,_,_,_,_,_,_,h=>by omega
 | m+1,s,pc,hT,hN,hS,hb,hm=>by
  have hl:=hp.vs.1;obtain ⟨sp,⟨sf,so⟩,sn,sch,fl⟩:=s;obtain ⟨t1,t2,t3⟩:=hT;simp only at t1 t2 t3 hb;replace t1:=t1.symm;replace t3:=t3.symm;subst t1 t3;injection t2 with t5 t6;subst t5 t6;show Q4 (aV (aL m) _ pc) _;unfold aV;simp only [];refine .bif (λhk => .pure<|.inl ⟨rfl,⟨rfl,rfl,rfl⟩,rfl⟩) λ_=>?_;refine (J3 hp hN _ rfl).bind λb hfb => .bif (λhb1 => .pure<|.inr ⟨rfl,[],.nil<|hfb.1 hb1,by simp⟩) λhb1=>?_;refine Q4.sum (PS:=λw=>w.1=p/\w.2.1=x.1/\w.2.2.1=x.2/\w.2.2.2.1=nm/\w.2.2.2.2.1=sch) (PW:=OY p x nm (aP pc) sch) ?_ λw ⟨w2,w3,w4,w5,w6⟩ => .pure<|.inl ⟨rfl,⟨w2,by simp only [];rw [w3,w4],w5⟩,w6⟩;refine Q4.loop (λz=>∃ n:Nat,n<=p.length/\z.1=p/\z.2.1=x.1/\z.2.2.1=x.2/\z.2.2.2.1=nm/\z.2.2.2.2.1=sch/\z.2.2.2.2.2.2=(n:Int)) (λz=>((p.length:Int)-z.2.2.2.2.2.2).toNat) ⟨0,by omega,rfl,rfl,rfl,rfl,rfl,rfl⟩ λz ⟨n,n1,z1,z2,z3,z4,z5,z7⟩ => ?_;obtain ⟨a1,a2,a3,a4,a5,a6,a7⟩:=z;simp only at z1 z2 z3 z4 z5 z7;replace z1:=z1.symm;replace z4:=z4.symm;replace z5:=z5.symm;subst z1 z2 z3 z4 z5 z7;unfold eY;simp only [tnn];refine .bifD (λhk=>?_) λhk => .pure ⟨rfl,rfl,rfl,rfl,rfl⟩;have hn:n<p.length:=by omega
  refine Q4.sum (PS:=λw=>w.1=p/\w.2.1=x.1/\w.2.2.1=x.2/\w.2.2.2.1=nm/\w.2.2.2.2.1=sch) ?_ λw ⟨w1,w2,w3,w4,w5⟩ => .gdI (by omega)<|.pure ⟨⟨n+1,by omega,w1,w2,w3,w4,w5,rfl⟩,by simp only [];omega⟩;refine (J0 hp R hnm hN hS hn).bind λv23 h23 => .bif (λhc => .pure ⟨rfl,rfl,rfl,rfl,rfl⟩) λhc=>?_;have Bg:Lv p x (aP pc) n:=h23.1 (by simpa using hc);have hg:=Dp hN (t:=n) (by omega);obtain ⟨g1,g2⟩:=ME hN (t:=n) (by omega);have hS':=hS.adv Bg.2.1;have hmu:=He Bg.1 Bg.2.1;have hrow:=hp.vs.2 n;have hlt:=Bg.2.1;refine .gdD ⟨by omega,by omega⟩<|.gdI (by rw [hg];omega)<|.gd (bJ (by omega) rfl) ?_;refine (EY hp R hnm m ⟨p,⟨x.1,x.2⟩,nm,sch++[(n:Int)],a6⟩ _ ⟨rfl,rfl,rfl⟩ g2 (by rw [g1];exact hS') (by rw [g1];simp only [lla,U6];omega)<|by rw [g1];omega).bind λv hv=>?_;rw [g1] at hv;rcases hv with ⟨e1,⟨e2,e3,e4⟩,e6⟩ | ⟨e1,r,e2,e3⟩
  ·refine .bif (λe=>by rw [e1] at e;cases e) λ_=>?_;have hlen:v.1.schedule.length=sch.length+1:=by rw [e6];simp
   refine .gdI (by omega)<|.gdD ⟨by omega,by omega,by omega⟩<|.pure ⟨e2,by rw [e3],by rw [e3],e4,?_⟩;simp only [];rw [hlen,e6,show ((((sch.length+1:Nat):Int)-1).toNat-(0:Int).toNat)=sch.length by omega];simp
  refine .bif (λ_ => .pure<|.inr ⟨rfl,(n:Int)::r,.cons Bg e2,?_⟩) λe=>by rw [e1] at e;cases e
  simp only [];rw [e3,Vg]
  rfl
theorem EZ (hp:PV p) (R:Cand p x F):Q4 (bU p ⟨x.1,x.2⟩) λv=>(v.2=Ri->Ch p x (λ_=>0) v.1)/\(v.2=Rj->v.1=[]):=by
 unfold bU;refine (wS hp).bind λv1 ⟨n1,n2⟩ => ?_;have hz:aP ⟨0,0,0⟩=λ_=>0:=by
  funext t
  unfold aP
  split
  ·rename_i h
   match t,h with
   | 0,_=>rfl
   | 1,_=>rfl
   | 2,_=>rfl
  rfl
 have hN:NNp ⟨0,0,0⟩:=⟨U8 0,U8 0,U8 0⟩;have hmu:=LA hp λ_=>0;obtain ⟨v,e,hv⟩:=EY hp R ⟨n1,n2⟩ 22 ⟨p,⟨x.1,x.2⟩,v1,[],[]⟩ ⟨0,0,0⟩ ⟨rfl,rfl,rfl⟩ hN (by rw [hz];exact λt _=>UW _) (by rw [hz];simpa using hmu) (by rw [hz];omega);rw [hz] at hv;have hfx:jc ⟨p,⟨x.1,x.2⟩,v1,[],[]⟩ ⟨0,0,0⟩=Rk v:=vo 22 λn hn=>J2 _ _ hn v e;refine (Q4.of (P:=(· = v)) hfx rfl).bind λw hw=>?_;subst hw;rcases hv with ⟨e1,_,_⟩ | ⟨e1,r,e2,e3⟩
 ·exact .bif (λ_ => .pure ⟨λe=>(by cases e),λ_=>rfl⟩) λe=>by rw [e1] at e;cases e
 refine .bif (λe=>by rw [e1] at e;cases e) λ_ => .pure ⟨λ_=>?_,λe=>(by cases e)⟩;simp only [];rw [e3];exact e2
theorem Hh (hp:PV p) (hv:bq (p.map λr=>r.map jl)=Ri) (R:Cand p x F) {l:LI} (h:Ch p x (λ_=>0) l):Whole p l/\wT p (sN p l l.length)=x:=by
 obtain ⟨h1,h2,h3⟩:=LJ hp R h (λt _=>UW _) [] (λt _=>rfl) (λj hj=>by simp at hj) (by rw [Nw hp R];rfl);rw [List.nil_append] at h1 h2 h3;exact ⟨⟨hv,h1,h2⟩,h3⟩
theorem OZ {a:Nat->Nat} {r:LI} (h:Gr p x F a r):r.length<=mu p a:=by
 induction h with
 | nil _=>exact UW _
 | cons h _ _ ih=>
  have := He h.1 h.2.1;rw [llc];omega
theorem zw (hp:PV p) (hv:bq (p.map λr=>r.map jl)=Ri) (R:Cand p x F):∃ l b,bU p ⟨x.1,x.2⟩=Rk (l,b)/\iU p (sx p (bef p x) (evs p).length)=Rk (l,b)/\l.length<=21/\(b=Rj->l=[]) /\
  (b=Ri->Whole p l/\wT p (sN p l l.length)=x/\Gr p x F (λ_=>0) l)/\(∀ s,Whole p s->wT p (sN p s s.length)=x->b=Ri):=by
 obtain ⟨w,e,w1,w2⟩:=EZ hp R;obtain ⟨v,e',v1,v2⟩:=BZ hp R;obtain ⟨l,b⟩:=w;obtain ⟨l',b'⟩:=v;simp only at w1 w2 v1 v2;have key:∀ s,Whole p s->wT p (sN p s s.length)=x->b=Ri/\b'=Ri/\l=l':=λs hw hx=>by
  have R':=EW hp hw;rw [hx] at R';obtain ⟨u,e1,u1,u2⟩:=Gc hp R';obtain ⟨u',e1',u1',u2'⟩:=LC hp R';rw [e] at e1;rw [e'] at e1';obtain rfl:=osl e1;obtain rfl:=osl e1';exact ⟨u1,u1',u2.uniq u2'⟩
 cases b' with
 | true=>
  have hG:=v1 rfl;obtain ⟨h1,h2⟩:=Hh hp hv R<|PX hp R hG<|um hp R;obtain ⟨k1,_,k3⟩:=key _ h1 h2;subst k1 k3;exact ⟨l,Ri,e,e',Vk (OZ hG)<|LA hp _,λh=>(by cases h),λ_=>⟨h1,h2,hG⟩,λ_ _ _=>rfl⟩
 | false=>
  obtain ⟨g1,_⟩:=v2 rfl
  cases b with
  | true=>
   obtain ⟨h1,h2⟩:=Hh hp hv R<|w1 rfl;have := (key _ h1 h2).2.1
   cases this
  | false=>
   have := w2 rfl;subst this g1;exact ⟨[],Rj,e,e',by simp,λ_=>rfl,λh=>(by cases h),λs hw hx=>(key s hw hx).1⟩
end
section
variable {α β:Type}
theorem rQ {step:List α×Int->Option ((List α×Int) ⊕ List α)} (n:Nat) (a:List α) (h:Nat->List α) (hs:∀ k,k<n->Q4 (step (a++(UR k).flatMap h,(k:Int))) (· = .inl (a++(UR<|k+1).flatMap h,((k+1:Nat):Int))))
  (he:Q4 (step (a++(UR n).flatMap h,(n:Int))) (· = .inr (a++(UR n).flatMap h))):Q4 (loopO step (a,(0:Int))) (· = a++(UR n).flatMap h):=by
 refine Q4.loop (λs=>∃ k:Nat,k<=n/\s=(a++(UR k).flatMap h,(k:Int))) (λs=>((n:Int)-s.2).toNat) ⟨0,UW _,by simp⟩ λs ⟨k,hk,e⟩ => ?_;subst e
 by_cases hlt:k<n
 ·refine (hs k hlt).mono λv hv=>?_;subst hv;exact ⟨⟨k+1,hlt,rfl⟩,by simp only [];omega⟩
 grind
theorem gP (h:Nat->List α) (k:Nat):(UR<|k+1).flatMap h=(UR k).flatMap h++h k:=by
 rw [U2,VP];simp
theorem Cb (h:Nat->List α) {k n:Nat} (hk:k<=n):((UR k).flatMap h).length<=((UR n).flatMap h).length:=by
 induction hk with
 | refl=>omega
 | step _ ih=>rw [gP,lla];omega
theorem Io {l:List α} {f g:α->List β} (h:∀ a∈l,f a=g a):l.flatMap f=l.flatMap g:=by
 induction l with
 | nil=>rfl
 | cons a l ih=>
  simp_all
theorem lY [Inhabited α] (l:List α) (f:α->List β):(UR l.length).flatMap (λk=>f<|l.getD k Rh)=l.flatMap f:=by
 induction l using Bc with
 | h0=>rfl
 | hs l a ih=>
  have e:(l++[a]).getD l.length Rh=a:=by rw [gdq,gar (U0 _)];simp
  rw [lla,U6,gP,e,VP,<- ih]
  congr 1
  ·refine Io λk hk=>?_
   grind
  simp
theorem Be (l:List α) (f:α->β):l.flatMap (λa=>[f a])=l.map f:=by
 induction l with
 | nil=>rfl
 | cons a l ih=>simp_all
theorem ou {l:List α} {f:α->List β} {m:Nat} (h:∀ a∈l,(f a).length=m):(l.flatMap f).length=l.length*m:=by
 induction l with
 | nil=>simp
 | cons a l ih=>
  grind
def wW:List (List α)->List (List α)
 | []=>[[]]
 | c::cs=>c.flatMap λy=>(wW cs).map (y :: ·)
theorem rR:∀ {cs:List (List α)} {x:List α},x∈wW cs↔x.length=cs.length/\∀ (i:Nat) (h:i<cs.length),∃ y∈cs[i],x[i]? = Rk y
 | [],x=>by
  show x∈[[]]↔_;rw [Vo]
  constructor
  ·rintro rfl;exact ⟨rfl,λi h=>by simp at h⟩
  rintro ⟨h,_⟩;exact VQ h
 | c::cs,x=>by
  show x∈c.flatMap (λy=>(wW cs).map (y :: ·))↔_;simp only [List.mem_flatMap,Vl]
  constructor
  ·rintro ⟨y,hy,z,hz,rfl⟩;obtain ⟨h1,h2⟩:=rR.1 hz;refine ⟨by simp [h1],λi hi=>?_⟩
   match i with
   | 0=>exact ⟨y,hy,rfl⟩
   | i+1=>exact h2 i (by simpa using hi)
  rintro ⟨h1,h2⟩
  match x,h1 with
  | y::z,h1=>
   obtain ⟨y',hy',e⟩:=h2 0 (by simp);obtain rfl:y=y':=by simpa using e
   exact ⟨y,hy',z,rR.2 ⟨by simpa using h1,λi hi=>h2 (i+1)<|by simpa using hi⟩,rfl⟩
def oz (l:List Nat):Nat:=l.foldr (· * ·) 1
theorem uo:∀ cs:List (List α),(wW cs).length=oz (cs.map List.length)
 | []=>rfl
 | c::cs=>by
  show (c.flatMap λy=>(wW cs).map (y :: ·)).length=c.length*oz (cs.map List.length);rw [<- uo cs];exact ou λy _=>llm _
theorem Af (l k:List Nat):oz (l++k)=oz l*oz k:=by
 induction l with
 | nil=>show oz k=1*_;omega
 | cons a l ih=>
  show a*oz (l++k)=a*oz l*oz k
  grind
theorem Dr {l k:List Nat} (hl:l.length=k.length) (h:∀ i:Nat,i<l.length->l.getD i 0<=k.getD i 0):oz l<=oz k:=by
 induction l generalizing k with
 | nil=>
  grind
 | cons a l ih=>
  match k,hl with
  | b::k,hl=>
   refine VE ?_<|ih (by grind) λi hi=>?_
   ·have := h 0 (by simp)
    grind
   have := h (i+1) (by simpa using hi)
   simp_all
theorem yz {l:List Nat} (h:∀ a∈l,1<=a):1<=oz l:=by
 induction l with
 | nil=>exact U0 _
 | cons a l ih=>exact Nat.mul_pos (h a List.mem_cons_self) (ih λb hb=>h b<|VI _ hb)
theorem Dt {l:List Nat} (h:∀ a∈l,1<=a) (k:Nat):oz (l.take k)<=oz l:=by
 have e:=Af (l.take k)<|l.drop k;rw [Vy] at e;have := yz (l:=l.drop k) λa ha=>h a<|List.mem_of_mem_drop ha;rw [e];exact VS _ this
theorem Du {l:List Nat} (h:∀ a∈l,1<=a) (k:Nat):oz (l.drop k)<=oz l:=by
 have e:=Af (l.take k)<|l.drop k;rw [Vy] at e;have := yz (l:=l.take k) λa ha=>h a<|List.mem_of_mem_take ha;rw [e];exact Nat.le_mul_of_pos_left _ this
end
theorem Ip {α:Type} [Inhabited α] {l:List α} {k:Nat} (h:k<l.length):l.take (k+1)=l.take k++[l.getD k Rh]:=by
 simp_all
theorem Nz {n m:Nat} (hn:n<=1000000000) (hm:Nat.ble m 1000=Ri):bT n m=Ri:=by
 have h1:=nlb hm;have h2:n*m<=1000000000*1000:=VE hn h1;exact decide_eq_true ⟨by omega,by omega⟩
def prm:Nat->LI->LL
 | 0,_=>[[]]
 | n+1,l=>(UR l.length).flatMap λi=>(prm n<|l.take i++l.drop (i+1)).map (l.getD i Rh :: ·)
theorem Cc:∀ (n:Nat) (l:LI),l.length=n->(prm n l).length=Q3 n
 | 0,_,_=>rfl
 | n+1,l,h=>by
  show ((UR l.length).flatMap λi=>(prm n<|l.take i++l.drop (i+1)).map (l.getD i Rh :: ·)).length=Q3 n*(n+1);rw [ou (m:=Q3 n) λi hi=>?_,Vd,h,Nat.mul_comm];have := U5.1 hi;rw [llm,Cc n _ (by grind)]
theorem Hk {l:LI} {i:Nat} (h:i<l.length):(l.getD i Rh::(l.take i++l.drop (i+1))).Perm l:=by
 have e:l=l.take i++(l.getD i Rh::l.drop (i+1)):=by
  rw [gdq,geq h];simp
 grind
theorem zx:∀ {n:Nat} {l:LI},l.length=n->∀ {o:LI},o∈prm n l↔o.Perm l
 | 0,l,h,o=>by
  obtain rfl:=VQ h;show o∈[[]]↔_
  simp_all
 | n+1,l,h,o=>by
  show o∈(UR l.length).flatMap (λi=>(prm n<|l.take i++l.drop (i+1)).map (l.getD i Rh :: ·))↔_;simp only [List.mem_flatMap,Vl,U5]
  constructor
  ·rintro ⟨i,hi,r,hr,rfl⟩;have := (zx<|by grind).1 hr;exact (this.cons _).trans<|Hk hi
  intro hp
  match o,hp.length_eq with
  | [],e=>simp_all
  | a::r,e=>
   have ha:a∈l:=hp.mem_iff.1 List.mem_cons_self;have hi:=UZ ha;have hg:l.getD (l.idxOf a) Rh=a:=by
    rw [gdq,geq hi];exact List.getElem_idxOf hi
   refine ⟨l.idxOf a,hi,r,(zx<|by grind).2 ?_,by rw [hg]⟩;have h2:=Hk hi;rw [hg] at h2;exact (hp.trans h2.symm).cons_inv
theorem Hl {a b:Nat} (h:a<=b):Q3 a<=Q3 b:=by
 induction h with
 | refl=>omega
 | step _ ih=>exact Vk ih (VS _<|by omega)
theorem Iq {n:Nat} {l:LI} (hl:l.length=n+1) (hn:n+1<=12) {acc:Nat} (hacc:acc<l.length) {step:LL×Int->Option ((LL×Int) ⊕ LL)} {r:LL} (hr:r=prm n (l.take acc++l.drop (acc+1)))
  (hs:∀ s,step s=bif Rm (s.2<(r.length:Int)) then
   gd (Rm<|0<=s.2/\s.2<(r.length:Int)) <|
   gd (bT (([l.getD acc Rh]:LI).length+(r.getD s.2.toNat Rh).length) 8) <|
   gd (bT (s.1.length+1) 24) <|
   gd (QS .i64<|s.2+(1:Int)) <|
   Rk (.inl ((s.1++[(([l.getD acc Rh]:LI)++(r.getD s.2.toNat Rh))]),(s.2+(1:Int)))) else Rk (.inr s.1)) :
  Q4 (loopO step ((UR acc).flatMap (λi=>(prm n<|l.take i++l.drop (i+1)).map (l.getD i Rh :: ·)),(0:Int))) (· = (UR<|acc+1).flatMap (λi=>(prm n<|l.take i++l.drop (i+1)).map (l.getD i Rh :: ·))):=by
 have hrl:r.length=Q3 n:=by rw [hr];exact Cc n _ (by grind)
 have hf:Q3 n<=Q3 11:=Hl (by omega);have h11:Q3 11=39916800:=by decide
 have hrow:∀ k,(r.getD k Rh).length<=12:=λk=>by
  by_cases hk:k<r.length
  ·have hm:r.getD k Rh∈r:=by rw [gdq,geq hk];exact Vr _
   have hll:(l.take acc++l.drop (acc+1)).length=n:=by rw [lla,U7,List.length_drop];omega
   have := ((zx hll).1<|show r.getD k Rh∈prm n (l.take acc++l.drop (acc+1)) by rw [<- hr];exact hm).length_eq;omega
  rw [gdq,gen (by omega)];exact UW _
 have hpre:((UR acc).flatMap (λi=>(prm n<|l.take i++l.drop (i+1)).map (l.getD i Rh :: ·))).length<=12*39916800:=by
  have e:=ou (l:=UR acc) (f:=λi=>(prm n<|l.take i++l.drop (i+1)).map (l.getD i Rh :: ·)) (m:=Q3 n) λi hi=>by
   have := U5.1 hi;rw [llm,Cc n _ (by grind)]
  rw [e,Vd];exact VE (by omega) (by omega)
 refine (rQ r.length _ (λk=>[l.getD acc Rh::r.getD k Rh]) (λk hk=>?_) ?_).mono λv hv=>?_
 ·rw [hs];have hkl:((UR k).flatMap λk=>[l.getD acc Rh::r.getD k Rh]).length=k*1:=by rw [ou (m:=1) λ_ _=>rfl,Vd]
  refine .bifD (λ_ => .gdD ⟨by omega,by omega⟩<|.gd (bJ (by grind) rfl)<|.gd (Nz (by grind) rfl)<|.gdI (by omega)<|.pure ?_) λh=>absurd (show (k:Int)<(r.length:Int) by omega) h;simp only [tnn,gP,Vg]
  rfl
 ·rw [hs];exact .bifD (λh=>absurd h<|by omega) λ_ => .pure rfl
 rw [hv,gP,lY r λx=>[l.getD acc Rh::x],Be,<- hr]
theorem E0:∀ (n:Nat) (l:LI),l.length=n->n<=12->∀ m,n<m->Q4 (iQ m l) (· = prm n l)
 | _,_,_,_,0,h=>by omega
 | 0,l,hl,hn,m+1,_=>by
  show Q4 (fB _ l) _;unfold fB;exact .bif (λ_ => .pure rfl) λh=>by simp_all
 | n+1,l,hl,hn,m+1,hm=>by
  show Q4 (fB _ l) _;unfold fB;refine .bif (λh=>by grind) λ_=>Q4.bind (P:=(· = prm (n+1) l)) ?_ λv hv => .pure hv;refine (rQ l.length [] (λi=>(prm n<|l.take i++l.drop (i+1)).map (l.getD i Rh :: ·)) (λk hk=>?_) ?_).mono λv hv=>?_
  ·unfold nN;simp only [List.nil_append,tnn];refine .bifD (λ_=>?_) λh=>absurd (show (k:Int)<(l.length:Int) by omega) h;refine Q4.bind (P:=(· = (UR<|k+1).flatMap λi=>(prm n<|l.take i++l.drop (i+1)).map (l.getD i Rh :: ·))) ?_ λv hv => .gdI (by omega)<|.pure (by simp_all);have e1:((l.drop (0:Int).toNat).take<|k-(0:Int).toNat)=l.take k:=by simp
   have e2:((l.drop ((k:Int)+1).toNat).take<|l.length-((k:Int)+1).toNat)=l.drop (k+1):=by
    rw [show ((k:Int)+1).toNat=k+1 by omega];exact List.take_of_length_le (by simp_all)
   rw [e1,e2];have g1:(l.take k).length<=12:=by rw [U7];omega
   have g2:(l.drop<|k+1).length<=12:=by rw [List.length_drop];omega
   refine .gdD ⟨by omega,by omega,by omega⟩<|.gd (bJ (by grind) rfl)<|.gdI (by omega)<|.gdD ⟨by omega,by omega,by omega⟩<|.gd (bJ (by omega) rfl) ?_;refine (E0 n _ (by grind) (by omega) m<|by omega).bind λv25 h25=>?_;refine Iq hl hn hk h25 λs=>?_;unfold rN J;simp only [tnn];rw [oP (decide_eq_true<|show 0<=(k:Int)/\(k:Int)<(l.length:Int) by omega)]
  ·unfold nN;exact .bifD (λh=>absurd h<|by omega) λ_ => .pure rfl
  rw [hv]
  rfl
theorem Bf {α:Type} {f:Nat->Option α} {v:α} (n:Nat) (h:∀ m,n<m->Q4 (f m) (· = v)):Q4 (FQ f) (· = v):=Q4.of (vo (n+1) λm hm=>(h m hm).eq) rfl
theorem O0 (l:LI) (h:l.length<=12):Q4 (su l) (· = prm l.length l):=Bf l.length λm hm=>E0 l.length l rfl h m hm
end
end Go.Proofs.YtabfkkjdfhbngaaGreatDoor
