/- Texts joined. No conditions. -/
import Derived.Test.YtpkhamajimidnaaGreatDoorW9
namespace Go.Proofs.YtpkhamajimidnaaGreatDoor
noncomputable section
open _root_.List renaming range -> U4, getElem_of_mem -> U7, all_eq_true -> U8, foldl_cons -> U9, nil_append -> Vb, append_assoc -> Vd, length_take -> Ve, all_cons -> Vh, foldl_nil -> Vi, take_of_length_le -> Vk, mem_range -> Vl, foldl_append -> Vn, map_cons -> Vo, map_nil -> Vp, take_append_drop -> Vt, take_succ_cons -> Vy, drop_succ_cons -> Vz
open _root_.Option renaming bind -> U5, bind_eq_some_iff -> Vw
open _root_.Bool renaming true_and -> U6, eq_false_iff -> Vm, and_eq_false_iff -> Vv
open _root_.ByteArray renaming size_append -> Va, data_append -> Vq
open _root_.Int renaming toNat_of_nonneg -> Vf, le_refl -> Vg
open _root_.Nat renaming not_lt_zero -> Vj, le_trans -> Vr, pow_le_pow_right -> Vu, mul_le_mul_right -> Vx
open _root_.List.cons renaming injEq -> VA
open Go.RowKit
set_option maxRecDepth 100000
theorem LG {l:List Px} (hl:l.length<=1000) {a b:Nat} (hab:a<b) (hb:b<l.length) (ha : ¬ (l.getD a default).Op=4):PE (kH l (a:Int) (b:Int)) (· = Eg ((l.drop a).take (b-a))):=by
 have key:Eg ((l.drop a).take (b-a))=true↔∃ j,a<j/\j<b/\(l.getD j default).Op=4:=by
  unfold Eg;rw [List.any_eq_true]
  constructor
  ·rintro ⟨y,hy,h4⟩;obtain ⟨i,hi,rfl⟩:=U7 hy;rw [Ve,List.length_drop] at hi;have e:((l.drop a).take (b-a))[i]=l.getD (a+i) default:=by
    rw [List.getElem_take,List.getElem_drop,gdq,geq (by omega)]
    rfl
   rw [e,beq_iff_eq] at h4
   by_cases h0:i=0
   ·subst h0;exact absurd h4 ha
   exact ⟨a+i,by omega,by omega,h4⟩
  rintro ⟨j,h1,h2,h3⟩;refine ⟨l.getD j default,?_,by rw [h3];rfl⟩;have : j-a<((l.drop a).take (b-a)).length:=by rw [Ve,List.length_drop];omega
  have e:((l.drop a).take (b-a))[j-a]=l.getD j default:=by
   rw [List.getElem_take,List.getElem_drop,gdq,geq (by omega)];simp only [show a+(j-a)=j by omega]
   rfl
  rw [<- e];exact List.getElem_mem _
 unfold kH;refine PE.sum (PS:=λ_=>Eg ((l.drop a).take (b-a))=false) (PW:=(· = Eg ((l.drop a).take (b-a)))) (.gdI (by omega) ?_) λ_ hn => .pure hn.symm;refine PE.loop (λz=>∃ i:Nat,a<i/\i<=b/\z=(i:Int)/\∀ j,a<j->j<i -> ¬ (l.getD j default).Op=4) (λz=>((b:Int)-z).toNat) ⟨a+1,by omega,by omega,by simp,λj _ _=>by omega⟩ λz ⟨i,h0,h1,h2,h3⟩ => ?_;subst h2;unfold rL;simp only [tnn];refine .bifD (λhk => .gdD ⟨by omega,by omega⟩ (.bif (λhe => .pure ?_) λhe => .gdI (by omega) (.pure ⟨⟨i+1,by omega,by omega,rfl,λj j1 j2=>?_⟩,by omega⟩))) λhk => .pure ?_
 ·exact (key.2 ⟨i,by omega,by omega,eq_of_beq he⟩).symm
 ·by_cases e:j=i
  ·subst e;exact λh=>by rw [h] at he;simp at he
  exact h3 j j1 (by omega)
 show Eg _=false;rw [Vm];intro h;obtain ⟨j,j1,j2,j3⟩:=key.1 h;exact h3 j j1 (by omega) j3
section
variable {p:List (List Px)} {x:XS} {F:LI}
theorem M9 (hp:PV p) (C:Cand p x F) {i k:Nat} (hi:i<(evs p).length) (hk:k<(evs p).length) (nm:ByteArray) (hn:nm∈zL):PE (dB p ⟨x.1,x.2⟩ (evs p) nm (i:Int) (k:Int)) (· = nmR p x nm i k):=by
 have hX:=OX hp C;have hn':nm=⟨#[112,111]⟩\/nm=⟨#[108,111,99]⟩\/nm=⟨#[101,120,116]⟩\/nm=⟨#[114,102]⟩\/nm=⟨#[99,111]⟩\/nm=⟨#[102,114]⟩\/nm=⟨#[102,101,110,99,101]⟩\/nm=⟨#[119,114]⟩\/nm=⟨#[119,119]⟩\/nm=⟨#[105,100]⟩:=by
  simpa [zL] using hn
 have four:∀ f,((nm=⟨#[112,111]⟩/\f=poB p)\/(nm=⟨#[114,102]⟩/\f=rfB p x)\/(nm=⟨#[99,111]⟩/\f=coB p x)\/(nm=⟨#[102,114]⟩/\f=frB p x))->nmR p x nm=f->PE (dB p ⟨x.1,x.2⟩ (evs p) nm (i:Int) (k:Int)) (· = nmR p x nm i k):=λf h e=>by
  rw [e];exact JC hp hX hi hk nm f h
 have ei:(evs p).getD i default=ev p (i:Int):=by unfold ev;rw [tnn]
 have ek:(evs p).getD k default=ev p (k:Int):=by unfold ev;rw [tnn]
 have go:∀ {f:Int->Int->Bool},nmR p x nm=f->(∀ same:Bool,same=(decide ((ev p i).Thread=(ev p k).Thread)&&decide (0<=(ev p i).Thread))->PE ( sumK (
  bif decide (nm=(⟨#[112,111]⟩:ByteArray)) then
   U5 (bif same then
    some (decide (((ev p (i:Int)).Index)<((ev p (k:Int)).Index)))
   else
    some false
   ) λs7=>
   some (.inr s7)
  else
   bif decide (nm=(⟨#[108,111,99]⟩:ByteArray)) then
    some (.inr (((ev p (i:Int)).Loc)==((ev p (k:Int)).Loc)))
   else
    bif decide (nm=(⟨#[101,120,116]⟩:ByteArray)) then
     some (.inr (!same))
    else
     bif decide (nm=(⟨#[114,102]⟩:ByteArray)) then
      U5 (bif (ev p (k:Int)).Reads then
       gd (decide (0<=(k:Int)/\(k:Int)<(x.1.length:Int))) <|
       some ((x.1.getD k default)==(i:Int))
      else
       some false
      ) λs12=>
      some (.inr s12)
     else
      bif decide (nm=(⟨#[99,111]⟩:ByteArray)) then
       U5 (bif (ev p (i:Int)).az then
        some ((ev p (k:Int)).az)
       else
        some false
       ) λs16=>
       U5 (bif s16 then
        some (((ev p (i:Int)).Loc)==((ev p (k:Int)).Loc))
       else
        some false
       ) λs18=>
       U5 (bif s18 then
        U5 (dN ⟨x.1,x.2⟩ ((ev p (i:Int)).Loc) (i:Int) (k:Int)) λv22=>
        some v22
       else
        some false
       ) λs20=>
       some (.inr s20)
      else
       bif decide (nm=(⟨#[102,114]⟩:ByteArray)) then
        U5 (
         bif (ev p (i:Int)).Reads then
          bif (ev p (k:Int)).az then
           bif (((ev p (i:Int)).Loc)==((ev p (k:Int)).Loc)) then
            bif ((i:Int) != (k:Int)) then
             gd (decide (0<=(i:Int)/\(i:Int)<(x.1.length:Int))) <|
             U5 (dN ⟨x.1,x.2⟩ ((ev p (i:Int)).Loc) (x.1.getD i default) (k:Int)) λv30=>
             some v30
            else
             some false
           else
            some false
          else
           some false
         else
          some false
        ) λs24=>
        some (.inr s24)
       else
        bif decide (nm=(⟨#[102,101,110,99,101]⟩:ByteArray)) then
         U5 (
          bif same then
           bif decide (((ev p (i:Int)).Index)<((ev p (k:Int)).Index)) then
            gd (decide (0<=(ev p (i:Int)).Thread/\(ev p (i:Int)).Thread<(p.length:Int))) <|
            U5 (kH (p.getD ((ev p (i:Int)).Thread).toNat default) ((ev p (i:Int)).Index) ((ev p (k:Int)).Index)) λv36=>
            some v36
           else
            some false
          else
           some false
         ) λsame2=>
         some (.inr same2)
        else
         bif decide (nm=(⟨#[119,114]⟩:ByteArray)) then
          U5 (bif (ev p (i:Int)).az then
           some (!((ev p (i:Int)).Reads))
          else
           some false
          ) λsame8=>
          U5 (bif same8 then
           some ((ev p (k:Int)).Reads)
          else
           some false
          ) λs40=>
          U5 (bif s40 then
           some (!((ev p (k:Int)).az))
          else
           some false
          ) λs42=>
          some (.inr s42)
         else
          bif decide (nm=(⟨#[119,119]⟩:ByteArray)) then
           U5 (bif (ev p (i:Int)).az then
            some (!((ev p (i:Int)).Reads))
           else
            some false
           ) λs45=>
           U5 (bif s45 then
            some ((ev p (k:Int)).az)
           else
            some false
           ) λs47=>
           U5 (bif s47 then
            some (!((ev p (k:Int)).Reads))
           else
            some false
           ) λs49=>
           some (.inr s49)
          else
           some (.inl ())
 ) λs5=>
 U5 (bif decide (nm=(⟨#[105,100]⟩:ByteArray)) then
  some ((i:Int)==(k:Int))
 else
  some false
 ) λs51=>
 some s51) (· = f i k))->PE (dB p ⟨x.1,x.2⟩ (evs p) nm (i:Int) (k:Int)) (· = nmR p x nm i k):=λ{f} e h=>by
  rw [e];unfold dB;simp only [tnn,ei,ek];refine .gdD ⟨by omega,by omega⟩ (.gdD ⟨by omega,by omega⟩ (PE.bind (P:=(· = (decide ((ev p i).Thread=(ev p k).Thread)&&decide (0<=(ev p i).Thread)))) (.bif (λh => .pure ?_) λh => .pure ?_) h))
  ·rw [eq_of_beq h];simp
  rw [decide_eq_false (λe=>by rw [e] at h;simp at h)];rfl
 rcases hn' with rfl | rfl | rfl | rfl | rfl | rfl | rfl | rfl | rfl | rfl
 ·exact four _ (.inl ⟨rfl,rfl⟩) rfl
 ·refine go (f:=OY p) rfl λsame hs=>PE.sumR (.bif (λh=>absurd h (by decide)) λ_ => .bif (λ_ => .pure (congrArg Sum.inr (CM _ _))) λh=>absurd h (by decide))
 ·refine go (f:=Mm p) rfl λsame hs=>PE.sumR (.bif (λh=>absurd h (by decide)) λ_ => .bif (λh=>absurd h (by decide)) λ_ => .bif (λ_ => .pure (congrArg Sum.inr ?_)) λh=>absurd h (by decide));subst hs;unfold Mm
  by_cases h1:(ev p i).Thread=(ev p k).Thread <;> by_cases h2:0<=(ev p i).Thread
  ·rw [decide_eq_true h1,decide_eq_true h2,decide_eq_false (λh=>h h1),decide_eq_false (show ¬ (ev p i).Thread<0 by omega)];rfl
  ·rw [decide_eq_true h1,decide_eq_false h2,decide_eq_false (λh=>h h1),decide_eq_true (show (ev p i).Thread<0 by omega)];rfl
  ·rw [decide_eq_false h1,decide_eq_true (show (ev p i).Thread≠(ev p k).Thread from h1)];rfl
  rw [decide_eq_false h1,decide_eq_true (show (ev p i).Thread≠(ev p k).Thread from h1)];rfl
 ·exact four _ (.inr (.inl ⟨rfl,rfl⟩)) rfl
 ·exact four _ (.inr (.inr (.inl ⟨rfl,rfl⟩))) rfl
 ·exact four _ (.inr (.inr (.inr ⟨rfl,rfl⟩))) rfl
 ·refine go (f:=JJ p) rfl λsame hs=>PE.sumR (.bif (λh=>absurd h (by decide)) λ_ => .bif (λh=>absurd h (by decide)) λ_ => .bif (λh=>absurd h (by decide)) λ_ => .bif (λh=>absurd h (by decide)) λ_ => .bif (λh=>absurd h (by decide)) λ_ => .bif (λh=>absurd h (by decide)) λ_ => .bif (λ_=>?_) λh=>absurd h (by decide));refine PE.bind (P:=(· = JJ p i k)) (.bif (λh1 => .bifD (λh2=>?_) λh2 => .pure ?_) λh1 => .pure ?_) λv hv => .pure (congrArg Sum.inr hv)
  ·rw [hs,bae,dte,dte] at h1;obtain ⟨t',q',hI',e',ht',hq'⟩:=yL hp (n:=(i:Int)) (by omega) (by omega) (by omega);obtain ⟨t,q,hI,e,ht,hq⟩:=yL hp (n:=(k:Int)) (by omega) (by omega) (by omega);have htt:t'=t:=by omega
   subst htt;have hlen:=hI.k;have hlt:=hI.t;have hr:=hp.vs.2 t';have hnf:=hI'.o;have hpo:poB p i k=true:=by unfold poB;rw [decide_eq_true h1.1,decide_eq_true h1.2,decide_eq_true h2];rfl
   unfold JJ;rw [hpo,U6,ht',hq',hq,tnn,tnn,tnn];exact .gdD ⟨by omega,by omega⟩ ((LG (by omega) (by omega) hlen hnf).bind λv hv => .pure hv)
  ·unfold JJ poB;rw [decide_eq_false h2,Bool.and_false]
   rfl
  unfold JJ poB;rw [<- hs,h1]
  rfl
 ·refine go (f:=λi k=>m5 (ev p i) true&&m5 (ev p k) false) rfl λsame hs=>PE.sumR (.bif (λh=>absurd h (by decide)) λ_ => .bif (λh=>absurd h (by decide)) λ_ => .bif (λh=>absurd h (by decide)) λ_ => .bif (λh=>absurd h (by decide)) λ_ => .bif (λh=>absurd h (by decide)) λ_ => .bif (λh=>absurd h (by decide)) λ_ => .bif (λh=>absurd h (by decide)) λ_ => .bif (λ_=>?_) λh=>absurd h (by decide));generalize ev p (i:Int)=a;generalize ev p (k:Int)=b;obtain ⟨_,_,_,r,w⟩:=a;obtain ⟨_,_,_,r',w'⟩:=b
  cases r <;> cases w <;> cases r' <;> cases w' <;> exact .pure rfl
 ·refine go (f:=λi k=>m5 (ev p i) true&&m5 (ev p k) true) rfl λsame hs=>PE.sumR (.bif (λh=>absurd h (by decide)) λ_ => .bif (λh=>absurd h (by decide)) λ_ => .bif (λh=>absurd h (by decide)) λ_ => .bif (λh=>absurd h (by decide)) λ_ => .bif (λh=>absurd h (by decide)) λ_ => .bif (λh=>absurd h (by decide)) λ_ => .bif (λh=>absurd h (by decide)) λ_ => .bif (λh=>absurd h (by decide)) λ_ => .bif (λ_=>?_) λh=>absurd h (by decide));generalize ev p (i:Int)=a;generalize ev p (k:Int)=b;obtain ⟨_,_,_,r,w⟩:=a;obtain ⟨_,_,_,r',w'⟩:=b
  cases r <;> cases w <;> cases r' <;> cases w' <;> exact .pure rfl
 refine go (f:=λi k=>decide (i=k)) rfl λsame hs=>PE.sum (PS:=λ_=>True) (PW:=(· = decide ((i:Int)=(k:Int)))) (.bif (λh=>absurd h (by decide)) λ_ => .bif (λh=>absurd h (by decide)) λ_ => .bif (λh=>absurd h (by decide)) λ_ => .bif (λh=>absurd h (by decide)) λ_ => .bif (λh=>absurd h (by decide)) λ_ => .bif (λh=>absurd h (by decide)) λ_ => .bif (λh=>absurd h (by decide)) λ_ => .bif (λh=>absurd h (by decide)) λ_ => .bif (λh=>absurd h (by decide)) λ_ => .pure trivial) λ_ _=>PE.bind (P:=(· = decide ((i:Int)=(k:Int)))) (.bif (λ_ => .pure (CM _ _)) λh=>absurd h (by decide)) λv hv => .pure hv
theorem Na (hp:PV p) (name:ByteArray) (f:Int->Int->Bool) (h:∀ i k:Nat,i<(evs p).length->k<(evs p).length->PE (dB p ⟨x.1,x.2⟩ (evs p) name (i:Int) (k:Int)) (· = f i k)):PE (eZ p ⟨x.1,x.2⟩ name) (· = CN p f (evs p).length):=by
 have hel:=jo hp.vs;unfold eZ;refine (xI hp.vs).bind λv1 h1=>?_;subst h1;refine PE.bind (P:=(· = CN p f (evs p).length)) ?_ λv hv => .pure hv;refine PE.loop (λz=>∃ n:Nat,n<=(evs p).length/\z=(CN p f n,(n:Int))) (λz=>(((evs p).length:Int)-z.2).toNat) ⟨0,by omega,rfl⟩ λz ⟨n,h1,h2⟩ => ?_;subst h2;unfold qh;refine .bifD (λhk=>?_) λhk => .pure ?_
 ·simp only [] at hk;refine PE.bind (P:=(· = CN p f (n+1))) (PE.bind (P:=(· = ((PF (λk=>f n k) (evs p).length:Nat):Int))) ?_ λv hv => .gd (aI (by simp only [];rw [H4];omega) rfl) (.pure (by simp only [];rw [hv,Gi]))) λv hv => .gdI (by simp only [];omega) (.pure ⟨⟨n+1,by omega,by rw [hv];rfl⟩,by simp only [];omega⟩);refine PE.loop (λz=>∃ k:Nat,k<=(evs p).length/\z=((k:Int),((PF (λk=>f n k) k:Nat):Int))) (λz=>(((evs p).length:Int)-z.1).toNat) ⟨0,by omega,rfl⟩ λz ⟨k,k1,k2⟩ => ?_;subst k2;unfold tj;refine .bifD (λhkk=>?_) λhkk => .pure ?_
  ·simp only [] at hkk;refine PE.bind (P:=(· = ((PF (λk=>f n k) (k+1):Nat):Int))) ((h n k (by omega) (by omega)).bind λv hv => .bif (λhb => .gdD (by simp only [];omega) (.pure ?_)) λhb => .pure ?_) λv hv => .gdI (by simp only [];omega) (.pure ⟨⟨k+1,by omega,by rw [hv];rfl⟩,by simp only [];omega⟩)
   ·simp only [];rw [zN (by omega),ru (bC (by omega)) (by have := Nat.pow_lt_pow_right (a:=2) (by omega) (show k<63 by omega);omega)];rw [hv] at hb;simp only [PF,hb,if_true]
   rw [hv] at hb;simp only [PF,hb]
   rfl
  have : k=(evs p).length:=by simp only [] at hkk;omega
  rw [<- this]
 have : n=(evs p).length:=by simp only [] at hk;omega
 subst this
 rfl
theorem Nb (hp:PV p) (C:Cand p x F) {nm:ByteArray} (hn:nm∈zL):PE (eZ p ⟨x.1,x.2⟩ nm) (· = PI (evs p).length (nmR p x nm)):=Na hp nm _ λi k hi hk=>M9 hp C hi hk nm hn
end
section
variable {p:List (List Px)} {x:XS} {F:LI}
theorem Nc (hp:PV p) {t:Nat} (ht:t<p.length) (idx reg:Int):PE (nY p (evs p) (t:Int) idx reg) (· = lrd p (t:Int) idx reg):=by
 have hel:=jo hp.vs;unfold nY;refine PE.bind (P:=(· = lrd p (t:Int) idx reg)) ?_ λv hv => .pure hv;refine PE.loop (λz=>∃ n:Nat,n<=(evs p).length/\z=((n:Int),lrN p (t:Int) idx reg n)) (λz=>(((evs p).length:Int)-z.1).toNat) ⟨0,by omega,rfl⟩ λz ⟨n,h1,h2⟩ => ?_;subst h2;unfold tY;have en:(evs p).getD n default=ev p (n:Int):=by unfold ev;rw [tnn]
 simp only [tnn,en];refine .bifD (λhk=>?_) λhk => .pure (by rw [show n=(evs p).length by omega];rfl);refine PE.bind (P:=(· = lrN p (t:Int) idx reg (n+1))) (.gdD ⟨by omega,hk⟩ (PE.bind (P:=(· = lrC p (t:Int) idx reg (ev p (n:Int)))) (.bif (λh1 => .bifD (λh2 => .bif (λh3=>?_) λh3 => .pure ?_) λh2 => .pure ?_) λh1 => .pure ?_) λv hv => .bif (λh => .pure ?_) λh => .pure ?_)) λv hv => .gdI (by omega) (.pure ⟨⟨n+1,by omega,by rw [hv];rfl⟩,by simp only [];omega⟩)
 ·have h1:(ev p (n:Int)).Thread=(t:Int):=eq_of_beq h1;obtain ⟨t',k,hI,e,e1,e2⟩:=yL hp (n:=(n:Int)) (by omega) (by omega) (by omega);have : t'=t:=by omega
  subst this;have := hI.k;refine .gdD ⟨by omega,by omega⟩ (.gdD ⟨by omega,by rw [e2];omega⟩ (.pure ?_));unfold lrC;rw [decide_eq_true h1,decide_eq_true h2,h3,tnn]
  rfl
 ·unfold lrC;rw [h3];simp
 ·unfold lrC;rw [decide_eq_false h2];simp
 ·unfold lrC;rw [decide_eq_false (λe=>by rw [e] at h1;simp at h1)];simp
 ·show (n:Int)=lrN p (t:Int) idx reg (n+1);rw [lrN,if_pos (by rw [<- hv];exact h)]
 show lrN p (t:Int) idx reg n=lrN p (t:Int) idx reg (n+1);rw [lrN,if_neg (by rw [<- hv,h];decide)]
def wv (p:List (List Px)) (x:XS) (K:LI) (i:Int):Int:=
 if (ev p i).Thread<0 then 0 else if (zS p i).Op≠3 then (zS p i).Val else if lrE p i<0 then 0 else K.getD (x.1.getD (lrE p i).toNat default).toNat default
theorem LH (hp:PV p) (C:Cand p x F) {K:LI} (hK:K.length=(evs p).length) {i:Nat} (hi:i<(evs p).length):PE (nK p (evs p) ⟨x.1,x.2⟩ (i:Int) K) (· = wv p x K (i:Int)):=by
 have ei:(evs p).getD i default=ev p (i:Int):=by unfold ev;rw [tnn]
 unfold nK wv;simp only [tnn,ei];refine .gdD ⟨by omega,by omega⟩ (.bifD (λh0 => .pure (by rw [if_pos h0])) λh0=>?_);rw [if_neg h0];obtain ⟨t,k,hI,e,e1,e2⟩:=yL hp (n:=(i:Int)) (by omega) (by omega) h0;have hins:((p.getD (ev p (i:Int)).Thread.toNat default).getD (ev p (i:Int)).Index.toNat default)=zS p (i:Int):=rfl;simp only [hins];have ht:=hI.t;have hk:=hI.k;refine .gdD ⟨by omega,by omega⟩ (.gdD ⟨by omega,by rw [e1,e2,tnn];omega⟩ (.bif (λh3 => .pure (by rw [if_pos (by simpa using h3)])) λh3=>?_));have h3:(zS p (i:Int)).Op=3:=by simpa using h3
 rw [if_neg (λh=>h h3)];have hlr:=Nc (p:=p) hp ht (ev p (i:Int)).Index (zS p (i:Int)).Reg;rw [<- e1] at hlr;refine hlr.bind λv6 h6=>?_;have hlE:lrd p (ev p (i:Int)).Thread (ev p (i:Int)).Index (zS p (i:Int)).Reg=lrE p (i:Int):=rfl;rw [hlE] at h6;subst h6;refine .bifD (λhr => .pure (by rw [if_pos hr])) λhr=>?_;rw [if_neg hr];have hst:Stp p x (i:Int) (x.1.getD (lrE p (i:Int)).toNat default):=⟨h0,h3,hr,rfl⟩;have hd:=(hst.dom hp C ⟨by omega,by omega⟩).1;rcases Ea (p:=p) (ev p (i:Int)).Thread (ev p (i:Int)).Index (zS p (i:Int)).Reg with ⟨g1,_⟩ | ⟨r,g1,g2,_,_⟩
 ·exact absurd (show lrE p (i:Int)<0 by rw [<- hlE];omega) hr
 rw [hlE] at g2;exact .gdD ⟨by omega,by rw [C.flen];omega⟩ (.gdD ⟨hd.1,by rw [hK];exact hd.2⟩ (.pure rfl))
def Kn (p:List (List Px)) (x:XS) (K:LI):Prop:=K.length=(evs p).length/\∀ i:Nat,i<(evs p).length->K.getD i default = -1\/Chn p x (i:Int) (K.getD i default)
def Dn (p:List (List Px)) (x:XS) (K:LI) (n:Nat):Prop:=∀ (i:Nat) (v:Int) (h:Nat),i<(evs p).length->(ev p (i:Int)).az=true->HC p x (i:Int) v h->h<n->K.getD i default=v
theorem Nf (hp:PV p) (C:Cand p x F) {K:LI} (hK:Kn p x K) {i:Nat} (hi:i<(evs p).length):wv p x K (i:Int) = -1\/Chn p x (i:Int) (wv p x K (i:Int)):=by
 unfold wv
 split
 ·rename_i h;exact .inr (.ini h)
 rename_i h
 split
 ·rename_i h3;exact .inr (.val h h3)
 rename_i h3;have h3:(zS p (i:Int)).Op=3:=Decidable.not_not.1 h3
 split
 ·rename_i hr;exact .inr (.zer h h3 hr)
 rename_i hr;have hst:Stp p x (i:Int) (x.1.getD (lrE p (i:Int)).toNat default):=⟨h,h3,hr,rfl⟩;have hd:=(hst.dom hp C ⟨by omega,by omega⟩).1;rcases hK.2 (x.1.getD (lrE p (i:Int)).toNat default).toNat (by omega) with e | e
 ·exact .inl e
 rw [Vf hd.1] at e;exact .inr (.nxt hst e)
theorem IG (hp:PV p) (C:Cand p x F) {K:LI} {n:Nat} (hD:Dn p x K n) {i:Nat} (hi:i<(evs p).length) {v:Int} {h:Nat} (hc:HC p x (i:Int) v h) (hn:h<n+1):wv p x K (i:Int)=v:=by
 unfold wv
 cases hc with
 | ini h=>rw [if_pos h]
 | val h h3=>rw [if_neg h,if_pos h3]
 | zer h h3 hr=>rw [if_neg h,if_neg (λe=>e h3),if_pos hr]
 | @nxt _ j v m h c=>
  have hd:=h.dom hp C ⟨by omega,by omega⟩;obtain ⟨g1,g2,g3,g4⟩:=h;rw [if_neg g1,if_neg (λe=>e g2),if_neg g3,<- g4];refine hD _ _ m (by omega) ?_ (show HC p x _ v m from ?_) (by omega)
  ·rw [Vf hd.1.1];exact hd.2
  rw [Vf hd.1.1];exact c
theorem Ng (hp:PV p) (C:Cand p x F) {K:LI} {n:Nat} (hK:Kn p x K) (hD:Dn p x K n):PE (loopO (gZ p ⟨x.1,x.2⟩ (evs p)) (K,(0:Int))) λq=>Kn p x q/\Dn p x q (n+1):=by
 have hel:=jo hp.vs;refine PE.loop (λz=>∃ k:Nat,k<=(evs p).length/\z.2=(k:Int)/\Kn p x z.1/\Dn p x z.1 n/\∀ (i:Nat) (v:Int) (h:Nat),i<k->(ev p (i:Int)).az=true->HC p x (i:Int) v h->h<n+1->z.1.getD i default=v) (λz=>(((evs p).length:Int)-z.2).toNat) ⟨0,by omega,rfl,hK,hD,λi v h hi=>absurd hi (by omega)⟩ λz ⟨k,k1,k2,k3,k4,k5⟩ => ?_;obtain ⟨L,zk⟩:=z;simp only at k2 k3 k4 k5;subst k2;unfold gZ;have ek:(evs p).getD k default=ev p (k:Int):=by unfold ev;rw [tnn]
 simp only [tnn,ek];refine .bifD (λhk=>?_) λhk => .pure ⟨k3,λi v h hi hw hc hn=>k5 i v h (by omega) hw hc hn⟩;refine PE.bind (P:=λq=>Kn p x q/\Dn p x q n/\∀ (i:Nat) (v:Int) (h:Nat),i<k+1->(ev p (i:Int)).az=true->HC p x (i:Int) v h->h<n+1->q.getD i default=v) (.gdD ⟨by omega,hk⟩ (.bif (λhw=>?_) λhw => .pure ⟨k3,k4,λi v h hi hwi hc hn=>?_⟩)) λq ⟨q1,q2,q3⟩ => .gdI (by omega) (.pure ⟨⟨k+1,by omega,rfl,q1,q2,q3⟩,by simp only [];omega⟩)
 ·refine (LH hp C k3.1 (i:=k) (by omega)).bind λw hw' => .gdD ⟨by omega,by rw [k3.1];exact hk⟩ (.pure ?_);subst hw';have hget:∀ i:Nat,(L.set k (wv p x L (k:Int))).getD i default=if i=k then wv p x L (k:Int) else L.getD i default:=λi=>by
   rw [gdq,List.getElem?_set,gdq]
   by_cases e:i=k
   ·subst e;rw [if_pos rfl,if_pos (by rw [k3.1];omega),if_pos rfl]
    rfl
   rw [if_neg (Ne.symm e),if_neg e]
  refine ⟨⟨by rw [List.length_set];exact k3.1,λi hi=>?_⟩,λi v h hi hwi hc hn=>?_,λi v h hi hwi hc hn=>?_⟩
  ·rw [hget]
   split
   ·rename_i e;subst e;exact Nf hp C k3 hi
   exact k3.2 i hi
  ·rw [hget]
   split
   ·rename_i e;subst e;exact IG hp C k4 hi hc (by omega)
   exact k4 i v h hi hwi hc hn
  rw [hget]
  split
  ·rename_i e;subst e;exact IG hp C k4 (by omega) hc hn
  exact k5 i v h (by omega) hwi hc hn
 by_cases e:i=k
 ·subst e;rw [hwi] at hw
  cases hw
 exact k5 i v h (by omega) hwi hc hn
theorem JQ (hp:PV p) (C:Cand p x F):PE (dM p ⟨x.1,x.2⟩) λq=>(q.2=true->q.1.length=(evs p).length/\∀ i:Nat,i<(evs p).length->(ev p (i:Int)).az=true->Chn p x (i:Int) (q.1.getD i default))/\(q.2=false->∃ i:Nat,i<(evs p).length/\(ev p (i:Int)).az=true/\∀ v,¬ Chn p x (i:Int) v):=by
 have hel:=jo hp.vs;unfold dM;refine (xI hp.vs).bind λv1 h1=>?_;subst h1;refine PE.bind (P:=(· = List.replicate (evs p).length (-1:Int))) ?_ λK0 hK0=>PE.bind (P:=λK=>Kn p x K/\Dn p x K (evs p).length) ?_ λK ⟨hK,hD⟩ => ?_
 ·refine PE.loop (λz=>∃ n:Nat,n<=(evs p).length/\z=(List.replicate n (-1:Int),(n:Int))) (λz=>(((evs p).length:Int)-z.2).toNat) ⟨0,by omega,rfl⟩ λz ⟨n,n1,n2⟩ => ?_;subst n2;unfold mq;simp only [];refine .bifD (λhk => .gd (aI (by rw [List.length_replicate];omega) rfl) (.gdI (by omega) (.pure ⟨⟨n+1,by omega,?_⟩,by simp only [];omega⟩))) λhk => .pure (by rw [show n=(evs p).length by omega]);rw [List.replicate_succ']
  rfl
 ·subst hK0;refine PE.loop (λz=>∃ n:Nat,n<=(evs p).length/\z.2=(n:Int)/\Kn p x z.1/\Dn p x z.1 n) (λz=>(((evs p).length:Int)-z.2).toNat) ⟨0,by omega,rfl,⟨by simp,λi hi => .inl ?_⟩,λi v h _ _ _ hn=>absurd hn (by omega)⟩ λz ⟨n,n1,n2,n3,n4⟩ => ?_
  ·simp only [];rw [gdq,List.getElem?_replicate,if_pos hi]
   rfl
  obtain ⟨L,zn⟩:=z;simp only at n2 n3 n4;subst n2;unfold lF;simp only [];exact .bifD (λhk=>(Ng hp C n3 n4).bind λq ⟨q1,q2⟩ => .gdI (by omega) (.pure ⟨⟨n+1,by omega,by simp,q1,q2⟩,by simp only [];omega⟩)) λhk => .pure ⟨n3,by rw [<- show n=(evs p).length by omega];exact n4⟩
 refine PE.sum (PS:=λ_=>∀ i:Nat,i<(evs p).length->(ev p (i:Int)).az=true -> ¬ K.getD i default<0) (PW:=λq:List Int×Bool=>(q.2=true->q.1.length=(evs p).length/\∀ i:Nat,i<(evs p).length->(ev p (i:Int)).az=true->Chn p x (i:Int) (q.1.getD i default))/\(q.2=false->∃ i:Nat,i<(evs p).length/\(ev p (i:Int)).az=true/\∀ v,¬ Chn p x (i:Int) v)) ?_ λ_ h => .pure ⟨λ_=>⟨hK.1,λi hi hw=>?_⟩,λe=>by cases e⟩
 ·refine PE.loop (λz=>∃ n:Nat,n<=(evs p).length/\z=(n:Int)/\∀ i:Nat,i<n->(ev p (i:Int)).az=true -> ¬ K.getD i default<0) (λz=>(((evs p).length:Int)-z).toNat) ⟨0,by omega,rfl,λi hi=>absurd hi (by omega)⟩ λz ⟨n,n1,n2,n3⟩ => ?_;subst n2;unfold qg;have en:(evs p).getD n default=ev p (n:Int):=by unfold ev;rw [tnn]
  simp only [tnn,en];refine .bifD (λhk => .gdD ⟨by omega,hk⟩ (PE.bind (P:=(· = ((ev p (n:Int)).az&&decide (K.getD n default<0)))) (.bif (λh => .gdD ⟨by omega,by rw [hK.1];exact hk⟩ (.pure (by rw [h,U6]))) λh => .pure (by rw [h];rfl)) λv hv => .bif (λh => .pure ⟨λe=>(by cases e),λ_=>⟨n,by omega,?_⟩⟩) λh => .gdI (by omega) (.pure ⟨⟨n+1,by omega,rfl,λi hi hw=>?_⟩,by omega⟩))) λhk => .pure λi hi=>n3 i (by omega)
  ·rw [hv,bae,dte] at h;refine ⟨h.1,λv hc=>?_⟩;obtain ⟨m,m1,m2⟩:=hc.hc hp C ⟨by omega,by omega⟩;have := hD n v m (by omega) h.1 m2 m1;have := (hc.rng hp C ⟨by omega,by omega⟩).1;omega
  by_cases e:i=n
  ·subst e;rw [hv,hw,U6] at h;exact of_decide_eq_false h
  exact n3 i (by omega) hw
 rcases hK.2 i hi with e | e
 ·exact absurd (by rw [e];decide) (h i hi hw)
 exact e
theorem xM (hp:PV p) (C:Cand p x F):∃ (V W:LI) (b:Bool),cT p ⟨x.1,x.2⟩=some (V,b)/\dM p ⟨x.1,x.2⟩=some (W,b)/\(b=true->V.length=(evs p).length/\W.length=(evs p).length/\∀ i:Nat,i<(evs p).length->(ev p (i:Int)).az=true->Chn p x (i:Int) (V.getD i default)/\W.getD i default=V.getD i default):=by
 obtain ⟨⟨V,b⟩,h1,h2,h3⟩:=JP hp C;obtain ⟨⟨W,c⟩,g1,g2,g3⟩:=JQ hp C;have e:c=b:=by
  cases b <;> cases c
  ·rfl
  ·obtain ⟨i,i1,i2,i3⟩:=h3 rfl;exact absurd i3 ((g2 rfl).2 i i1 i2).not_cyc
  ·obtain ⟨i,i1,i2,i3⟩:=g3 rfl;exact absurd ((h2 rfl).2 i i1 i2) (i3 _)
  rfl
 subst e;refine ⟨V,W,c,h1,g1,λe=>⟨(h2 e).1,(g2 e).1,λi hi hw=>⟨(h2 e).2 i hi hw,?_⟩⟩⟩;exact ((g2 e).2 i hi hw).det ((h2 e).2 i hi hw)
end
theorem xO (x lo hi:Int):PE (jZ x lo hi) (· = (decide (lo<=x)&&decide (x<=hi))):=by
 unfold jZ;refine PE.bind (P:=(· = (decide (lo<=x)&&decide (x<=hi)))) ?_ λv hv => .pure hv;refine .bifD (λh => .pure ?_) λh => .pure ?_
 ·simp [h]
 simp [h]
theorem JR {l:List ByteArray} (hl:l.length<=1000) (s:ByteArray):PE (bP l s) λr=>0<=r↔s∈l:=by
 unfold bP;refine PE.sum (PS:=λ_=>s∉l) (PW:=λr:Int=>0<=r↔s∈l) ?_ λ_ hn => .pure ⟨λh=>absurd h (by decide),λh=>absurd h hn⟩;refine PE.loop (λz=>∃ i:Nat,i<=l.length/\z=(i:Int)/\∀ j,j<i->l.getD j default≠s) (λz=>((l.length:Int)-z).toNat) ⟨0,by omega,rfl,λj hj=>by omega⟩ λz ⟨i,h1,h2,h3⟩ => ?_;subst h2;unfold gz;simp only [tnn];refine .bifD (λhk => .gdD ⟨by omega,hk⟩ (.bifD (λhe => .pure ⟨λ_=>?_,λ_=>by omega⟩) λhe => .gdI (by omega) (.pure ⟨⟨i+1,by omega,rfl,λj hj=>?_⟩,by omega⟩))) λhk => .pure ?_
 ·rw [he];exact getD_in (by omega)
 ·by_cases e:j=i
  ·subst e;exact λh=>he h.symm
  exact h3 j (by omega)
 intro hm;obtain ⟨j,hj,rfl⟩:=U7 hm;refine h3 j (by omega) ?_;rw [gdq,geq hj]
 rfl
def nmB (s:ByteArray):Bool:=(zL).any λt=>decide (t=s)
theorem CZ {s:ByteArray}:nmB s=true↔s∈zL:=by
 unfold nmB;rw [List.any_eq_true];exact ⟨λ⟨t,h1,h2⟩=>of_decide_eq_true h2 ▸ h1,λh=>⟨s,h,decide_eq_true rfl⟩⟩
theorem KA (s:ByteArray):PE (iD s) (· = nmB s):=by
 unfold iD cn;exact PE.bind (P:=(· = nmB s)) ((JR (by decide) s).bind λv hv => .pure (by rw [Bool.eq_iff_iff,dte,CZ];exact hv)) λv hv => .pure hv
theorem Nh (s:ByteArray):PE (kG s) (· = nmB s):=by
 unfold kG qX;refine PE.bind (P:=(· = zL)) (.pure rfl) λl hl=>?_;subst hl;refine PE.sum (PS:=λ_=>s∉zL) (PW:=(· = nmB s)) ?_ λ_ hn => .pure (Vm.2 λh=>hn (CZ.1 h)).symm;have hlen:(zL).length=10:=rfl;refine PE.loop (λz=>∃ i:Nat,i<=10/\z=(i:Int)/\∀ j,j<i->(zL).getD j default≠s) (λz=>((10:Int)-z).toNat) ⟨0,by omega,rfl,λj hj=>by omega⟩ λz ⟨i,h1,h2,h3⟩ => ?_;subst h2;unfold rJ;simp only [tnn,hlen];refine .bifD (λhk => .gdD ⟨by omega,hk⟩ (.bifD (λhe => .pure ?_) λhe => .gdI (by omega) (.pure ⟨⟨i+1,by omega,rfl,λj hj=>?_⟩,by omega⟩))) λhk => .pure ?_
 ·exact (CZ.2 (by rw [<- he];exact getD_in (by rw [hlen];omega))).symm
 ·by_cases e:j=i
  ·subst e;exact he
  exact h3 j (by omega)
 intro hm;obtain ⟨j,hj,rfl⟩:=U7 hm;refine h3 j (by rw [hlen] at hj;omega) ?_;rw [gdq,geq hj]
 rfl
def Gw (op:Int):Int:=if op=1 then 0 else if op=2\/op=3\/op=4\/op=5 then 2 else if op=6\/op=7 then 1 else -1
theorem LJ (op:Int):PE (mF op) λv=>v.2.2=Gw op:=by
 unfold mF Gw;refine .bif (λh => .pure (by rw [if_pos (eq_of_beq h)])) λh1=>?_;have h1:op≠1:=by simpa using h1
 rw [if_neg h1];refine .bif (λh => .pure (by rw [if_pos (.inl (eq_of_beq h))])) λh2=>?_;refine .bif (λh => .pure (by rw [if_pos (.inr (.inl (eq_of_beq h)))])) λh3=>?_;refine .bif (λh => .pure (by rw [if_pos (.inr (.inr (.inl (eq_of_beq h))))])) λh4=>?_;refine .bif (λh => .pure (by rw [if_pos (.inr (.inr (.inr (eq_of_beq h))))])) λh5=>?_;have h2:op≠2:=by simpa using h2
 have h3:op≠3:=by simpa using h3
 have h4:op≠4:=by simpa using h4
 have h5:op≠5:=by simpa using h5
 rw [if_neg (by omega)];refine .bif (λh => .pure (by rw [if_pos (.inl (eq_of_beq h))])) λh6=>?_;refine .bif (λh => .pure (by rw [if_pos (.inr (eq_of_beq h))])) λh7=>?_;have h6:op≠6:=by simpa using h6
 have h7:op≠7:=by simpa using h7
 rw [if_neg (by omega)];exact .pure rfl
theorem Ni (op:Int):PE (mo op) (· = Gw op):=by
 unfold mo Gw;refine .bif (λh => .pure (by rw [if_pos (eq_of_beq h)])) λh1=>?_;have h1:op≠1:=by simpa using h1
 rw [if_neg h1];refine PE.bind (P:=(· = decide (op=2\/op=3\/op=4\/op=5))) ?_ λv hv => .bif (λh => .pure (by rw [if_pos (of_decide_eq_true (by rw [<- hv];exact h))])) λh=>?_
 ·refine .bif (λh => .pure ?_) λh2 => .bif (λh => .pure ?_) λh3 => .bif (λh => .pure ?_) λh4 => .pure ?_
  ·rw [h];exact (decide_eq_true (.inl (eq_of_beq h))).symm
  ·rw [h];exact (decide_eq_true (.inr (.inl (eq_of_beq h)))).symm
  ·rw [h];exact (decide_eq_true (.inr (.inr (.inl (eq_of_beq h))))).symm
  have h2:op≠2:=by simpa using h2
  have h3:op≠3:=by simpa using h3
  have h4:op≠4:=by simpa using h4
  rw [CM];exact decide_eq_decide.2 (by omega)
 rw [if_neg (of_decide_eq_false (by rw [<- hv];exact h))];refine PE.bind (P:=(· = decide (op=6\/op=7))) ?_ λv hv => .bif (λh => .pure (by rw [if_pos (of_decide_eq_true (by rw [<- hv];exact h))])) λh => .pure (by rw [if_neg (of_decide_eq_false (by rw [<- hv];exact h))]);refine .bif (λh => .pure ?_) λh6 => .pure ?_
 ·rw [h];exact (decide_eq_true (.inl (eq_of_beq h))).symm
 have h6:op≠6:=by simpa using h6
 rw [CM];exact decide_eq_decide.2 (by omega)
theorem LK (op:Int):Gw op<=2:=by
 unfold Gw
 split
 ·omega
 split
 ·omega
 split <;> omega
def okE (e:aa):Bool:=decide ((e.Kids.length:Int)=Gw e.Op)&&(decide (e.Op=1)==nmB e.Name)&&(decide (e.Op=1)||decide (e.Name=⟨#[]⟩))
theorem C0 {e:aa} (h:okE e=true):e.Kids.length<=2:=by
 unfold okE at h;simp only [bae,dte] at h;have := LK e.Op;omega
def szF (f:TXimpl_RelExpr->Int) (c:Int) (k:TXimpl_RelExpr):Int:=if 40<c then c else c+f k
def szD:Nat->TXimpl_RelExpr->Int
 | 0,_=>41
 | d+1,t=>if okE t.out=true then t.out.Kids.foldl (szF (szD d)) 1 else 41
def shD:Nat->TXimpl_RelExpr->Bool
 | 0,_=>false
 | d+1,t=>okE t.out&&t.out.Kids.all (shD d)
def Ci:Nat->TXimpl_RelExpr->Int
 | 0,_=>0
 | d+1,t=>t.out.Kids.foldl (λc k=>c+Ci d k) 1
def ctF (f:TXimpl_RelExpr->Int->Int) (most:Int) (n:Int) (k:TXimpl_RelExpr):Int:=if n<=most then n+f k (most-n) else n
def ctD:Nat->TXimpl_RelExpr->Int->Int
 | 0,_,_=>0
 | d+1,t,most=>t.out.Kids.foldl (ctF (ctD d) most) 1
theorem AK {f:TXimpl_RelExpr->Int} (h:∀ k,0<=f k):∀ (l:List TXimpl_RelExpr) (c:Int),c<=l.foldl (λc k=>c+f k) c
 | [],_=>Vg _
 | k::l,c=>by
  have := AK h l (c+f k);have := h k;simp only [U9];omega
theorem uG:∀ (d:Nat) (t:TXimpl_RelExpr),0<=Ci d t
 | 0,_=>Vg _
 | d+1,t=>by
  have := AK (uG d) t.out.Kids 1;rw [Ci];omega
theorem ET {f:TXimpl_RelExpr->Int}:∀ (l:List TXimpl_RelExpr) (c:Int),40<c->l.foldl (szF f) c=c
 | [],_,_=>rfl
 | k::l,c,h=>by
  rw [U9,szF,if_pos h];exact ET l c h
theorem II:∀ (d:Nat) (t:TXimpl_RelExpr),0<=szD d t/\szD d t<=41+40*(d:Int)/\(szD d t<=40↔shD d t=true/\Ci d t<=40)/\(szD d t<=40->szD d t=Ci d t)
 | 0,t=>by refine ⟨?_,?_,?_,?_⟩ <;> simp [szD,shD]
 | d+1,t=>by
  have key:∀ (l:List TXimpl_RelExpr) (c:Int),0<=c->c<=40->(0<=l.foldl (szF (szD d)) c/\l.foldl (szF (szD d)) c<=81+40*(d:Int)/\(l.foldl (szF (szD d)) c<=40↔l.all (shD d)=true/\l.foldl (λc k=>c+Ci d k) c<=40)/\(l.foldl (szF (szD d)) c<=40->l.foldl (szF (szD d)) c=l.foldl (λc k=>c+Ci d k) c)):=by
   intro l
   induction l with
   | nil=>intro c h0 h;refine ⟨h0,?_,?_,?_⟩ <;> simp <;> omega
   | cons k l ih=>
    intro c h0 h;obtain ⟨i1,i2,i3,i4⟩:=II d k;have hp:=uG d k;simp only [U9,Vh,bae];rw [szF,if_neg (by omega)]
    by_cases hb:40<c+szD d k
    ·rw [ET l _ hb];refine ⟨by omega,by omega,⟨λh=>absurd h (by omega),λ⟨⟨g1,_⟩,g2⟩ => ?_⟩,λh=>absurd h (by omega)⟩;have hg:=AK (uG d) l (c+Ci d k);have := i4 (i3.2 ⟨g1,by omega⟩);omega
    have e:=i4 (by omega);have s:=(i3.1 (by omega)).1;obtain ⟨j1,j2,j3,j4⟩:=ih (c+szD d k) (by omega) (by omega);rw [e] at j1 j2 j3 j4 ⊢;exact ⟨j1,j2,⟨λh=>⟨⟨s,(j3.1 h).1⟩,(j3.1 h).2⟩,λh=>j3.2 ⟨h.1.2,h.2⟩⟩,j4⟩
  rw [szD,shD,Ci]
  by_cases ho:okE t.out=true
  ·rw [if_pos ho,ho,U6];obtain ⟨k1,k2,k3,k4⟩:=key t.out.Kids 1 (by omega) (by omega);exact ⟨k1,by omega,k3,k4⟩
  rw [if_neg ho,show okE t.out=false by simpa using ho,Bool.false_and];exact ⟨by omega,by omega,⟨λh=>absurd h (by omega),λh=>absurd h.1 (by simp)⟩,λh=>absurd h (by omega)⟩
theorem C8 {f:TXimpl_RelExpr->Int->Int} {most:Int}:∀ (l:List TXimpl_RelExpr) (c:Int),most<c->l.foldl (ctF f most) c=c
 | [],_,_=>rfl
 | k::l,c,h=>by
  rw [U9,ctF,if_neg (by omega)];exact C8 l c h
theorem IJ:∀ (d:Nat) (t:TXimpl_RelExpr) (most:Int),shD d t=true->1<=ctD d t most/\ctD d t most<=Ci d t/\(ctD d t most<=most->ctD d t most=Ci d t)
 | 0,_,_,h=>by simp [shD] at h
 | d+1,t,most,h=>by
  rw [shD,bae] at h;have key:∀ (l:List TXimpl_RelExpr) (c:Int),l.all (shD d)=true->1<=c->(1<=l.foldl (ctF (ctD d) most) c/\l.foldl (ctF (ctD d) most) c<=l.foldl (λc k=>c+Ci d k) c/\(l.foldl (ctF (ctD d) most) c<=most->l.foldl (ctF (ctD d) most) c=l.foldl (λc k=>c+Ci d k) c)):=by
   intro l
   induction l with
   | nil=>intro c _ h;exact ⟨h,Vg _,λ_=>rfl⟩
   | cons k l ih=>
    intro c ha h;rw [Vh,bae] at ha;obtain ⟨i1,i2,i3⟩:=IJ d k (most-c) ha.1;simp only [U9];rw [ctF]
    by_cases hm:c<=most
    ·rw [if_pos hm];obtain ⟨j1,j2,j3⟩:=ih (c+ctD d k (most-c)) ha.2 (by omega)
     by_cases hb:ctD d k (most-c)<=most-c
     ·rw [i3 hb] at j1 j2 j3 ⊢;exact ⟨j1,j2,j3⟩
     rw [C8 l _ (by omega)];have := AK (uG d) l (c+Ci d k);exact ⟨by omega,by omega,λh=>absurd h (by omega)⟩
    rw [if_neg hm,C8 l _ (by omega)];have := AK (uG d) l (c+Ci d k);have := uG d k;exact ⟨by omega,by omega,λh=>absurd h (by omega)⟩
  rw [ctD,Ci];exact key t.out.Kids 1 h.2 (by omega)
def vaE (t:TXimpl_RelExpr):Bool:=shD 12 t&&decide (Ci 12 t<=40)
theorem Cj {α:Type} [Inhabited α] {f:Int->α->Int} {l:List α} {i:Nat} (h:i<l.length) (c:Int):(l.take (i+1)).foldl f c=f ((l.take i).foldl f c) (l.getD i default):=by
 rw [List.take_add_one,geq h];simp only [Option.toList_some,Vn,U9,Vi];rw [gdq,geq h]
 rfl
theorem Nj (t:TXimpl_RelExpr):(⟨t.out.Op,t.out.Name,t.out.Kids⟩:aa)=t.out:=rfl
theorem KC {e:aa} {d:Nat} {v:Int} (hv:v=Gw e.Op):PE (bif ((d:Int)==(0:Int)) then some true else bif ((e.Kids.length:Int) != v) then some true else U5 (iD e.Name) λv6=>bif (!((e.Op==(1:Int))==v6)) then some true else bif (e.Op != (1:Int)) then some (!decide (e.Name=(⟨#[]⟩:ByteArray))) else some false) (· = !(decide (d≠0)&&okE e)):=by
 subst hv;refine .bif (λh => .pure ?_) λh0 => .bif (λh => .pure ?_) λh1=>(KA e.Name).bind λw hw=>?_
 ·rw [decide_eq_false (λe=>e (by have := eq_of_beq h;omega))];rfl
 ·unfold okE;rw [decide_eq_false (show ¬ (e.Kids.length:Int)=Gw e.Op by simpa using h)];simp
 subst hw;have hd:d≠0:=λe=>by subst e;simp at h0
 have h1:(e.Kids.length:Int)=Gw e.Op:=by simpa using h1
 unfold okE;rw [decide_eq_true hd,decide_eq_true h1,CM];refine .bif (λh => .pure ?_) λh => .bif (λh2 => .pure ?_) λh2 => .pure ?_
 ·rw [show (decide (e.Op=1)==nmB e.Name)=false by simpa using h];rfl
 ·rw [show (decide (e.Op=1)==nmB e.Name)=true by simpa using h,decide_eq_false (show ¬ e.Op=1 by simpa using h2)];simp
 rw [show (decide (e.Op=1)==nmB e.Name)=true by simpa using h,decide_eq_true (show e.Op=1 by simpa using h2)]
 rfl
theorem KD:∀ (d n:Nat) (t:TXimpl_RelExpr),d<n->d<=12->PE (eP n t.out (d:Int)) (· = szD d t)
 | d,0,_,h,_=>absurd h (Vj _)
 | d,n+1,t,h,h12=>by
  show PE (kW (eP n) t.out (d:Int)) _;unfold kW;refine (LJ t.out.Op).bind λv hv=>?_;refine PE.sum (PS:=λ_=>d≠0/\okE t.out=true) (PW:=(· = szD d t)) ((KC hv).bind λb hb => .bif (λh => .pure ?_) λh => .pure ?_) λ_ ⟨hd,ho⟩ => ?_
  ·rw [hb] at h;show (41:Int)=szD d t
   cases d with
   | zero=>rfl
   | succ d=>
    rw [szD,if_neg];intro ho;rw [ho] at h;simp at h
  ·rw [hb] at h;simpa using h
  obtain ⟨d,rfl⟩:∃ c,d=c+1:=⟨d-1,by omega⟩;have hk:=C0 ho;rw [szD,if_pos ho];refine PE.bind (P:=(· = t.out.Kids.foldl (szF (szD d)) 1)) ?_ λv hv => .pure hv;refine PE.loop (λz=>∃ i:Nat,i<=t.out.Kids.length/\z=((i:Int),(t.out.Kids.take i).foldl (szF (szD d)) 1)/\(t.out.Kids.take i).foldl (szF (szD d)) 1<=40/\0<=(t.out.Kids.take i).foldl (szF (szD d)) 1) (λz=>((t.out.Kids.length:Int)-z.1).toNat) ⟨0,by omega,rfl,by simp,by simp⟩ λz ⟨i,i1,i2,i3,i4⟩ => ?_;subst i2;unfold qO;simp only [tnn];refine .bifD (λhlt=>?_) λhlt => .pure ?_
  ·have hil:i<t.out.Kids.length:=by omega
   have ht:=Cj (f:=szF (szD d)) hil 1;rw [szF,if_neg (by omega)] at ht;obtain ⟨b1,b2,_,_⟩:=II d (t.out.Kids.getD i default);refine .gdD ⟨by omega,hlt⟩ (.gdI (by omega) ?_);rw [Nj,show ((d+1:Nat):Int)-1=(d:Int) by omega];refine (KD d n _ (by omega) (by omega)).bind λv hv=>?_;subst hv;refine .gdI (by omega) (.bifD (λhb => .pure ?_) λhb => .gdI (by omega) (.pure ⟨⟨i+1,by omega,by rw [ht];rfl,by rw [ht];omega,by rw [ht];omega⟩,by simp only [];omega⟩));show _=t.out.Kids.foldl (szF (szD d)) 1;have e:=Vt (i+1) t.out.Kids
   conv=>rhs;rw [<- e,Vn,ht,ET _ _ hb]
  show _=t.out.Kids.foldl (szF (szD d)) 1;rw [Vk (by omega)]
theorem Nk (t:TXimpl_RelExpr):PE (ic t.out) (· = vaE t):=by
 unfold ic;refine PE.bind (P:=(· = szD 12 t)) (kx 12 λm hm=>KD 12 m t hm (by omega)) λv hv => .pure ?_;subst hv;unfold vaE;rw [Bool.eq_iff_iff,bae,dte,dte];exact (II 12 t).2.2.1
theorem IK:∀ (d n:Nat) (t:TXimpl_RelExpr),d<n->d<=12->PE (eH n t.out (d:Int)) (· = shD d t)
 | d,0,_,h,_=>absurd h (Vj _)
 | d,n+1,t,h,h12=>by
  show PE (kQ (eH n) t.out (d:Int)) _;unfold kQ;have test:PE (bif decide ((d:Int)<(1:Int)) then some true else U5 (mo t.out.Op) λv4=>bif ((t.out.Kids.length:Int) != v4) then some true else U5 (kG t.out.Name) λv6=>bif (!((t.out.Op==(1:Int))==v6)) then some true else bif (t.out.Op != (1:Int)) then some (!decide (t.out.Name=(⟨#[]⟩:ByteArray))) else some false) (· = !(decide (d≠0)&&okE t.out)):=by
   refine .bifD (λh => .pure ?_) λh0=>(Ni _).bind λv4 h4=>?_
   ·rw [decide_eq_false (λe=>e (by omega))];rfl
   have hh:=KC (e:=t.out) (d:=d) h4;rw [show ((d:Int)==(0:Int))=false from (CM _ _).trans (decide_eq_false (by omega))] at hh;obtain ⟨w,w1,w2⟩:=KA t.out.Name;obtain ⟨w',w1',w2'⟩:=Nh t.out.Name;rw [w1] at hh;rw [w1',w2',<- w2];exact hh
  refine PE.sum (PS:=λ_=>d≠0/\okE t.out=true) (PW:=(· = shD d t)) (test.bind λb hb => .bif (λh => .pure ?_) λh => .pure ?_) λ_ ⟨hd,ho⟩ => ?_
  ·rw [hb] at h;show false=shD d t
   cases d with
   | zero=>rfl
   | succ d=>
    rw [shD]
    cases ho:okE t.out
    ·rfl
    rw [ho] at h;simp at h
  ·rw [hb] at h;simpa using h
  obtain ⟨d,rfl⟩:∃ c,d=c+1:=⟨d-1,by omega⟩;have hk:=C0 ho;rw [shD,ho,U6];refine PE.sum (PS:=λ_=>t.out.Kids.all (shD d)=true) (PW:=(· = t.out.Kids.all (shD d))) ?_ λ_ h => .pure h.symm;refine PE.loop (λz=>∃ i:Nat,i<=t.out.Kids.length/\z=(i:Int)/\∀ j,j<i->shD d (t.out.Kids.getD j default)=true) (λz=>((t.out.Kids.length:Int)-z).toNat) ⟨0,by omega,rfl,λj hj=>absurd hj (by omega)⟩ λz ⟨i,i1,i2,i3⟩ => ?_;subst i2;unfold qK;simp only [tnn];refine .bifD (λhlt=>?_) λhlt => .pure ?_
  ·refine .gdD ⟨by omega,hlt⟩ (.gdI (by omega) ?_);rw [show ((d+1:Nat):Int)-1=(d:Int) by omega];refine (IK d n _ (by omega) (by omega)).bind λv hv => .bif (λhb => .pure ?_) λhb => .gdI (by omega) (.pure ⟨⟨i+1,by omega,rfl,λj hj=>?_⟩,by omega⟩)
   ·show false=_
    symm
    rw [Vm];intro ha;have := U8.1 ha _ (getD_in (show i<t.out.Kids.length by omega));rw [<- hv] at this;rw [this] at hb
    cases hb
   by_cases e:j=i
   ·subst e;rw [<- hv];simpa using hb
   exact i3 j (by omega)
  show t.out.Kids.all (shD d)=true;rw [U8];intro k hkm;obtain ⟨j,hj,rfl⟩:=U7 hkm;have := i3 j (by omega)
  rwa [gdq,geq hj] at this
theorem C9:∀ (d:Nat) (t:TXimpl_RelExpr),shD d t=true->Ci d t<3 ^ d
 | 0,_,h=>by simp [shD] at h
 | d+1,t,h=>by
  rw [shD,bae] at h;have hk:=C0 h.1;have hp:(1:Int)<=3 ^ d:=by
   have := Vu (n:=3) (by omega) (Nat.zero_le d);have e:(3:Int) ^ d=((3 ^ d:Nat):Int):=by simp
   rw [e];omega
  rw [Ci,Int.pow_succ]
  match t.out.Kids,hk,h.2 with
  | [],_,_=>simp only [Vi];omega
  | [a],_,h2=>
   have := C9 d a (by simpa using h2);simp only [U9,Vi];omega
  | [a,b],_,h2=>
   simp only [Vh,List.all_nil,Bool.and_true,bae] at h2;have := C9 d a h2.1;have := C9 d b h2.2;simp only [U9,Vi];omega
  | a::b::c::l,hk,_=>simp at hk
theorem Nl:∀ (d n:Nat) (t:TXimpl_RelExpr) (most:Int),d<n->d<=12->shD d t=true->0<=most->most<=40->PE (eM n t.out most) (· = ctD d t most)
 | d,0,_,_,h,_,_,_,_=>absurd h (Vj _)
 | 0,_+1,_,_,_,_,h,_,_=>by simp [shD] at h
 | d+1,n+1,t,most,h,h12,hs,h0,h40=>by
  show PE (kR (eM n) t.out most) _;unfold kR;have hs':=hs;rw [shD,bae] at hs;have hk:=C0 hs.1;rw [ctD];refine PE.bind (P:=(· = t.out.Kids.foldl (ctF (ctD d) most) 1)) ?_ λv hv => .pure hv;refine PE.loop (λz=>∃ i:Nat,i<=t.out.Kids.length/\z=((i:Int),(t.out.Kids.take i).foldl (ctF (ctD d) most) 1)/\0<=(t.out.Kids.take i).foldl (ctF (ctD d) most) 1) (λz=>((t.out.Kids.length:Int)-z.1).toNat) ⟨0,by omega,rfl,by simp⟩ λz ⟨i,i1,i2,i4⟩ => ?_;subst i2;unfold rK;simp only [tnn];refine PE.bind (P:=(· = decide (i<t.out.Kids.length/\(t.out.Kids.take i).foldl (ctF (ctD d) most) 1<=most))) (.bifD (λhlt => .pure (decide_eq_decide.2 ⟨λh=>⟨by omega,h⟩,λh=>h.2⟩)) λhlt => .pure (decide_eq_false (by omega)).symm) λb hb => .bif (λhbt=>?_) λhbf => .pure ?_
  ·obtain ⟨hil,hle⟩:=of_decide_eq_true (hb.symm.trans hbt);have ht:=Cj (f:=ctF (ctD d) most) hil 1;rw [ctF,if_pos hle] at ht;have hsk:=U8.1 hs.2 _ (getD_in hil);obtain ⟨b1,b2,_⟩:=IJ d (t.out.Kids.getD i default) (most-(t.out.Kids.take i).foldl (ctF (ctD d) most) 1) hsk;have b3:=C9 d _ hsk;have b4:(3:Int) ^ d<=531441:=by
    have := Vu (n:=3) (by omega) (show d<=12 by omega);have e:(3:Int) ^ d=((3 ^ d:Nat):Int):=by simp
    rw [e];have : 3 ^ 12=531441:=by decide
    omega
   refine .gdD ⟨by omega,by omega⟩ (.gdI (by omega) ((Nl d n _ _ (by omega) (by omega) hsk (by omega) (by omega)).bind λv hv=>?_));subst hv;exact .gdI (by omega) (.gdI (by omega) (.pure ⟨⟨i+1,by omega,by rw [ht];rfl,by rw [ht];omega⟩,by simp only [];omega⟩))
  have hn:=of_decide_eq_false (hb.symm.trans hbf);show _=t.out.Kids.foldl (ctF (ctD d) most) 1
  by_cases hil:i<t.out.Kids.length
  ·have e:=Vt i t.out.Kids
   conv=>rhs;rw [<- e,Vn]
   rw [C8 (t.out.Kids.drop i) _ (by omega)]
  rw [Vk (by omega)]
theorem Nn (t:TXimpl_RelExpr):PE (gY t.out) (· = vaE t):=by
 unfold gY vaE;refine PE.bind (P:=(· = shD 12 t)) (kx 12 λm hm=>IK 12 m t hm (by omega)) λb hb=>?_;refine PE.bind (P:=(· = (shD 12 t&&decide (Ci 12 t<=40)))) (.bif (λh=>?_) λh => .pure (by rw [<- hb,h];rfl)) λv hv => .pure hv;rw [hb] at h;refine PE.bind (P:=(· = ctD 12 t 40)) (kx 12 λm hm=>Nl 12 m t 40 hm (by omega) h (by omega) (by omega)) λv hv => .pure ?_;subst hv;obtain ⟨b1,b2,b3⟩:=IJ 12 t 40 h;rw [h,U6];exact decide_eq_decide.2 ⟨λg=>by rw [b3 g] at g;exact g,λg=>by omega⟩
def vaR (r:ah):Bool:=decide (1<=r.Kind)&&decide (r.Kind<=3)&&vaE r.Expr.inn
def vaM (m:List ah):Bool:=decide (1<=m.length)&&decide (m.length<=5)&&m.all vaR
theorem LM {m:List ah} (hl:m.length<=4000000):PE (gB m) (· = vaM m):=by
 unfold gB vaM;refine (xO _ _ _).bind λv hv=>?_;subst hv;refine PE.bind (P:=(· = (decide (1<=m.length)&&decide (m.length<=5)&&m.all vaR))) (.bif (λh=>?_) λh => .pure ?_) λv hv => .pure hv
 ·have hb:(decide (1<=m.length)&&decide (m.length<=5))=true:=by
   simp only [bae,dte] at h ⊢;omega
  rw [hb,U6];unfold aK aL;refine PE.bind (P:=(· = !m.all vaR)) (PE.bind (P:=λv:Int=>(0<=v↔m.all vaR=false)) ?_ λv hv => .pure ?_) λv hv => .pure (by rw [hv,Bool.not_not])
  ·refine PE.sum (PS:=λ_=>m.all vaR=true) (PW:=λv:Int=>(0<=v↔m.all vaR=false)) ?_ λ_ hn => .pure (by rw [hn];simp);refine PE.loop (λz=>∃ i:Nat,i<=m.length/\z=(i:Int)/\∀ j,j<i->vaR (m.getD j default)=true) (λz=>((m.length:Int)-z).toNat) ⟨0,by omega,rfl,λj hj=>by omega⟩ λz ⟨i,h1,h2,h3⟩ => ?_;subst h2;unfold bh lJ;simp only [tnn];refine .bifD (λhk => .gdD ⟨by omega,hk⟩ (PE.bind (P:=(· = !vaR (m.getD i default))) ((xO _ _ _).bind λw hw=>?_) λw hw => .bif (λhb => .pure ⟨λ_=>?_,λ_=>by omega⟩) λhb => .gdI (by omega) (.pure ⟨⟨i+1,by omega,rfl,λj hj=>?_⟩,by omega⟩))) λhk => .pure ?_
   ·subst hw;refine PE.bind (P:=(· = !vaR (m.getD i default))) (.bif (λhn => .pure ?_) λhn=>(Nk (m.getD i default).Expr.inn).bind λu hu => .pure ?_) λu hu => .pure hu
    ·unfold vaR;rw [show (decide (1<=(m.getD i default).Kind)&&decide ((m.getD i default).Kind<=3))=false from (Bool.not_eq_true' _).mp hn]
     rfl
    unfold vaR;rw [show (decide (1<=(m.getD i default).Kind)&&decide ((m.getD i default).Kind<=3))=true from (Bool.not_eq_false' _).mp hn,hu]
    rfl
   ·rw [List.all_eq_false];refine ⟨m.getD i default,getD_in (by omega),?_⟩;rw [hw] at hb;simpa using hb
   ·by_cases e:j=i
    ·subst e;rw [hw] at hb;simpa using hb
    exact h3 j (by omega)
   show m.all vaR=true;rw [U8];intro r hr;obtain ⟨j,hj,rfl⟩:=U7 hr;have := h3 j (by omega)
   rwa [gdq,geq hj] at this
  show decide ((0:Int)<=v)=_
  cases h:m.all vaR with
  | true=>exact decide_eq_false λe=>by rw [hv.1 e] at h;cases h
  | false=>exact decide_eq_true (hv.2 h)
 have hb:(decide (1<=m.length)&&decide (m.length<=5))=false:=by
  simp only [Vv,decide_eq_false_iff_not] at h ⊢;omega
 rw [hb]
 rfl
theorem LN {m:List ah} (hl:m.length<=4000000):PE (gp m) (· = vaM m):=by
 unfold gp;refine PE.sum (PS:=λ_=>∀ j,j<m.length->j<=5->vaR (m.getD j default)=true) (PW:=(· = vaM m)) ?_ λ_ h=>?_
 ·refine PE.loop (λz=>∃ i:Nat,i<=m.length/\z=(i:Int)/\∀ j,j<i->vaR (m.getD j default)=true) (λz=>((m.length:Int)-z).toNat) ⟨0,by omega,rfl,λj hj=>by omega⟩ λz ⟨i,h1,h2,h3⟩ => ?_;subst h2;unfold o7;simp only [tnn];refine PE.bind (P:=(· = decide (i<m.length/\i<=5))) (.bifD (λhlt => .pure (decide_eq_decide.2 ⟨λh=>⟨by omega,by omega⟩,λh=>by omega⟩)) λhlt => .pure (decide_eq_false (by omega)).symm) λb hb => .bif (λhbt=>?_) λhbf => .pure ?_
  ·obtain ⟨hil,hle⟩:=of_decide_eq_true (hb.symm.trans hbt);refine .gdD ⟨by omega,by omega⟩ (PE.bind (P:=(· = !(decide (1<=(m.getD i default).Kind)&&decide ((m.getD i default).Kind<=3)))) (.bifD (λh => .pure ?_) λh => .pure ?_) λw hw=>PE.bind (P:=(· = !vaR (m.getD i default))) (.bif (λhn => .pure ?_) λhn=>(Nn (m.getD i default).Expr.inn).bind λu hu => .pure ?_) λu hu => .bif (λhu2 => .pure ?_) λhu2 => .gdI (by omega) (.pure ⟨⟨i+1,by omega,rfl,λj hj=>?_⟩,by omega⟩))
   ·rw [decide_eq_false (show ¬ 1<=(m.getD i default).Kind by omega)];rfl
   ·rw [decide_eq_true (show 1<=(m.getD i default).Kind by omega),U6,<- decide_not];exact decide_eq_decide.2 (by omega)
   ·unfold vaR;rw [hw] at hn;rw [show (decide (1<=(m.getD i default).Kind)&&decide ((m.getD i default).Kind<=3))=false from (Bool.not_eq_true' _).mp hn]
    rfl
   ·unfold vaR;rw [hw] at hn;rw [show (decide (1<=(m.getD i default).Kind)&&decide ((m.getD i default).Kind<=3))=true from (Bool.not_eq_false' _).mp hn,hu]
    rfl
   ·show false=vaM m
    symm
    unfold vaM;rw [Vv];refine .inr (List.all_eq_false.2 ⟨m.getD i default,getD_in hil,?_⟩);rw [hu] at hu2;simpa using hu2
   by_cases e:j=i
   ·subst e;rw [hu] at hu2;simpa using hu2
   exact h3 j (by omega)
  have hn:=of_decide_eq_false (hb.symm.trans hbf);intro j hj h5;exact h3 j (by omega)
 refine PE.bind (P:=(· = vaM m)) (.bifD (λh0 => .pure ?_) λh0 => .pure ?_) λv hv => .pure hv
 ·unfold vaM;rw [decide_eq_true (show 1<=m.length by omega),U6]
  by_cases h5:m.length<=5
  ·rw [decide_eq_true h5,decide_eq_true (show (m.length:Int)<=5 by omega),U6]
   symm
   rw [U8];intro r hr;obtain ⟨j,hj,rfl⟩:=U7 hr;have := h j hj (by omega)
   rwa [gdq,geq hj] at this
  rw [decide_eq_false h5,decide_eq_false (show ¬ (m.length:Int)<=5 by omega)]
  rfl
 unfold vaM;rw [decide_eq_false (show ¬ 1<=m.length by omega)]
 rfl
theorem Np:∀ (d:Nat) (t:TXimpl_RelExpr),shD d t=true->VT t
 | 0,_,h=>by simp [shD] at h
 | d+1,.mk op nm ks,h=>by
  rw [shD,bae] at h;obtain ⟨h1,h2⟩:=h;have hall:∀ l:List TXimpl_RelExpr,l.all (shD d)=true->VL l:=by
   intro l
   induction l with
   | nil=>intro _;rw [VL];trivial
   | cons a l ih=>
    intro ha;rw [Vh,bae] at ha;rw [VL];exact ⟨Np d a ha.1,ih ha.2⟩
  have hks:=hall ks h2;unfold okE at h1;rw [bae,bae] at h1;obtain ⟨⟨g1,g2⟩,_⟩:=h1;have g1:(ks.length:Int)=Gw op:=of_decide_eq_true g1;have g2:(decide (op=1)==nmB nm)=true:=g2;rw [VT];unfold Gw at g1
  by_cases o1:op=1
  ·subst o1;refine .inl ⟨rfl,?_⟩;have : nmB nm=true:=by simpa using g2
   exact CZ.1 this
  rw [if_neg o1] at g1
  by_cases o2:op=2\/op=3\/op=4\/op=5
  ·rw [if_pos o2] at g1;exact .inr (.inr ⟨o2,by omega,hks⟩)
  rw [if_neg o2] at g1
  by_cases o3:op=6\/op=7
  ·rw [if_pos o3] at g1;exact .inr (.inl ⟨o3,by omega,hks⟩)
  rw [if_neg o3] at g1;omega
theorem Nq {m:List ah} (h:vaM m=true):(∀ r∈m,VT r.Expr.inn)/\m.length<=5:=by
 unfold vaM at h;simp only [bae,dte] at h;refine ⟨λr hr=>?_,h.1.2⟩;have := U8.1 h.2 r hr;unfold vaR vaE at this;simp only [bae] at this;exact Np 12 _ this.2.1
def Le {α:Type} (a b:Option α):Prop:=∀ q,a=some q->b=some q
theorem Le.refl {α:Type} (a:Option α):Le a a:=λ_ h=>h
theorem Le.bind {α β:Type} {a b:Option α} {k l:α->Option β} (h:Le a b) (hk:∀ x,Le (k x) (l x)):Le (a.bind k) (b.bind l):=λq hq=>by
 obtain ⟨x,h1,h2⟩:=Vw.1 hq;exact Vw.2 ⟨x,h x h1,hk x q h2⟩
theorem Le.gd {α:Type} {a b:Option α} (c:Bool) (h:Le a b):Le (gd c a) (gd c b):=λq hq=>by
 obtain ⟨h1,h2⟩:=gdL hq;rw [tO h1];exact h q h2
theorem Le.bif {α:Type} {a b a' b':Option α} (c:Bool) (h:Le a a') (h':Le b b'):Le (bif c then a else b) (bif c then a' else b'):=by
 cases c
 ·exact h'
 exact h
theorem Le.ifc {α:Type} {a b a' b':Option α} (c:Prop) [Decidable c] (h:Le a a') (h':Le b b'):Le (if c then a else b) (if c then a' else b'):=by
 split
 ·exact h
 exact h'
theorem Le.sumK {S W:Type} {a b:Option (S ⊕ W)} {k l:S->Option W} (h:Le a b) (hk:∀ x,Le (k x) (l x)):Le (sumK a k) (sumK b l):=λq hq=>by
 cases a with
 | none=>cases hq
 | some z=>
  rw [h z rfl]
  cases z with
  | inl s=>exact hk s q hq
  | inr w=>exact hq
def KE {S E:Type} (n:Nat) (step:S->Option (S ⊕ E)) (s:S):Option E:=
 Nat.rec (motive:=λ_=>S->Option E) (λ_=>none) (λ_ ih s=>match step s with
  | none=>none
  | some (.inl s')=>ih s'
  | some (.inr e)=>some e) n s
theorem Le.loop {S E:Type} {n:Nat} {step step':S->Option (S ⊕ E)} (h:∀ s,Le (step s) (step' s)) (s:S):Le (KE n step s) (loopO step' s):=by
 induction n generalizing s with
 | zero=>intro q hq;cases hq
 | succ n ih=>
  intro q hq;rw [Cz]
  change (match step s with
   | none=>none
   | some (.inl s')=>KE n step s'
   | some (.inr e)=>some e)=some q at hq
  match hs:step s with
  | none=>rw [hs] at hq;cases hq
  | some (.inl s')=>
   rw [hs] at hq;rw [h s _ hs];exact ih s' q hq
  | some (.inr e)=>
   rw [hs] at hq;rw [h s _ hs];exact hq
def Ot {α:Type} (e:Bool) (_ b:Option α):Option α:=bif e then none else b
theorem Le.nilK {α:Type} {e:Bool} {a b a' b':Option α} (_:Le a a') (h:Le b b'):Le (Ot e a b) (nilK e a' b'):=λq hq=>by
 cases e with
 | true=>cases hq
 | false=>
  unfold Go.Proofs.YtpkhamajimidnaaGreatDoor.nilK;exact h q hq
def fG (n:Int):Option ByteArray:=bif decide (0<=n/\n<=9) then some (strOfNums ([((48:Int)+n)]:LI)++(⟨#[]⟩:ByteArray)) else none
theorem strOfNums_size (l:LI):(strOfNums l).size=l.length:=by
 simp [strOfNums,ByteArray.size]
theorem oQ (n:Int):Le (fG n) (bD n):=by
 intro v h;unfold fG at h
 by_cases hn:0<=n/\n<=9
 ·rw [decide_eq_true hn] at h;obtain rfl:=osl h;refine Ev 1 λk hk=>?_
  match k,hk with
  | k+1,_=>
   show gq (gu k) n=_;refine PE.eq ?_;unfold gq;refine .bifD (λh=>by omega) λ_ => .bifD (λh=>by omega) λ_=>?_;refine PE.bind (P:=(· = ((⟨#[]⟩:ByteArray),n))) ?_ λs hs=>?_
   ·refine PE.loop (λs=>s=((⟨#[]⟩:ByteArray),n)) (λ_=>0) rfl λs hs=>?_;subst hs;unfold m9;exact .bifD (λh=>by simp only [] at h;omega) λ_ => .pure rfl
   subst hs;refine .gdI (by simp only [];omega) (.gdY (by simp only [];omega) (.gdD ?_ (.pure rfl)));rw [strOfNums_size];exact nlb rfl
 rw [decide_eq_false hn] at h
 cases h
def gL (from_:Int) (n:Int):Option ByteArray:=
 gd (Pv .u8 n) <|
 gd (Pv .u8 (from_+n)) <|
 some (strOfNums ([(from_+n)]:LI))
theorem qU (from_:Int) (n:Int):Le (gL from_ n) (dO from_ n):=by
 unfold gL dO
 solve_by_elim (maxDepth:=9999) only [*,Le.gd,Le.bif,Le.bind,Le.sumK,Le.loop,Le.nilK,Le.ifc,Le.refl]
def p5 (x:Px):Option ByteArray:=
 U5 (gL (120:Int) x.Loc) λv1=>
 U5 (gL (97:Int) x.Reg) λv2=>
 bif (x.Op==(1:Int)) then
  gd (decide (v2.size+(⟨#[61]⟩:ByteArray).size<=9223372036854775807)) <|
  gd (decide ((v2++(⟨#[61]⟩:ByteArray)).size+v1.size<=9223372036854775807)) <|
  some ((v2++(⟨#[61]⟩:ByteArray))++v1)
 else
  bif (x.Op==(2:Int)) then
   gd (decide (v1.size+(⟨#[61]⟩:ByteArray).size<=9223372036854775807)) <|
   U5 (fG x.Val) λv8=>
   gd (decide ((v1++(⟨#[61]⟩:ByteArray)).size+v8.size<=9223372036854775807)) <|
   some ((v1++(⟨#[61]⟩:ByteArray))++v8)
  else
   bif (x.Op==(3:Int)) then
    gd (decide (v1.size+(⟨#[61]⟩:ByteArray).size<=9223372036854775807)) <|
    gd (decide ((v1++(⟨#[61]⟩:ByteArray)).size+v2.size<=9223372036854775807)) <|
    some ((v1++(⟨#[61]⟩:ByteArray))++v2)
   else
    bif (x.Op==(5:Int)) then
     gd (decide (v2.size+(⟨#[61]⟩:ByteArray).size<=9223372036854775807)) <|
     gd (decide ((v2++(⟨#[61]⟩:ByteArray)).size+v1.size<=9223372036854775807)) <|
     gd (decide (((v2++(⟨#[61]⟩:ByteArray))++v1).size+(⟨#[58]⟩:ByteArray).size<=9223372036854775807)) <|
     U5 (fG x.Val) λv17=>
     gd (decide ((((v2++(⟨#[61]⟩:ByteArray))++v1)++(⟨#[58]⟩:ByteArray)).size+v17.size<=9223372036854775807)) <|
     some ((((v2++(⟨#[61]⟩:ByteArray))++v1)++(⟨#[58]⟩:ByteArray))++v17)
    else
     some (⟨#[102,101,110,99,101]⟩:ByteArray)
theorem yR (x:Px):Le (p5 x) (mD x):=by
 unfold p5 mD
 solve_by_elim (maxDepth:=9999) only [*,qU,oQ,Le.gd,Le.bif,Le.bind,Le.sumK,Le.loop,Le.nilK,Le.ifc,Le.refl]
def LO (s d:ByteArray):Bool:=
 decide (d.size+(⟨#[58]⟩:ByteArray).size<=9223372036854775807)&&(decide ((d++(⟨#[58]⟩:ByteArray)).size+s.size<=9223372036854775807)&&decide (((d++(⟨#[58]⟩:ByteArray))++s).size<=200))
def O0 (x:Px) (t:Nat):Bool:=match iE x with
 | none=>false
 | some s=>match p5 x with
  | none=>false
  | some s'=>match aT (t:Int) with
   | none=>false
   | some d=>match fG (t:Int) with
    | none=>false
    | some d'=>decide (s=s')&&(decide (d=d')&&LO s d)
theorem LP:((U4 5).all λa=>(U4 3).all λb=>(U4 3).all λc=>(U4 4).all λd=>(U4 3).all λt => !jf ⟨(a:Int)+1,b,c,d⟩||O0 ⟨(a:Int)+1,b,c,d⟩ t)=true:=by decide +kernel
theorem IL {x:Px} (h:jf (lu x)=true):∃ a b c d:Nat,a<5/\b<3/\c<3/\d<4/\x=⟨(a:Int)+1,b,c,d⟩:=by
 obtain ⟨o,l,r,v⟩:=x;have hb:(1<=o/\o<=5)/\(0<=l/\l<=2)/\(0<=r/\r<=2)/\0<=v/\v<=3:=by
  unfold jf lu at h;simp only [inB] at h
  split at h
  ·simp only [bae,dte,beq_iff_eq] at h;omega
  split at h
  ·simp only [bae,dte,beq_iff_eq] at h;omega
  split at h
  ·simp only [bae,dte,beq_iff_eq] at h;omega
  split at h
  ·simp only [bae,dte] at h;omega
  cases h
 refine ⟨(o-1).toNat,l.toNat,r.toNat,v.toNat,by omega,by omega,by omega,by omega,?_⟩;rw [show (((o-1).toNat:Nat):Int)+1=o by omega,show ((l.toNat:Nat):Int)=l by omega,show ((r.toNat:Nat):Int)=r by omega,show ((v.toNat:Nat):Int)=v by omega]
theorem Ou {x:Px} (h:jf (lu x)=true) {t:Nat} (ht:t<3):∃ d s,aT (t:Int)=some d/\bD (t:Int)=some d/\iE x=some s/\mD x=some s/\LO s d=true:=by
 obtain ⟨a,b,c,e,h1,h2,h3,h4,rfl⟩:=IL h;have hall:=LP;simp only [U8,Vl] at hall;have hc:=hall a h1 b h2 c h3 e h4 t ht;rw [show jf ⟨(a:Int)+1,b,c,e⟩=true from h] at hc;simp only [Bool.not_true,Bool.false_or] at hc;unfold O0 at hc
 cases e1:iE ⟨(a:Int)+1,b,c,e⟩ with
 | none=>rw [e1] at hc;cases hc
 | some s=>
  cases e2:p5 ⟨(a:Int)+1,b,c,e⟩ with
  | none=>rw [e1,e2] at hc;cases hc
  | some s'=>
   cases e4:aT (t:Int) with
   | none=>rw [e1,e2,e4] at hc;cases hc
   | some d=>
    cases e5:fG (t:Int) with
    | none=>rw [e1,e2,e4,e5] at hc;cases hc
    | some d'=>
     rw [e1,e2,e4,e5] at hc;simp only [bae,dte] at hc;obtain ⟨rfl,rfl,h6⟩:=hc;exact ⟨d,s,rfl,oQ _ _ e5,rfl,yR _ _ e2,h6⟩
def IM (l:Nat):Bool:=match gL 120 (l:Int) with
 | none=>false
 | some v=>decide ((⟨#[102,105,114,115,116,32]⟩:ByteArray).size+v.size<=200)&&decide (v=(⟨#[120,121,122]⟩:ByteArray).extract l (l+1))
theorem IP:((U4 3).all IM)=true:=by decide +kernel
theorem Ov {l:Nat} (h:l<3):∃ v,dO 120 (l:Int)=some v/\(⟨#[102,105,114,115,116,32]⟩:ByteArray).size+v.size<=200/\v=(⟨#[120,121,122]⟩:ByteArray).extract l (l+1):=by
 have hall:=U8.1 IP l (Vl.2 h);unfold IM at hall
 cases e1:gL 120 (l:Int) with
 | none=>rw [e1] at hall;cases hall
 | some v=>
  rw [e1] at hall;simp only [bae,dte] at hall;exact ⟨v,qU _ _ _ e1,hall⟩
section
variable {p:List (List Px)} {x:XS} {F:LI}
theorem JS (hv:bB (PH p)=true) {i:Nat} (hi:i<(evs p).length):∃ s,eQ p (ev p (i:Int))=some s/\gy p (ev p (i:Int))=some s/\s.size<=200:=by
 have hp:=PV.of hv;have hloc:=pz hp (n:=(i:Int)) (by omega) (by omega)
 by_cases h0:(ev p (i:Int)).Thread<0
 ·obtain ⟨v,e1,e2,e3⟩:=Ov (l:=(ev p (i:Int)).Loc.toNat) (by omega);have hll:(((ev p (i:Int)).Loc.toNat:Nat):Int)=(ev p (i:Int)).Loc:=by omega
  rw [hll] at e1;have e5:((ev p (i:Int)).Loc+1).toNat=(ev p (i:Int)).Loc.toNat+1:=by omega
  refine ⟨(⟨#[102,105,114,115,116,32]⟩:ByteArray)++v,?_,?_,by rw [Va];exact e2⟩
  ·refine PE.eq ?_;unfold eQ;refine .bifD (λ_=>?_) λhn=>absurd h0 hn;rw [e5,<- e3];exact .gdI (by omega) (.gdD ⟨by omega,by omega,by show (ev p (i:Int)).Loc+1<=3;omega⟩ (.gdD (by omega) (.pure rfl)))
  refine PE.eq ?_;unfold gy;refine .bifD (λ_=>?_) λhn=>absurd h0 hn;exact (PE.of (P:=(· = v)) e1 rfl).bind λu hu=>by subst hu;exact .gdD (by omega) (.pure rfl)
 obtain ⟨t,k,hI,e,ht,hk⟩:=yL hp (n:=(i:Int)) (by omega) (by omega) h0;have ht3:t<3:=by have := hI.t;have := hp.vs.1;omega
 have hx:jf (lu ((p.getD t default).getD k default))=true:=(Vs.of hv).2 t k hI.t hI.k;obtain ⟨d,b,a1,a2,a3,a4,a6⟩:=Ou hx ht3;have hIt:=hI.t;have hIk:=hI.k;simp only [LO,bae,dte] at a6;obtain ⟨c1,c2,c3⟩:=a6;have f1:(ev p (i:Int)).Thread.toNat=t:=by omega
 have f2:(ev p (i:Int)).Index.toNat=k:=by omega
 refine ⟨(d++(⟨#[58]⟩:ByteArray))++b,?_,?_,c3⟩
 ·refine PE.eq ?_;unfold eQ;refine .bifD (λhn=>absurd hn h0) λ_=>?_;rw [f1,f2,ht];refine (PE.of (P:=(· = d)) a1 rfl).bind λu hu=>?_;subst hu;refine .gdD c1 (.gdD ⟨by omega,by omega⟩ (.gdD ⟨by omega,by omega⟩ ((PE.of (P:=(· = b)) a3 rfl).bind λw hw=>?_)));subst hw;exact .gdD c2 (.pure rfl)
 refine PE.eq ?_;unfold gy;refine .bifD (λhn=>absurd hn h0) λ_=>?_;rw [f1,f2,ht];refine (PE.of (P:=(· = d)) a2 rfl).bind λu hu=>?_;subst hu;refine .gdD c1 (.gdD ⟨by omega,by omega⟩ (.gdD ⟨by omega,by omega⟩ ((PE.of (P:=(· = b)) a4 rfl).bind λw hw=>?_)));subst hw;exact .gdD c2 (.pure rfl)
theorem IQ (sep:ByteArray):jJ [] sep=⟨#[]⟩:=rfl
theorem xP (l:List ByteArray) (s sep:ByteArray):jJ (l++[s]) sep=if l=[] then s else (jJ l sep++sep)++s:=by
 cases l with
 | nil=>
  rw [if_pos rfl];unfold jJ;rw [Vb,Vo,Vp,Lib.join_one]
 | cons x r=>
  rw [if_neg (by simp)];unfold jJ;simp only [List.cons_append,Vo,List.map_append,Vp,Lib.join_cons];have e:Lib.joinTail sep.data.toList (r.map (·.data.toList)++[s.data.toList])=(Lib.joinTail sep.data.toList (r.map (·.data.toList))++sep.data.toList)++s.data.toList:=by simp [Lib.joinTail]
  rw [e];apply ByteArray.ext;rw [Vq,Vq];simp
theorem xQ (l:List ByteArray) (sep:ByteArray) (B:Nat) (h:∀ s∈l,s.size<=B):(jJ l sep).size<=l.length*(B+sep.size):=by
 induction l using CL with
 | h0=>exact Nat.zero_le _
 | hs l a ih=>
  have h1:=ih λs hs=>h s (List.mem_append_left _ hs);have h2:=h a (by simp);rw [xP,lla,List.length_singleton,Nat.add_mul]
  split
  ·omega
  rw [Va,Va];omega
def TxS (p:List (List Px)) (l:LI) (ts:List ByteArray):Prop:=ts.length=l.length/\∀ j:Nat,j<l.length->eQ p (ev p (l.getD j default))=some (ts.getD j default)/\gy p (ev p (l.getD j default))=some (ts.getD j default)/\(ts.getD j default).size<=200
theorem KG (hv:bB (PH p)=true):∀ l:LI,(∀ j∈l,0<=j/\j<((evs p).length:Int))->∃ ts,TxS p l ts
 | [],_=>⟨[],rfl,λj hj=>absurd hj (Vj _)⟩
 | i::l,h=>by
  obtain ⟨ts,h1,h2⟩:=KG hv l λj hj=>h j (List.mem_cons_of_mem _ hj);obtain ⟨i0,i1⟩:=h i List.mem_cons_self;obtain ⟨s,s1,s2,s3⟩:=JS hv (i:=i.toNat) (by omega);rw [Vf i0] at s1 s2;refine ⟨s::ts,by rw [llc,llc,h1],λj hj=>?_⟩
  cases j with
  | zero=>exact ⟨s1,s2,s3⟩
  | succ j=>exact h2 j (by simpa using hj)
theorem TxS.le {l:LI} {ts:List ByteArray} (h:TxS p l ts):∀ s∈ts,s.size<=200:=λs hs=>by
 obtain ⟨j,hj,rfl⟩:=U7 hs;have := (h.2 j (by rw [<- h.1];exact hj)).2.2
 rwa [gdq,geq hj] at this
theorem wH {α:Type} [Inhabited α] {l:List α} {n:Nat} (h:n<l.length):l.take (n+1)=l.take n++[l.getD n default]:=by
 rw [List.take_add_one,geq h,gdq,geq h]
 rfl
theorem LQ {l:LI} {ts:List ByteArray} (h:TxS p l ts) (hl:l.length<=1000) (hr:∀ j∈l,0<=j/\j<((evs p).length:Int)):PE (loopO (iZ p (evs p) l) (([]:List ByteArray),(0:Int))) (· = ts):=by
 refine PE.loop (λz=>∃ n:Nat,n<=l.length/\z=(ts.take n,(n:Int))) (λz=>((l.length:Int)-z.2).toNat) ⟨0,by omega,rfl⟩ λz ⟨n,n1,n2⟩ => ?_;subst n2;unfold iZ;simp only [tnn];refine .bifD (λhk=>?_) λhk => .pure (by rw [Vk (by rw [h.1];omega)]);have hn:n<l.length:=by omega
 obtain ⟨g1,_,_⟩:=h.2 n hn;obtain ⟨r0,r1⟩:=hr _ (kL hn);have e:(evs p).getD (l.getD n default).toNat default=ev p (l.getD n default):=rfl;rw [e];refine .gdD ⟨by omega,hk⟩ (.gdD ⟨r0,r1⟩ ((PE.of (P:=(· = ts.getD n default)) g1 rfl).bind λv hv => .gd (aI (by rw [Ve];omega) rfl) (.gdI (by omega) (.pure ⟨⟨n+1,by omega,?_⟩,by simp only [];omega⟩))));rw [hv,wH (by rw [h.1];exact hn)]
 rfl
theorem LR (hp:PV p) {l:LI} {ts:List ByteArray} (h:TxS p l ts) (hl:l.length<=1000) (hr:∀ j∈l,0<=j/\j<((evs p).length:Int)):PE (mE p l) (· = jJ ts ⟨#[44,32]⟩):=by
 unfold mE;refine (xI hp.vs).bind λv1 h1=>?_;subst h1;refine PE.bind (P:=(· = jJ ts ⟨#[44,32]⟩)) ?_ λv hv => .pure hv;refine PE.loop (λz=>∃ n:Nat,n<=l.length/\z=((n:Int),jJ (ts.take n) ⟨#[44,32]⟩)) (λz=>((l.length:Int)-z.1).toNat) ⟨0,by omega,rfl⟩ λz ⟨n,n1,n2⟩ => ?_;subst n2;unfold qN;simp only [tnn];refine .bifD (λhk=>?_) λhk => .pure (by rw [Vk (by rw [h.1];omega)]);have hn:n<l.length:=by omega
 obtain ⟨_,g2,g3⟩:=h.2 n hn;obtain ⟨r0,r1⟩:=hr _ (kL hn);have e:(evs p).getD (l.getD n default).toNat default=ev p (l.getD n default):=rfl;have hsz:=xQ (ts.take n) ⟨#[44,32]⟩ 200 λs hs=>h.le s (List.mem_of_mem_take hs);have hlt:(ts.take n).length<=1000:=by rw [Ve];omega
 have h2:(⟨#[44,32]⟩:ByteArray).size=2:=rfl;have hsz2:(jJ (ts.take n) ⟨#[44,32]⟩).size<=1000*202:=Vr hsz (by rw [h2];exact Vx _ hlt);rw [e];refine PE.bind (P:=(· = if n=0 then (⟨#[]⟩:ByteArray) else jJ (ts.take n) ⟨#[44,32]⟩++⟨#[44,32]⟩)) (.bifD (λh0 => .gdD (by omega) (.pure (by rw [if_neg (by omega)]))) λh0 => .pure (by rw [if_pos (by omega),show n=0 by omega];rfl)) λw hw=>?_;have hws:w.size<=300000:=by
  rw [hw]
  split
  ·decide
  rw [Va];omega
 refine .gdD ⟨by omega,hk⟩ (.gdD ⟨r0,r1⟩ ((PE.of (P:=(· = ts.getD n default)) g2 rfl).bind λv hv=>?_));subst hv;refine .gdD (by omega) (.gdI (by omega) (.pure ⟨⟨n+1,by omega,?_⟩,by simp only [];omega⟩));rw [wH (by rw [h.1];exact hn),xP,hw];refine Prod.ext rfl ?_;simp only []
 by_cases h0:n=0
 ·subst h0;rw [if_pos rfl,if_pos (show List.take 0 ts=[] from rfl)];apply ByteArray.ext;rw [Vq];simp
 rw [if_neg h0,if_neg];intro e;have := congrArg List.length e;rw [Ve,List.length_nil,h.1] at this;omega
theorem LU:((U4 10).all λn=>match aT (n:Int) with
  | none=>false
  | some d=>match fG (n:Int) with
   | none=>false
   | some d'=>decide (d=d')&&decide (d.size<=100))=true:=by decide +kernel
theorem dig {n:Nat} (h:n<10):∃ d,aT (n:Int)=some d/\bD (n:Int)=some d/\d.size<=100:=by
 have := U8.1 LU n (Vl.2 h)
 cases e4:aT (n:Int) with
 | none=>rw [e4] at this;cases this
 | some d=>
  cases e5:fG (n:Int) with
  | none=>rw [e4,e5] at this;cases this
  | some d'=>
   rw [e4,e5] at this;simp only [bae,dte] at this;obtain ⟨rfl,h2⟩:=this;exact ⟨d,rfl,oQ _ _ e5,h2⟩
theorem Eb (hv:bB (PH p)=true) (C:Cand p x F) {m:List ah} (hm:vaM m=true):∃ s,aY p ⟨x.1,x.2⟩ m=some s/\dD p ⟨x.1,x.2⟩ m=some s/\s.size<=300000:=by
 have hp:=PV.of hv;have hN:(evs p).length<=16:=Vr (Ku hv) (by omega);obtain ⟨V,W,b,k1,k2,_⟩:=xM hp C;obtain ⟨m1,m2⟩:=Nq hm;have bi:=Om hN (λnm hn=>Oi hp C hn) m1 (by omega);have bs:=Oo hN (λnm hn=>Nb hp C hn) m1 (by omega);obtain ⟨⟨k,R⟩,i1,i2,i3⟩:=bi;obtain ⟨k',s1,s2⟩:=bs;obtain rfl:k'=k:=s2.uniq i2;clear s2;simp only at i2 i3;have h5:(⟨#[114,117,108,101,32]⟩:ByteArray).size=5:=rfl;have h2:(⟨#[58,32]⟩:ByteArray).size=2:=rfl
 cases b with
 | false=>
  refine ⟨⟨#[118,97,108,117,101,115]⟩,PE.eq ?_,PE.eq ?_,by decide⟩
  ·unfold aY;exact (PE.of (P:=(· = (V,false))) k1 rfl).bind λv hv=>by subst hv;exact .bif (λ_ => .pure rfl) λh=>by cases h
  unfold dD;exact (PE.of (P:=(· = (W,false))) k2 rfl).bind λv hv=>by subst hv;exact .bif (λ_ => .pure rfl) λh=>by cases h
 | true=>
  by_cases hk:k'<0
  ·refine ⟨⟨#[97,108,108,111,119,101,100]⟩,PE.eq ?_,PE.eq ?_,by decide⟩
   ·unfold aY;exact (PE.of (P:=(· = (V,true))) k1 rfl).bind λv hv=>by subst hv;exact .bif (λh=>by cases h) λ_=>(PE.of (P:=(· = (k',R))) i1 rfl).bind λw hw=>by subst hw;exact .bifD (λ_ => .pure rfl) λh=>absurd hk h
   unfold dD;exact (PE.of (P:=(· = (W,true))) k2 rfl).bind λv hv=>by subst hv;exact .bif (λh=>by cases h) λ_=>(PE.of (P:=(· = k')) s1 rfl).bind λw hw=>by subst hw;exact .bifD (λ_ => .pure rfl) λh=>absurd hk h
  rcases i2 with ⟨e,_⟩ | ⟨i,rfl,hi,_,_⟩
  ·omega
  have i3:=i3 (by omega);rw [tnn] at i3;obtain ⟨d,d1,d2,d3⟩:=dig (n:=i) (by omega);have hd5:((⟨#[114,117,108,101,32]⟩:ByteArray)++d).size<=105:=by rw [Va];omega
  by_cases hkd:(m.getD i default).Kind=1
  ·-- a cycle
   have hcy:=ES (N:=(evs p).length) (f:=yK (nmR p x) (evs p).length (m.getD i default).Expr.inn) (evs p).length (Nat.le_refl _);have fi:=M7 hN (f:=yK (nmR p x) (evs p).length (m.getD i default).Expr.inn);have fs:=M8 hN (f:=yK (nmR p x) (evs p).length (m.getD i default).Expr.inn);have ev:=Kw hN (λnm hn=>Nb hp C hn) (m1 _ (getD_in hi));rw [<- i3] at fi fs ev;generalize D9 (evs p).length (yK (nmR p x) (evs p).length (m.getD i default).Expr.inn) (evs p).length=l at hcy fi fs;have hr:∀ j∈l,0<=j/\j<((evs p).length:Int):=by
    rcases hcy with e | e
    ·subst e;exact λj hj=>absurd hj (by simp)
    exact e.2.2
   have hl:l.length<=17:=by
    rcases hcy with e | e
    ·subst e;simp
    have := e.2.1;omega
   obtain ⟨ts,ht⟩:=KG hv l hr;have hsz:=xQ ts ⟨#[44,32]⟩ 200 ht.le;have hc2:(⟨#[44,32]⟩:ByteArray).size=2:=rfl;have hsz2:(jJ ts ⟨#[44,32]⟩).size<=17*202:=Vr hsz (by rw [hc2,ht.1];exact Vx _ hl);have hd7:(((⟨#[114,117,108,101,32]⟩:ByteArray)++d)++(⟨#[58,32]⟩:ByteArray)).size<=107:=by rw [Va];omega
   refine ⟨(((⟨#[114,117,108,101,32]⟩:ByteArray)++d)++(⟨#[58,32]⟩:ByteArray))++jJ ts ⟨#[44,32]⟩,PE.eq ?_,PE.eq ?_,by rw [Va];omega⟩
   ·unfold aY;refine (PE.of (P:=(· = (V,true))) k1 rfl).bind λv hv=>?_;subst hv;refine .bif (λh=>by cases h) λ_=>(PE.of (P:=(· = ((i:Int),R))) i1 rfl).bind λw hw=>?_;subst hw;refine .bifD (λh=>absurd h hk) λ_=>(PE.of (P:=(· = d)) d1 rfl).bind λu hu=>?_;subst hu;refine .gdD (by omega) (.gdD ⟨by simp only [];omega,by simp only [];omega⟩ ?_);simp only [tnn];refine .bif (λh=>absurd hkd (by simpa using h)) λ_=>(AA hp.vs).bind λv9 h9=>?_;subst h9;refine PE.bind (P:=(· = ts)) (fi.bind λv11 h11=>by subst h11;exact LQ ht (by omega) hr) λs10 h10=>?_;subst h10;refine .gdD (by omega) (PE.bind (P:=(· = jJ s10 ⟨#[44,32]⟩)) (.gdD ⟨by rw [ht.1];omega,by omega⟩ (.pure rfl)) λv32 h32=>?_);subst h32;exact .gdD (by omega) (.pure rfl)
   unfold dD;refine (PE.of (P:=(· = (W,true))) k2 rfl).bind λv hv=>?_;subst hv;refine .bif (λh=>by cases h) λ_=>(PE.of (P:=(· = (i:Int))) s1 rfl).bind λw hw=>?_;subst hw;refine .bifD (λh=>absurd h hk) λ_=>(PE.of (P:=(· = d)) d2 rfl).bind λu hu=>?_;subst hu;refine .gdD (by omega) (PE.bind (P:=(· = (((⟨#[114,117,108,101,32]⟩:ByteArray)++u)++(⟨#[58,32]⟩:ByteArray))++jJ ts ⟨#[44,32]⟩)) (.gdD ⟨by omega,by omega⟩ ?_) λv hv => .pure hv);simp only [tnn];refine .bif (λ_ => .gdD (by omega) (ev.bind λv11 h11=>?_)) λh=>absurd hkd (by simpa using h);subst h11;refine fs.bind λv12 h12=>?_;subst h12;refine (LR hp ht (by omega) hr).bind λv13 h13=>?_;subst h13;exact .gdD (by omega) (.pure rfl)
  refine ⟨(⟨#[114,117,108,101,32]⟩:ByteArray)++d,PE.eq ?_,PE.eq ?_,by omega⟩
  ·unfold aY;refine (PE.of (P:=(· = (V,true))) k1 rfl).bind λv hv=>?_;subst hv;refine .bif (λh=>by cases h) λ_=>(PE.of (P:=(· = ((i:Int),R))) i1 rfl).bind λw hw=>?_;subst hw;refine .bifD (λh=>absurd h hk) λ_=>(PE.of (P:=(· = d)) d1 rfl).bind λu hu=>?_;subst hu;refine .gdD (by omega) (.gdD ⟨by simp only [];omega,by simp only [];omega⟩ ?_);simp only [tnn];exact .bif (λ_ => .pure rfl) λh=>absurd (show (m.getD i default).Kind=1 by simpa using h) hkd
  unfold dD;refine (PE.of (P:=(· = (W,true))) k2 rfl).bind λv hv=>?_;subst hv;refine .bif (λh=>by cases h) λ_=>(PE.of (P:=(· = (i:Int))) s1 rfl).bind λw hw=>?_;subst hw;refine .bifD (λh=>absurd h hk) λ_=>(PE.of (P:=(· = d)) d2 rfl).bind λu hu=>?_;subst hu;refine .gdD (by omega) (PE.bind (P:=(· = (⟨#[114,117,108,101,32]⟩:ByteArray)++u)) (.gdD ⟨by omega,by omega⟩ ?_) λv hv => .pure hv);simp only [tnn];exact .bif (λh=>absurd (eq_of_beq h) hkd) λ_ => .pure rfl
end
theorem Nr {α:Type} [Inhabited α] (a:List α) (left:Int) (hl:0<=left/\left<=1048576) (ha:(a.length:Int)<=9223372036854775807) {one:α->Int->Option Int} {w:α->Nat} {G:α->Prop}
  (h1:∀ x∈a,∀ l:Int,0<=l->l<=1048576->PE (one x l) λv=>v<0\/(0<=v/\v+(w x:Int)<=l/\G x)) {step:(Int×Int)->Option ((Int×Int) ⊕ (Int ⊕ Int))}
  (hs:∀ s:Int×Int,step s=bif decide (s.1<(a.length:Int)) then gd (decide (0<=s.1/\s.1<(a.length:Int)))<|U5 (one (a.getD s.1.toNat default) s.2) λv10=>bif decide (v10<(0:Int)) then some (.inr (.inr (-1:Int))) else gd (Pv .i64 (s.1+(1:Int)))<|some (.inl ((s.1+(1:Int)),v10)) else some (.inr (.inl s.2))) :
  PE (gd (Pv .i64 (left-(a.length:Int)))<|bif decide ((left-(a.length:Int))<(0:Int)) then some (-1:Int) else sumK (loopO step ((0:Int),(left-(a.length:Int)))) λs3=>some s3) λv=>v<0\/(0<=v/\v+(a.length:Int)+((a.map w).sum:Int)<=left/\∀ x∈a,G x):=by
 refine .gdI (by omega) (.bifD (λh => .pure (.inl (by decide))) λh=>?_);refine PE.sum (PS:=λs:Int=>0<=s/\s+(a.length:Int)+((a.map w).sum:Int)<=left/\∀ x∈a,G x) (PW:=λv:Int=>v<0\/(0<=v/\v+(a.length:Int)+((a.map w).sum:Int)<=left/\∀ x∈a,G x)) ?_ λs hs => .pure (.inr hs);refine PE.loop (λs:Int×Int=>∃ n:Nat,n<=a.length/\s.1=(n:Int)/\0<=s.2/\s.2+(a.length:Int)+(((a.take n).map w).sum:Int)<=left/\∀ x∈a.take n,G x) (λs=>((a.length:Int)-s.1).toNat) ⟨0,by omega,rfl,by simp only [];omega,by simp,λx hx=>absurd hx (by simp)⟩ λs ⟨n,n1,n2,n3,n4,n5⟩ => ?_;obtain ⟨s1,s2⟩:=s;simp only at n2 n3 n4;subst n2;rw [hs];simp only [tnn];refine .bifD (λhk=>?_) λhk => .pure ?_
 ·have hn:n<a.length:=by omega
  refine .gdD ⟨by omega,hk⟩ ((h1 _ (getD_in hn) s2 n3 (by omega)).bind λv hv => .bifD (λh => .pure (.inl (by decide))) λh => .gdI (by omega) (.pure ⟨⟨n+1,by omega,by simp,?_⟩,by simp only [];omega⟩));rcases hv with hv | ⟨v0,v1,v2⟩
  ·exact absurd hv h
  rw [wH hn,List.map_append,List.sum_append];simp only [Vo,Vp,List.sum_cons,List.sum_nil];refine ⟨v0,by omega,λx hx=>?_⟩;rcases List.mem_append.1 hx with hx | hx
  ·exact n5 x hx
  rw [List.mem_singleton.1 hx];exact v2
 have : n=a.length:=by omega
 subst this;rw [List.take_length] at n4 n5;exact ⟨n3,n4,n5⟩
theorem Ox (a:List (List ak)) (ha:(a.length:Int)<=9223372036854775807/\∀ r∈a,(r.length:Int)<=9223372036854775807):PE (kN a 1048576) λv=>v<0\/(0<=v/\v+(a.length:Int)+(total a:Int)<=1048576/\∀ r∈a,True):=by
 unfold kN total;refine Nr (w:=List.length) (G:=λ_=>True) (one:=jg) a 1048576 (by omega) ha.1 (λr hr l l0 l1=>(szS r l ⟨l0,l1⟩ (ha.2 r hr)).mono λv hv=>?_) λ_=>rfl;rcases hv with hv | hv
 ·exact .inl hv.1
 exact .inr ⟨hv.1,by omega,trivial⟩
mutual
def WT:TXlaws_RelExpr->Prop
 | .mk _ nm ks=>(nm.size:Int)<=9223372036854775807/\(ks.length:Int)<=9223372036854775807/\WL ks
def WL:List TXlaws_RelExpr->Prop
 | []=>True
 | t::l=>WT t/\WL l
end
mutual
def ST:TXlaws_RelExpr->Prop
 | .mk _ _ ks=>ks.length<=1048576/\SL ks
def SL:List TXlaws_RelExpr->Prop
 | []=>True
 | t::l=>ST t/\SL l
end
mutual
def szV:TXlaws_RelExpr->Int->Int
 | .mk _ nm ks,left=>if left-(nm.size:Int)<0 then -1 else if left-(nm.size:Int)-(ks.length:Int)<0 then -1 else Eh ks (left-(nm.size:Int)-(ks.length:Int))
def Eh:List TXlaws_RelExpr->Int->Int
 | [],left=>left
 | t::l,left=>if szV t left<0 then -1 else Eh l (szV t left)
end
mutual
theorem IR:∀ (t:TXlaws_RelExpr) (left:Int),0<=left->left<=1048576->szV t left<0\/(0<=szV t left/\szV t left<=left/\ST t)
 | .mk op nm ks,left,h0,h1=>by
  rw [szV,ST]
  by_cases a:left-(nm.size:Int)<0
  ·rw [if_pos a];exact .inl (by decide)
  rw [if_neg a]
  by_cases b:left-(nm.size:Int)-(ks.length:Int)<0
  ·rw [if_pos b];exact .inl (by decide)
  rw [if_neg b];rcases IU ks (left-(nm.size:Int)-(ks.length:Int)) (by omega) (by omega) with h | ⟨h2,h3,h4⟩
  ·exact .inl h
  exact .inr ⟨h2,by omega,by omega,h4⟩
theorem IU:∀ (l:List TXlaws_RelExpr) (left:Int),0<=left->left<=1048576->Eh l left<0\/(0<=Eh l left/\Eh l left<=left/\SL l)
 | [],left,h0,h1=>by rw [Eh,SL];exact .inr ⟨h0,Vg _,trivial⟩
 | t::l,left,h0,h1=>by
  rw [Eh,SL];rcases IR t left h0 h1 with h | ⟨h2,h3,h4⟩
  ·rw [if_pos h];exact .inl (by decide)
  rw [if_neg (by omega)];rcases IU l (szV t left) h2 (by omega) with h | ⟨h5,h6,h7⟩
  ·exact .inl h
  exact .inr ⟨h5,by omega,h4,h7⟩
end
theorem FI:∀ (l:List TXlaws_RelExpr) (left:Int),0<=left->Eh l left<0->Eh l left = -1
 | [],left,h0,h=>by rw [Eh] at h;omega
 | t::l,left,h0,h=>by
  rw [Eh] at h ⊢
  by_cases a:szV t left<0
  ·rw [if_pos a]
  rw [if_neg a] at h ⊢;exact FI l _ (by omega) h
mutual
theorem KH:∀ t:TXlaws_RelExpr,WT t->∃ d,∀ m,d<m->∀ left:Int,0<=left->left<=1048576->PE (bR m t.out left) (· = szV t left)
 | .mk op nm ks,h=>by
  rw [WT] at h;obtain ⟨d,hd⟩:=IV ks h.2.2;refine ⟨d+1,λm hm left h0 h1=>?_⟩;obtain ⟨m,rfl⟩:∃ q,m=q+1:=⟨m-1,by omega⟩;show PE (iT (bR m) ⟨op,nm,ks⟩ left) _;unfold iT;simp only [];rw [szV];refine .gdI (by omega) (.bifD (λa => .pure (by rw [if_pos a])) λa=>?_);rw [if_neg a];refine PE.bind (P:=(· = if left-(nm.size:Int)-(ks.length:Int)<0 then -1 else Eh ks (left-(nm.size:Int)-(ks.length:Int)))) ?_ λv hv => .bifD (λhn => .pure ?_) λhn => .pure hv
  ·unfold iO;refine .gdI (by omega) (.bifD (λb => .pure (by rw [if_pos b])) λb=>?_);rw [if_neg b];generalize hV:Eh ks (left-(nm.size:Int)-(ks.length:Int))=V;refine PE.sum (PS:=(· = V)) (PW:=(· = V)) ?_ λs hs => .pure hs;refine PE.loop (λs:Int×Int=>∃ n:Nat,n<=ks.length/\s.1=(n:Int)/\0<=s.2/\s.2<=1048576/\Eh (ks.drop n) s.2=V) (λs=>((ks.length:Int)-s.1).toNat) ⟨0,by omega,rfl,by simp only [];omega,by simp only [];omega,hV⟩ λs ⟨n,n1,n2,n3,n4,n5⟩ => ?_;obtain ⟨s1,s2⟩:=s;simp only at n2 n3 n4 n5;subst n2;unfold kF;simp only [tnn];refine .bifD (λhk=>?_) λhk => .pure ?_
   ·have hn:n<ks.length:=by omega
    have hdr:ks.drop n=ks.getD n default::ks.drop (n+1):=by
     rw [List.drop_eq_getElem_cons hn,gdq,geq hn]
     rfl
    rw [hdr,Eh] at n5;refine .gdD ⟨by omega,hk⟩ ((hd _ (getD_in hn) m (by omega) s2 n3 n4).bind λv hv=>?_);subst hv;refine .bifD (λhb => .pure ?_) λhb => .gdI (by omega) (.pure ⟨⟨n+1,by omega,by simp,by simp only [];omega,?_,?_⟩,by simp only [];omega⟩)
    ·rw [if_pos hb] at n5;exact n5
    ·rcases IR (ks.getD n default) s2 n3 n4 with h | ⟨_,h,_⟩
     ·exact absurd h hb
     simp only [];omega
    rw [if_neg hb] at n5;exact n5
   rw [show n=ks.length by omega,List.drop_length,Eh] at n5;exact n5
  show (-1:Int)=_;rw [hv] at hn
  split at hn
  ·rename_i b;rw [if_pos b]
  rename_i b;rw [if_neg b];exact (FI ks _ (by omega) hn).symm
theorem IV:∀ l:List TXlaws_RelExpr,WL l->∃ d,∀ t∈l,∀ m,d<m->∀ left:Int,0<=left->left<=1048576->PE (bR m t.out left) (· = szV t left)
 | [],_=>⟨0,λt h=>by cases h⟩
 | t::l,h=>by
  rw [WL] at h;obtain ⟨d1,h1⟩:=KH t h.1;obtain ⟨d2,h2⟩:=IV l h.2;refine ⟨max d1 d2,λu hu=>?_⟩;rcases List.mem_cons.1 hu with rfl | hu
  ·exact λm hm=>h1 m (by omega)
  exact λm hm=>h2 u hu m (by omega)
end
theorem Oy {t:TXlaws_RelExpr} (h:WT t) {left:Int} (h0:0<=left) (h1:left<=1048576):PE (oH t.out left) (· = szV t left):=by
 obtain ⟨d,hd⟩:=KH t h;exact kx d λm hm=>hd m hm left h0 h1
theorem LV (a:List ay) (left:Int) (hl:0<=left/\left<=1048576) (ha:(a.length:Int)<=9223372036854775807) (hw:∀ r∈a,WT r.Expr.inn):PE (nH a left) λv=>v<0\/(a.length<=1048576/\∀ r∈a,ST r.Expr.inn):=by
 unfold nH;refine (Nr (w:=λ_=>0) (G:=λr:ay=>ST r.Expr.inn) (one:=pK) a left hl ha (λr hr l l0 l1=>?_) λ_=>rfl).mono λv hv=>hv.imp id λ⟨g1,g2,g3⟩=>⟨by omega,g3⟩;unfold pK;refine (Oy (hw r hr) l0 l1).bind λv hv=>?_;subst hv;refine .bifD (λ_ => .pure (.inl (by decide))) λh => .pure ?_;rcases IR r.Expr.inn l l0 l1 with g | ⟨g1,g2,g3⟩
 ·exact absurd g h
 exact .inr ⟨g1,by omega,g3⟩
mutual
def cvT:TXlaws_RelExpr->TXimpl_RelExpr
 | .mk op nm ks => .mk op nm (cvL ks)
def cvL:List TXlaws_RelExpr->List TXimpl_RelExpr
 | []=>[]
 | t::l=>cvT t::cvL l
end
theorem Da:∀ l:List TXlaws_RelExpr,cvL l=l.map cvT
 | []=>by rw [cvL];rfl
 | t::l=>by rw [cvL,Da l];rfl
theorem JU (t:TXimpl_RelExpr):t.out.inn=t:=by cases t;rfl
mutual
theorem IW:∀ t:TXlaws_RelExpr,ST t->∃ d,∀ m,d<m->PE (bS m t.out) (· = (cvT t).out)/\PE (bU m (cvT t).out (cvT t).out) (· = true)
 | .mk op nm ks,h=>by
  rw [ST] at h;obtain ⟨d,hd⟩:=IX ks h.2;refine ⟨d+1,λm hm=>?_⟩;obtain ⟨m,rfl⟩:∃ q,m=q+1:=⟨m-1,by omega⟩;rw [cvT];refine ⟨?_,?_⟩
  ·show PE (iV (bS m) ⟨op,nm,ks⟩) _;unfold iV;simp only [];refine PE.bind (P:=(· = cvL ks)) ?_ λv hv => .pure (by rw [hv];rfl);unfold iP;refine .gdD (by omega) (PE.bind (P:=(· = ks.map λk=>(cvT k).out)) (vu (by simp) (λs h1 h2 h3=>?_) λs hs=>?_) λv hv => .pure ?_)
   ·unfold cG;refine .bifD (λ_ => .gdD ⟨h1,h2⟩ ((hd _ (rP h1 h2) m (by omega)).1.bind λv hv => .gdD ⟨h1,by omega⟩ (.gdI (by omega) (.pure (by rw [hv]))))) λh=>absurd h2 h
   ·unfold cG;rw [decide_eq_false hs]
    rfl
   rw [hv,Da,List.map_map];exact List.map_congr_left λk _=>JU _
  show PE (i9 (bU m) ⟨op,nm,cvL ks⟩ ⟨op,nm,cvL ks⟩) _;unfold i9;simp only [];refine .bif (λh=>by simp at h) λ_ => .bif (λh=>by simp at h) λ_=>PE.bind (P:=(· = true)) ?_ λv hv => .bif (λh=>by rw [hv] at h;cases h) λ_ => .pure rfl;unfold iQ;refine .bif (λh=>by simp at h) λ_=>?_;refine PE.sum (PS:=λ_=>True) (PW:=(· = true)) ?_ λ_ _ => .pure rfl;refine PE.loop (λz=>∃ n:Nat,n<=ks.length/\z=(n:Int)) (λz=>((ks.length:Int)-z).toNat) ⟨0,by omega,rfl⟩ λz ⟨n,n1,n2⟩ => ?_;subst n2;unfold kK;have hlen:(cvL ks).length=ks.length:=by rw [Da,llm]
  simp only [tnn,hlen];refine .bifD (λhk => .gdD ⟨by omega,hk⟩ (.gdD ⟨by omega,hk⟩ ?_)) λ_ => .pure trivial;have hn:n<ks.length:=by omega
  have e:(cvL ks).getD n default=cvT (ks.getD n default):=by
   rw [Da,gdq,List.getElem?_map,geq hn,gdq,geq hn]
   rfl
  rw [e];exact (hd _ (getD_in hn) m (by omega)).2.bind λv hv => .bif (λh=>by rw [hv] at h;cases h) λ_ => .gdI (by omega) (.pure ⟨⟨n+1,by omega,by simp⟩,by omega⟩)
theorem IX:∀ l:List TXlaws_RelExpr,SL l->∃ d,∀ t∈l,∀ m,d<m->PE (bS m t.out) (· = (cvT t).out)/\PE (bU m (cvT t).out (cvT t).out) (· = true)
 | [],_=>⟨0,λt h=>by cases h⟩
 | t::l,h=>by
  rw [SL] at h;obtain ⟨d1,h1⟩:=IW t h.1;obtain ⟨d2,h2⟩:=IX l h.2;refine ⟨max d1 d2,λu hu=>?_⟩;rcases List.mem_cons.1 hu with rfl | hu
  ·exact λm hm=>h1 m (by omega)
  exact λm hm=>h2 u hu m (by omega)
end
def cvR (r:ay):ah:=⟨r.Kind,(cvT r.Expr.inn).out⟩
theorem LW {r:ay} (h:ST r.Expr.inn):PE (pO r) (· = cvR r):=by
 obtain ⟨d,hd⟩:=IW _ h;unfold pO;exact (show PE (oI r.Expr) (· = (cvT r.Expr.inn).out) from kx d λm hm=>(hd m hm).1).bind λv hv => .pure (by rw [hv];rfl)
theorem LX {r:ay} (h:ST r.Expr.inn):PE (pX (cvR r) (cvR r)) (· = true):=by
 obtain ⟨d,hd⟩:=IW _ h;unfold pX;refine .bif (λh=>by simp at h) λ_=>?_;exact (show PE (oO (cvT r.Expr.inn).out (cvT r.Expr.inn).out) (· = true) from kx d λm hm=>(hd m hm).2).bind λv hv => .bif (λh=>by rw [hv] at h;cases h) λ_ => .pure rfl
theorem JV {a:List ay} (h:a.length<=1048576) (hs:∀ r∈a,ST r.Expr.inn):PE (iM a) (· = a.map cvR):=by
 unfold iM;refine .gdD (by omega) ?_;refine PE.bind (P:=(· = a.map cvR)) (vu (by simp) (λs h1 h2 h3=>?_) λs hs=>?_) λv hv => .pure hv
 ·unfold jT;exact .bifD (λ_ => .gdD ⟨h1,h2⟩ ((LW (hs _ (rP h1 h2))).bind λv hv => .gdD ⟨h1,by omega⟩ (.gdI (by omega) (.pure (by rw [hv]))))) λh=>absurd h2 h
 unfold jT;rw [decide_eq_false hs]
 rfl
theorem JW {a:List ay} (h:a.length<=1048576) (hs:∀ r∈a,ST r.Expr.inn):PE (nT (a.map cvR) (a.map cvR)) (· = true):=by
 unfold nT;refine .bif (λh=>by simp at h) λ_=>?_;refine PE.sum (PS:=λ_=>True) (PW:=(· = true)) ?_ λ_ _ => .pure rfl;refine PE.loop (λz=>∃ n:Nat,n<=a.length/\z=(n:Int)) (λz=>((a.length:Int)-z).toNat) ⟨0,by omega,rfl⟩ λz ⟨n,n1,n2⟩ => ?_;subst n2;unfold rO;simp only [tnn,llm];refine .bifD (λhk => .gdD ⟨by omega,hk⟩ (.gdD ⟨by omega,hk⟩ ?_)) λ_ => .pure trivial;have hn:n<a.length:=by omega
 have e:(a.map cvR).getD n default=cvR (a.getD n default):=by
  rw [gdq,List.getElem?_map,geq hn,gdq,geq hn]
  rfl
 rw [e];exact (LX (hs _ (getD_in hn))).bind λv hv => .bif (λh=>by rw [hv] at h;cases h) λ_ => .gdI (by omega) (.pure ⟨⟨n+1,by omega,by simp⟩,by omega⟩)
section
variable {p:List (List Px)} {x:XS}
end
theorem LY {a:List (List ak)} (h1:a.length<=1048576) (h2:total a<=1048576):∃ p:List (List Px),PE (di a) (· = p)/\(p.length<=1048576/\total p<=1048576)/\PE (iF p p) (· = true):=by
 have hrl0:∀ r∈a,r.length<=1048576:=λr hr=>by
  obtain ⟨j,hj,rfl⟩:=U7 hr;have := yE a j hj;omega
 have hto:=Gf h1 hrl0;have hln:(a.map (List.map cvt)).map List.length=a.map List.length:=by simp [Function.comp_def]
 have hsz:(a.map (List.map cvt)).length<=1048576/\total (a.map (List.map cvt))<=1048576:=⟨by rw [llm];exact h1,by unfold total;rw [hln];exact h2⟩;have hrl:∀ r∈a.map (List.map cvt),r.length<=1048576:=λr hr=>by
  obtain ⟨j,hj,rfl⟩:=U7 hr;have := yE (a.map (List.map cvt)) j hj;omega
 exact ⟨_,hto,hsz,Gg _ hsz.1 hrl⟩
open Go.RowKit Go.WideShapes Go.ChangeShapes Go.Deep
section
variable {H:Type} {enc:TypeId×Value->H} {P:Program} {w:World} {spare:Nat->Bool} {held:Bool}
theorem RC.one {a:AV} {u:Value} (h1:u.oneCell'=true) (h:FRel w (λg=>g<w.heap.size) a u):RC w [a] [u]:=⟨rfl,λj b v hb hv=>by
 match j with
 | 0=>
  obtain rfl:=osl hb;obtain rfl:=osl hv;exact ⟨h1,h⟩
 | j+1=>simp at hb⟩
theorem RC.cons {a:AV} {u:Value} {row:List AV} {cs:List Value} (h1:u.oneCell'=true) (h:FRel w (λg=>g<w.heap.size) a u) (t:RC w row cs):RC w (a::row) (u::cs):=⟨by simp [t.1],λj b v hb hv=>by
 match j with
 | 0=>
  obtain rfl:=osl hb;obtain rfl:=osl hv;exact ⟨h1,h⟩
 | j+1=>exact t.2 j b v (by simpa using hb) (by simpa using hv)⟩
theorem RC.plain {u:Value} {row:List AV} {cs:List Value} (h:plain u=true) (t:RC w row cs):RC w (.v u::row) (u::cs) := .cons (Di h) (.v h) t
theorem RC.rowS {row row':List AV} {cs:List Value} (h:RC w row cs) (e:CJ row row'):RC w row' cs:=⟨h.1.trans e.len,λj b v hb hv=>by
 obtain ⟨a,ha,he⟩:=e.get hb;obtain ⟨h1,h2⟩:=h.2 j a v ha hv;exact ⟨h1,he _ _ _ h2⟩⟩
theorem LZ {t:TypeId} (ht:P.underlying t=some (.int .i64)) (fuel:Nat) (cs:List Value) (x:DataW H×List MemPlace) (h:DataW.trod enc P w 0 spare held fuel t cs=some x):∃ a:Int,RC w (cI a) cs/\True:=by
 obtain ⟨a,rfl,_⟩:=Mw ht fuel cs x h;exact ⟨a,.plain rfl ⟨rfl,λj _ _ hb=>by simp at hb⟩,trivial⟩
theorem L6 {α:Type} [Inhabited α] {c:α->List AV} {s:Nat} {t e:TypeId} (hs:P.cellsOf e=s) (hs0:0<s) (ht:P.underlying t=some (.slice e)) {Good:α->Prop} (fuel:Nat) (cs:List Value) (x:DataW H×List MemPlace)
  (hel:∀ (n:Nat) (cs:List Value) (x:DataW H×List MemPlace),n<fuel->DataW.trod enc P w 0 spare held n e cs=some x->∃ a,RC w (c a) cs/\Good a)
  (h:DataW.trod enc P w 0 spare held fuel t cs=some x):∃ l:List α,RC w (cL c l) cs/\((l.length:Int)<=9223372036854775807/\∀ y∈l,Good y):=by
 obtain ⟨v,rfl,h1,l,hl,hF,hg⟩:=tQ hs hs0 ht hel h;exact ⟨l,.one h1 hF,hl,hg⟩
theorem L8 {t e:TypeId} {f0 f1 f2 f3:Field} (ht:P.underlying t=some (.struct #[f0,f1,f2,f3])) (he:P.underlying e=some (.int .i64)) (h0:f0.type=e/\f0.offset=0) (h1:f1.type=e/\f1.offset=1)
  (h2:f2.type=e/\f2.offset=2) (h3:f3.type=e/\f3.offset=3) (hc:P.cellsOf t=4) (hce:P.cellsOf e=1) (fuel:Nat) (cs:List Value) (x:DataW H×List MemPlace)
  (h:DataW.trod enc P w 0 spare held fuel t cs=some x):∃ a:ak,RC w (ak.c a) cs/\True:=by
 obtain ⟨a,rfl,_⟩:=Mx ht he h0 h1 h2 h3 hc hce fuel cs x h;exact ⟨⟨a.op,a.loc,a.reg,a.val⟩,.plain rfl (.plain rfl (.plain rfl (.plain rfl ⟨rfl,λj _ _ hb=>by simp at hb⟩))),trivial⟩
theorem Ns:∀ {l:List TXlaws_RelExpr},(∀ t∈l,WT t)->WL l
 | [],_=>by rw [WL];trivial
 | t::l,h=>by
  rw [WL];exact ⟨h t (by simp),Ns λu hu=>h u (by simp [hu])⟩
section
variable {tR tI tS tK:TypeId} {f0 f1 f2:Field} (ht:P.underlying tR=some (.struct #[f0,f1,f2])) (hI:P.underlying tI=some (.int .i64)) (hS:P.underlying tS=some .string) (hK:P.underlying tK=some (.slice tR))
 (h0:f0.type=tI/\f0.offset=0) (h1:f1.type=tS/\f1.offset=1) (h2:f2.type=tK/\f2.offset=2) (hc:P.cellsOf tR=3) (hcI:P.cellsOf tI=1) (hcS:P.cellsOf tS=1) (hcK:P.cellsOf tK=1)
include ht hI hS hK h0 h1 h2 hc hcI hcS hcK
theorem JX:∀ (fuel:Nat) (cs:List Value) (x:DataW H×List MemPlace),DataW.trod enc P w 0 spare held fuel tR cs=some x->∃ t:TXlaws_RelExpr,RC w (TXlaws_RelExpr.c t) cs/\WT t:=by
 intro fuel
 induction fuel using Nat.strongRecOn with
 | _ fuel ih=>
  intro cs x h;obtain ⟨xs,n,hn,_,hlen,hxl,hf⟩:=DataW.trod_struct ht h;rw [hc] at hlen
  match cs,hlen with
  | [c0,c1,c2],_=>
   match xs,hxl with
   | [y0,y1,y2],_=>
    have g0:=hf 0 f0 rfl;have g1:=hf 1 f1 rfl;have g2:=hf 2 f2 rfl;rw [h0.1,h0.2,hcI] at g0;rw [h1.1,h1.2,hcS] at g1;rw [h2.1,h2.2,hcK] at g2;obtain ⟨a0,e0,_⟩:=DataW.trod_int hI (g0.trans rfl);obtain ⟨a1,e1,_,z1⟩:=DataW.trod_string hS (g1.trans rfl);obtain ⟨v2,e2,p2,l2,k2,r2,q2⟩:=tQ (c:=TXlaws_RelExpr.c) (Good:=WT) hc (by omega) hK (λm cs x hm h=>ih m (by omega) cs x h) (g2.trans rfl);simp only [List.drop_zero,Vy,List.take_zero,Vz,VA,and_true] at e0 e1 e2;subst e0 e1 e2;refine ⟨.mk a0 a1 l2,?_,?_⟩
    ·simp only [TXlaws_RelExpr.c];exact .plain rfl (.plain rfl (.one p2 (EqS.slr' TXlaws_RelExpr.r0 TXlaws_RelExpr.r1 l2 _ _ _ r2)))
    rw [WT];simp only [maxLen] at z1;exact ⟨by omega,k2,Ns q2⟩
theorem JY {tU:TypeId} {k0 k1:Field} (hU:P.underlying tU=some (.struct #[k0,k1])) (d0:k0.type=tI/\k0.offset=0) (d1:k1.type=tR/\k1.offset=1) (hcU:P.cellsOf tU=4) (fuel:Nat) (cs:List Value) (x:DataW H×List MemPlace)
  (h:DataW.trod enc P w 0 spare held fuel tU cs=some x):∃ r:ay,RC w (ay.c r) cs/\WT r.Expr.inn:=by
 obtain ⟨xs,n,_,_,hlen,hxl,hf⟩:=DataW.trod_struct hU h;rw [hcU] at hlen
 match cs,hlen with
 | [c0,c1,c2,c3],_=>
  match xs,hxl with
  | [y0,y1],_=>
   have g0:=hf 0 k0 rfl;have g1:=hf 1 k1 rfl;rw [d0.1,d0.2,hcI] at g0;rw [d1.1,d1.2,hc] at g1;obtain ⟨a0,e0,_⟩:=DataW.trod_int hI (g0.trans rfl);obtain ⟨t,ht1,ht2⟩:=JX ht hI hS hK h0 h1 h2 hc hcI hcS hcK n _ _ (g1.trans rfl);simp only [List.drop_zero,Vy,List.take_zero,Vz,VA,and_true] at e0 ht1;subst e0;refine ⟨⟨a0,t.out⟩,.plain rfl (ht1.rowS (TXlaws_RelExpr.out_c t)),?_⟩;rw [show t.out.inn=t by cases t;rfl];exact ht2
end
end
theorem Oz {w:World} {fz:Nat->Prop} {a b c:AV} {u v x:Value} (h1:FRel w fz a u) (h2:FRel w fz b v) (h3:FRel w fz c x):∀ (i:Nat) (d:AV) (y:Value),[a,b,c][i]? = some d -> #[u,v,x][i]? = some y->FRel w fz d y:=by
 intro i d y hd hy
 match i with
 | 0=>
  obtain rfl:=osl hd;obtain rfl:u=y:=by simpa using hy
  exact h1
 | 1=>
  obtain rfl:=osl hd;obtain rfl:v=y:=by simpa using hy
  exact h2
 | 2=>
  obtain rfl:=osl hd;obtain rfl:x=y:=by simpa using hy
  exact h3
 | i+3=>simp at hd
def A9 (a:Z33):Int×Int×Int×Int×Int×Int×Int×Int×Int:=(a.x0.x0,a.x0.x1,a.x0.x2,a.x1.x0,a.x1.x1,a.x1.x2,a.x2.x0,a.x2.x1,a.x2.x2)
def vv (x:XS) (V:LI) (r:Int):Int:=if r<0 then 0 else V.getD (x.1.getD r.toNat default).toNat default
def AL (x:XS) (l:Nat):Int:=(x.2.getD l default).getD (((x.2.getD l default).length:Int)-1).toNat default
def IY (p:List (List Px)) (x:XS) (V:LI) (t:Nat):LI:=(U4 3).flatMap λ(g:Nat)=>[vv x V (lrd p (t:Int) ((p.getD t default).length:Int) (g:Int))]
def Gx (p:List (List Px)) (x:XS) (V:LI):LI:=((U4 p.length).flatMap (IY p x V))++(U4 3).flatMap λ(l:Nat)=>[V.getD (AL x l).toNat default]
theorem ug {α:Type} (h:Nat->α) (k:Nat):((U4 k).flatMap λg=>[h g]).length=k:=by rw [mV];simp
theorem AO {α:Type} (h:Nat->List α) (n k:Nat) (e:∀ i,(h i).length=n):((U4 k).flatMap h).length=k*n:=by
 rw [cZ (m:=n) λa _=>e a];simp
structure Vok (p:List (List Px)) (x:XS) (V:List Int):Prop where
 l:V.length=(evs p).length
 v:∀ j:Int,0<=j->j<((evs p).length:Int)->(ev p j).az=true->0<=V.getD j.toNat default/\V.getD j.toNat default<=3
section
variable {p:List (List Px)} {x:XS} {V:LI}
theorem Vok.of (hp:PV p) {F:LI} (C:Cand p x F) (h1:V.length=(evs p).length) (h2:∀ i:Nat,i<(evs p).length->(ev p (i:Int)).az=true->Chn p x (i:Int) (V.getD i default)):Vok p x V:=⟨h1,λj j0 j1 hw=>by
 obtain ⟨n,rfl⟩:∃ n:Nat,j=(n:Int):=⟨j.toNat,by omega⟩;rw [tnn];exact (h2 n (by omega) hw).rng hp C ⟨j0,j1⟩⟩
theorem Ec (hp:PV p) (C:Cand p x (Cf p)):Chk p x:=by
 have operm:∀ l:Nat,l<3->(x.2.getD l default).Perm (PG p (l:Int)):=λl hl=>by
  have O:=C.ods (l:Int) (by omega);unfold od at O;rw [tnn] at O;refine (List.perm_ext_iff_of_nodup O.nd (Ia _)).2 λn=>?_;rw [O.mem];unfold PG;rw [List.mem_filter];unfold Wl;rw [bae,dte];exact Iff.rfl
 refine ⟨C.flen,C.olen,λn hn=>?_,λl hl=>⟨operm l hl,?_⟩⟩
 ·have hm:(n:Int)∈Cf p:=(C.mem _).2 ⟨by omega,by omega⟩
  split
  ·rename_i hr;have h1:=C.rdc _ hm hr;have h2:=C.ne _ hm hr;have hl:=pz hp (n:=(n:Int)) (by omega) (by omega);have hpm:=operm (ev p (n:Int)).Loc.toNat (by omega);rw [Vf hl.1] at hpm;rw [tnn] at h1 h2;exact ⟨hpm.mem_iff.1 h1,h2⟩
  rename_i hr;have := C.frN _ hm (by simpa using hr)
  rwa [tnn] at this
 obtain ⟨t,ht⟩:=C.hd l hl;unfold od at ht;rw [tnn] at ht;show (x.2.getD l []).getD 0 default=l;rw [ht]
 rfl
theorem wI (hp:PV p) (C:Cand p x (Cf p)) {l:Nat} (hl:l<3):0<(x.2.getD l default).length/\(x.2.getD l default).length<=(evs p).length/\AL x l∈Cf p/\(ev p (AL x l)).az=true:=by
 obtain ⟨t,ht⟩:=C.hd l hl;have e:od x (l:Int)=x.2.getD l default:=by unfold od;rw [tnn];rfl
 rw [e] at ht;have h0:0<(x.2.getD l default).length:=by rw [ht];simp
 have hm:AL x l∈od x (l:Int):=by
  rw [e];exact kL (by omega)
 have hj:=((C.ods (l:Int) ⟨by omega,by omega⟩).mem _).1 hm;have hle:(x.2.getD l default).length<=(evs p).length:=by
  have O:=((Ec hp C).ords l hl).1;rw [O.length_eq];exact Ig (l:Int)
 exact ⟨h0,hle,hj.1,hj.2.1⟩
theorem Nt (hp:PV p) (C:Cand p x (Cf p)) (hV:Vok p x V) (t idx reg:Int):0<=vv x V (lrd p t idx reg)/\vv x V (lrd p t idx reg)<=3/\(¬ lrd p t idx reg<0->lrd p t idx reg<((evs p).length:Int)/\0<=x.1.getD (lrd p t idx reg).toNat default/\x.1.getD (lrd p t idx reg).toNat default<((evs p).length:Int)):=by
 unfold vv
 by_cases h:lrd p t idx reg<0
 ·rw [if_pos h];exact ⟨by omega,by omega,λg=>absurd h g⟩
 rw [if_neg h];rcases Ea (p:=p) t idx reg with ⟨g1,_⟩ | ⟨r,g1,g2,g3,_⟩
 ·omega
 have hrd:=(xL.1 g3).2.2.1;have hrF:(r:Int)∈Cf p:=(C.mem _).2 ⟨by omega,by omega⟩;have hfr:=((C.ods _ (pz hp (n:=(r:Int)) (by omega) (by omega))).mem _).1 (C.rdc _ hrF hrd);rw [show (r:Int)=lrd p t idx reg from g2.symm] at hfr;obtain ⟨j0,j1⟩:=(C.mem _).1 hfr.1;obtain ⟨v0,v1⟩:=hV.v _ j0 j1 hfr.2.1;exact ⟨v0,v1,λ_=>⟨by omega,j0,j1⟩⟩
theorem OA (hp:PV p) (C:Cand p x (Cf p)) (hV:Vok p x V):PE (iI p ⟨x.1,x.2⟩ V) (· = Gx p x V):=by
 have hl3:=hp.vs.1;have hel:=jo hp.vs;have hrl:∀ i,(IY p x V i).length=3:=λi=>ug _ 3;unfold iI;refine (xI hp.vs).bind λv1 h1=>?_;subst h1;refine PE.bind (P:=(· = []++(U4 p.length).flatMap (IY p x V))) (bQ p.length [] (IY p x V) (λt ht=>?_) ?_) λq hq=>PE.bind (P:=(· = q++(U4 3).flatMap λ(l:Nat)=>[V.getD (AL x l).toNat default])) (bQ 3 q (λ(l:Nat)=>[V.getD (AL x l).toNat default]) (λl hl=>?_) ?_) λr hr => .pure (by rw [hr,hq,Vb];rfl)
 ·unfold ik;simp only [];refine .bifD (λ_=>PE.bind (P:=(· = ([]++(U4 t).flatMap (IY p x V))++IY p x V t)) ?_ λv hv => .gdI (by omega) (.pure (by rw [hv,aX,Vd];rfl))) λh=>absurd (show (t:Int)<(p.length:Int) by omega) h;refine bQ 3 _ (λ(g:Nat)=>[vv x V (lrd p (t:Int) ((p.getD t default).length:Int) (g:Int))]) (λg hg=>?_) ?_
  ·unfold f9;simp only [tnn];have hlen:(([]++(U4 t).flatMap (IY p x V))++(U4 g).flatMap λ(g:Nat)=>[vv x V (lrd p (t:Int) ((p.getD t default).length:Int) (g:Int))]).length<=12:=by
    rw [lla,Vb,AO _ 3 _ hrl,ug];omega
   refine .bifD (λ_=>PE.bind (P:=(· = (([]++(U4 t).flatMap (IY p x V))++(U4 g).flatMap λ(g:Nat)=>[vv x V (lrd p (t:Int) ((p.getD t default).length:Int) (g:Int))])++[vv x V (lrd p (t:Int) ((p.getD t default).length:Int) (g:Int))])) (.gdD ⟨by omega,by omega⟩ ((Nc hp ht _ _).bind λv hv=>?_)) λv hv => .gdI (by omega) (.pure (by rw [hv,aX,Vd];rfl))) λh=>absurd (show (g:Int)<=2 by omega) h;subst hv;obtain ⟨_,_,b3⟩:=Nt hp C hV (t:Int) ((p.getD t default).length:Int) (g:Int);refine .bifD (λh => .gd (aI (by omega) rfl) (.pure (by unfold vv;rw [if_pos h]))) λh=>?_;obtain ⟨c1,c2,c3⟩:=b3 h;exact .gdD ⟨by omega,by rw [C.flen];exact c1⟩ (.gdD ⟨c2,by rw [hV.l];exact c3⟩ (.gd (aI (by omega) rfl) (.pure (by unfold vv;rw [if_neg h]))))
  unfold f9;exact .bifD (λh=>absurd h (by simp only [];omega)) λ_ => .pure rfl
 ·unfold ik;exact .bifD (λh=>absurd h (by simp only [];omega)) λ_ => .pure rfl
 ·unfold gb;obtain ⟨g0,g1,g2,g3⟩:=wI hp C hl;obtain ⟨j0,j1⟩:=(C.mem _).1 g2;simp only [tnn];have hlen:(q++(U4 l).flatMap λ(l:Nat)=>[V.getD (AL x l).toNat default]).length<=12:=by
   rw [lla,ug,hq,Vb,AO _ 3 _ hrl];omega
  have e:(x.2.getD l default).getD (((x.2.getD l default).length:Int)-1).toNat default=AL x l:=rfl;simp only [e];refine .bifD (λ_ => .gdD ⟨by omega,by rw [C.olen];omega⟩ (.gdI (by omega) (.gdD ⟨by omega,by omega⟩ (.gdD ⟨j0,by rw [hV.l];exact j1⟩ (.gd (aI (by omega) rfl) (.gdI (by omega) (.pure (by rw [aX,Vd];rfl)))))))) λh=>absurd (show (l:Int)<=2 by omega) h
 unfold gb;exact .bifD (λh=>absurd h (by simp only [];omega)) λ_ => .pure rfl
theorem IZ {u:ZVa} (hl:u.p.length<=3) (hr:∀ t g:Nat,t<u.p.length->g<3->0<=Z3b.get (Z33.get u.reg t) g/\Z3b.get (Z33.get u.reg t) g<=255) (hm:∀ g:Nat,g<3->0<=Z3b.get u.mem g/\Z3b.get u.mem g<=255) :
  PE (fD u) λq=>q.2=((U4 u.p.length).flatMap λ(t:Nat)=>(U4 3).flatMap λ(g:Nat)=>[Z3b.get (Z33.get u.reg (t:Int)) (g:Int)])++(U4 3).flatMap λ(g:Nat)=>[Z3b.get u.mem (g:Int)]:=by
 unfold fD;have hrl:∀ i:Nat,((U4 3).flatMap λ(g:Nat)=>[Z3b.get (Z33.get u.reg (i:Int)) ((g:Nat):Int)]).length=3:=λi=>ug _ 3;refine PE.bind (P:=(· = []++(U4 u.p.length).flatMap λ(t:Nat)=>(U4 3).flatMap λ(g:Nat)=>[Z3b.get (Z33.get u.reg (t:Int)) (g:Int)])) (bQ u.p.length [] (λ(t:Nat)=>(U4 3).flatMap λ(g:Nat)=>[Z3b.get (Z33.get u.reg (t:Int)) (g:Int)]) (λt ht=>?_) ?_) λq hq=>PE.bind (P:=(· = q++(U4 3).flatMap λ(g:Nat)=>[Z3b.get u.mem (g:Int)])) (bQ 3 q (λ(g:Nat)=>[Z3b.get u.mem (g:Int)]) (λg hg=>?_) ?_) λr hr => .pure (by rw [hr,hq,Vb])
 ·unfold df;simp only [];refine .bifD (λ_=>PE.bind (P:=(· = ([]++(U4 t).flatMap λ(t:Nat)=>(U4 3).flatMap λ(g:Nat)=>[Z3b.get (Z33.get u.reg (t:Int)) (g:Int)])++(U4 3).flatMap λ(g:Nat)=>[Z3b.get (Z33.get u.reg (t:Int)) (g:Int)])) (.gdD ⟨by omega,by omega⟩ ?_) λv hv => .gdI (by omega) (.pure (by rw [hv,Vd,<- aX (λ(t:Nat)=>(U4 3).flatMap λ(g:Nat)=>[Z3b.get (Z33.get u.reg (t:Int)) (g:Int)]) t];rfl))) λh=>absurd (show (t:Int)<(u.p.length:Int) by omega) h;refine bQ 3 _ (λ(g:Nat)=>[Z3b.get (Z33.get u.reg (t:Int)) (g:Int)]) (λg hg=>?_) ?_
  ·unfold cJ;simp only [];have hlen:(([]++(U4 t).flatMap λ(t:Nat)=>(U4 3).flatMap λ(g:Nat)=>[Z3b.get (Z33.get u.reg (t:Int)) (g:Int)])++(U4 g).flatMap λ(g:Nat)=>[Z3b.get (Z33.get u.reg (t:Int)) (g:Int)]).length<=12:=by
    rw [lla,Vb,AO _ 3 _ hrl,ug];omega
   obtain ⟨b0,b1⟩:=hr t g ht hg;exact .bifD (λ_ => .gdD ⟨by omega,by omega⟩ (.gdI (by omega) (.gd (aI (by omega) rfl) (.gdI (by omega) (.pure (by rw [aX,Vd];rfl)))))) λh=>absurd (show (g:Int)<3 by omega) h
  unfold cJ;exact .bifD (λh=>absurd h (by simp only [];omega)) λ_ => .pure rfl
 ·unfold df;exact .bifD (λh=>absurd h (by simp only [];omega)) λ_ => .pure rfl
 ·unfold cK;simp only [];have hlen:(q++(U4 g).flatMap λ(g:Nat)=>[Z3b.get u.mem (g:Int)]).length<=12:=by
   rw [lla,ug,hq,Vb,AO _ 3 _ hrl];omega
  obtain ⟨b0,b1⟩:=hm g hg;exact .bifD (λ_ => .gdD ⟨by omega,by omega⟩ (.gdI (by omega) (.gd (aI (by omega) rfl) (.gdI (by omega) (.pure (by rw [aX,Vd];rfl)))))) λh=>absurd (show (g:Int)<3 by omega) h
 unfold cK;exact .bifD (λh=>absurd h (by simp only [];omega)) λ_ => .pure rfl
theorem p7 {α:Type} {f g:Nat->List α} {n:Nat} (h:∀ i,i<n->f i=g i):(U4 n).flatMap f=(U4 n).flatMap g:=uE λi hi=>h i (Vl.1 hi)
theorem OB (hp:PV p) (C:Cand p x (Cf p)) {b:Bool} (h:cT p ⟨x.1,x.2⟩=some (V,b)) (hV:b=true->Vok p x V):PE (lg p ⟨x.1,x.2⟩) λq=>q.2=b/\(b=true->q.1=Gx p x V):=by
 have hl3:=hp.vs.1;have hel:=jo hp.vs;unfold lg;refine (PE.of (P:=(· = (V,b))) h rfl).bind λw hw=>?_;subst hw
 cases b with
 | false=>exact .bif (λ_ => .pure ⟨rfl,λe=>by cases e⟩) λh=>by cases h
 | true=>
  have hV:=hV rfl;have hwr:∀ j:Int,j∈Cf p->(ev p j).az=true->(0<=j/\j<(V.length:Int))/\0<=V.getD j.toNat default/\V.getD j.toNat default<=3:=λj hj hjw=>by
   obtain ⟨j0,j1⟩:=(C.mem j).1 hj;obtain ⟨v0,v1⟩:=hV.v j j0 j1 hjw;exact ⟨⟨j0,by rw [hV.l];exact j1⟩,v0,v1⟩
  refine .bif (λh=>by cases h) λ_=>?_;refine PE.bind (P:=λq=>∃ a,q=A9 a/\∀ t g:Nat,t<p.length->g<3->Z3b.get (Z33.get a t) g=vv x V (lrd p (t:Int) ((p.getD t default).length:Int) (g:Int))) ?_ λq ⟨a,ha,hA⟩ => ?_
  ·refine (AA hp.vs).bind λv4 h4=>?_;subst h4;refine PE.loop (λq=>∃ (a:Z33) (n:Nat),n<=(evs p).length/\q=(a.x0.x0,a.x0.x1,a.x0.x2,a.x1.x0,a.x1.x1,a.x1.x2,a.x2.x0,a.x2.x1,a.x2.x2,(n:Int))/\∀ t g:Nat,t<p.length->g<3->Z3b.get (Z33.get a t) g=vv x V (lrN p (t:Int) ((p.getD t default).length:Int) (g:Int) n))
    (λq=>(((evs p).length:Int)-q.2.2.2.2.2.2.2.2.2).toNat) ⟨⟨⟨0,0,0⟩,⟨0,0,0⟩,⟨0,0,0⟩⟩,0,by omega,rfl,λt g ht hg=>?_⟩ λq ⟨a,n,n1,n2,n3⟩ => ?_
   ·have k1:t=0\/t=1\/t=2:=by omega
    have k2:g=0\/g=1\/g=2:=by omega
    rcases k1 with rfl | rfl | rfl <;> rcases k2 with rfl | rfl | rfl <;> rfl
   subst n2;unfold qm;have en:(evs p).getD n default=ev p (n:Int):=by unfold ev;rw [tnn]
   simp only [tnn,en];refine .bifD (λhk=>?_) λhk => .pure ⟨a,rfl,λt g ht hg=>?_⟩
   ·refine PE.bind (P:=λq=>∃ a',q=A9 a'/\∀ t g:Nat,t<p.length->g<3->Z3b.get (Z33.get a' t) g=vv x V (lrN p (t:Int) ((p.getD t default).length:Int) (g:Int) (n+1))) (.gdD ⟨by omega,hk⟩ (.bif (λhr=>?_) λhr => .pure ⟨a,rfl,λt g ht hg=>?_⟩)) λq ⟨a',ha',hA'⟩ => ?_
    ·have hnF:(n:Int)∈Cf p:=(C.mem _).2 ⟨by omega,by omega⟩;rcases wB (p:=p) (n:=(n:Int)) (by omega) hk with h3 | ⟨t,k,hI,hn⟩
     ·rw [(xJ (p:=p) (l:=n) (by omega)).1] at hr
      cases hr
     have hfr:=C.rdc _ hnF hr;have hI3:=hp.ins t k hI.t hI.k;have hev:=hI.ev.1;rw [<- hn] at hev;have hloc:=pz hp (n:=(n:Int)) (by omega) hk;have hj:=(((C.ods _ hloc).mem _).1 hfr);rw [tnn] at hj;obtain ⟨w1,w3,w4⟩:=hwr _ hj.1 hj.2.1;obtain ⟨i1,i2,i3,i4,_,_⟩:=hI3;have hIt:=hI.t;have hIk:=hI.k;rw [hev] at hr ⊢;simp only [tnn] at hr ⊢;refine .gdD ⟨by omega,by omega⟩ (.gdD ⟨by omega,by omega⟩ (.gdD ⟨by omega,by rw [C.flen];omega⟩ (.gdD w1 (.gdY (by omega) (.gdD ⟨by omega,by omega⟩ (.gdD ⟨i3,by omega⟩ (.pure ⟨_,rfl,λt' g ht' hg=>?_⟩)))))));rw [Hz _ _ _ _ (by omega) (by omega),lrN];have hcI:lrC p (t':Int) ((p.getD t' default).length:Int) (g:Int) (ev p (n:Int))=true↔t'=t/\((p.getD t default).getD k default).Reg=(g:Int):=by
      rw [xL,hev];simp only [tnn]
      constructor
      ·rintro ⟨a1,a2,a3,a4⟩;obtain rfl:t=t':=by omega
       exact ⟨rfl,a4⟩
      rintro ⟨rfl,a2⟩;exact ⟨rfl,by omega,hr,a2⟩
     by_cases et:t'=t
     ·subst et;rw [if_pos rfl,Fj _ _ _ _ (by omega) (by omega)]
      by_cases eg:(g:Int)=((p.getD t' default).getD k default).Reg
      ·rw [if_pos eg,if_pos (hcI.2 ⟨rfl,eg.symm⟩)];unfold vv;rw [if_neg (by omega),tnn]
      rw [if_neg eg,if_neg λh=>eg (hcI.1 h).2.symm];exact n3 t' g ht' hg
     rw [if_neg (by omega),if_neg λh=>et (hcI.1 h).1];exact n3 t' g ht' hg
    ·rw [lrN,if_neg]
     ·exact n3 t g ht hg
     intro h;rw [(xL.1 h).2.2.1] at hr
     cases hr
    subst ha';exact .gdI (by omega) (.pure ⟨⟨a',n+1,by omega,rfl,hA'⟩,by simp only [];omega⟩)
   have : n=(evs p).length:=by omega
   rw [n3 t g ht hg,this]
   rfl
  subst ha;refine PE.bind (P:=λq:Int×Int×Int=>∀ l:Nat,l<3->Z3b.get ⟨q.1,q.2.1,q.2.2⟩ l=V.getD (AL x l).toNat default) ?_ λq hM=>?_
  ·refine PE.loop (λq=>∃ n:Nat,n<=3/\q.2.2.2=(n:Int)/\∀ l:Nat,l<n->Z3b.get ⟨q.1,q.2.1,q.2.2.1⟩ l=V.getD (AL x l).toNat default) (λq=>(3-q.2.2.2).toNat) ⟨0,by omega,rfl,λl hl=>absurd hl (by omega)⟩ λq ⟨n,n1,n2,n3⟩ => ?_;obtain ⟨m0,m1,m2,m3⟩:=q;simp only at n2 n3;subst n2;unfold pq;have e:(x.2.getD n default).getD (((x.2.getD n default).length:Int)-1).toNat default=AL x n:=rfl;simp only [tnn,C.olen,e];refine .bifD (λhk=>?_) λhk => .pure λl hl=>n3 l (by omega);obtain ⟨g0,g1,g2,g3⟩:=wI hp C (show n<3 by omega);obtain ⟨w1,w3,w4⟩:=hwr _ g2 g3;refine .gdD ⟨by omega,by omega⟩ (.gdI (by omega) (.gdD ⟨by omega,by omega⟩ (.gdD w1 (.gdY (by omega) (.gdD ⟨by omega,by omega⟩ (.gdI (by omega) (.pure ⟨⟨n+1,by omega,rfl,λl hl=>?_⟩,by simp only [];omega⟩)))))));show Z3b.get (Z3b.set ⟨m0,m1,m2⟩ (n:Int) _) (l:Int)=_;rw [Fj _ _ _ _ (by omega) (by omega)]
   by_cases e:l=n
   ·subst e;rw [if_pos rfl]
   rw [if_neg (by omega)];exact n3 l (by omega)
  refine (IZ (u:=⟨p,⟨0,0,0⟩,a,⟨q.1,q.2.1,q.2.2⟩⟩) hl3 (λt g ht hg=>?_) (λg hg=>?_)).bind λr hr => .pure ⟨rfl,λ_=>?_⟩
  ·have h1:=hA t g ht hg;obtain ⟨b1,b2,_⟩:=Nt hp C hV (t:Int) ((p.getD t default).length:Int) (g:Int);simp only [];rw [h1];omega
  ·have h1:=hM g hg;obtain ⟨_,_,g2,g3⟩:=wI hp C hg;obtain ⟨w1,w3,w4⟩:=hwr _ g2 g3;simp only [];rw [h1];omega
  simp only [];rw [hr];unfold Gx IY;refine congr (congrArg _ (p7 λt ht=>p7 λg hg=>?_)) (p7 λl hl=>?_)
  ·exact congrArg (λn=>[n]) (hA t g ht hg)
  exact congrArg (λn=>[n]) (hM l hl)
end
end
end Go.Proofs.YtpkhamajimidnaaGreatDoor
