/- Texts joined. No conditions. -/
import Derived.Test.YtpkhamajimidnaaGreatDoorProg
import Derived.Shelf.Strings.OnBuilder
import Derived.OpenShut
import Derived.BigRegion
import Derived.Sort.Row
import Derived.Sort.Grow
import Derived.Shelf.Slices.Delete
import Derived.Shelf.SortM.Plain
import Derived.Shelf.SortM.SortNone
import Derived.Test.YtpkhamajimidnaaGreatDoorW10
namespace Go.Proofs.YtpkhamajimidnaaGreatDoor
noncomputable section
open _root_.ByteArray renaming size_append -> VC, ext -> VV, data_append -> VW
open _root_.Nat renaming le_refl -> VD, le_trans -> VU, lt_of_lt_of_le -> VY
open _root_.Bool renaming not_eq_true' -> VE, not_eq_false' -> VG, true_and -> VH, and_assoc -> VK, and_eq_true_iff -> VX
open _root_.Option renaming bind -> VF, bind_eq_some_iff -> V4
open _root_.List renaming all_eq_true -> VI, length_take -> VJ, getElem_of_mem -> VM, replicate -> VN, ext_getElem? -> VO, take_length -> VP, filter_append -> VQ, filter_cons_of_neg -> VR, take_of_length_le -> VS, filter_eq_self -> VZ, filter_cons_of_pos -> V2, length_filter_le -> V3
open _root_.Array renaming getElem?_modify -> V5, getElem?_eq_some_iff -> V6
open Go.RowKit
set_option maxRecDepth 100000
section
variable {p:List (List Px)} {x:XS}
theorem Gt (hp:PV p) (C:Cand p x (Cf p)) {V W:LI} (h:∀ i:Nat,i<(evs p).length->(ev p (i:Int)).az=true->W.getD i default=V.getD i default):Gx p x W=Gx p x V:=by
 have key:∀ j:Int,j∈Cf p->(ev p j).az=true->W.getD j.toNat default=V.getD j.toNat default:=λj hj hw=>by
  obtain ⟨j0,j1⟩:=(C.mem j).1 hj;exact h j.toNat (by omega) (by rw [Int.toNat_of_nonneg j0];exact hw)
 unfold Gx IY;refine congr (congrArg _ (p7 λt ht=>p7 λg hg=>?_)) (p7 λl hl=>?_)
 ·refine congrArg (λn=>[n]) ?_;unfold vv
  split
  ·rfl
  rename_i hr;rcases Ea (p:=p) (t:Int) ((p.getD t default).length:Int) (g:Int) with ⟨g1,_⟩ | ⟨r,g1,g2,g3,_⟩
  ·omega
  have hrd:=(xL.1 g3).2.2.1;have hrF:(r:Int)∈Cf p:=(C.mem _).2 ⟨by omega,by omega⟩;have hfr:=((C.ods _ (pz hp (n:=(r:Int)) (by omega) (by omega))).mem _).1 (C.rdc _ hrF hrd);rw [show (r:Int)=lrd p (t:Int) ((p.getD t default).length:Int) (g:Int) from g2.symm] at hfr;exact key _ hfr.1 hfr.2.1
 refine congrArg (λn=>[n]) ?_;obtain ⟨_,_,h2,h3⟩:=wI hp C hl;exact key _ h2 h3
theorem FJ (V:LI):(Gx p x V).length=3*p.length+3:=by
 unfold Gx;rw [lla,AO (IY p x V) 3 _ (λi=>ug _ 3),ug];omega
def gO (p:List (List Px)) (o:LI) (c:Py):Bool:=match cT p c with
 | some (V,true)=>decide (Gx p (c.From,c.Order) V=o)
 | _=>false
theorem L9 (hp:PV p) {o:LI} (C:Cand p x (Cf p)):PE (dh ⟨x.1,x.2⟩ p o) (· = !gO p o ⟨x.1,x.2⟩):=by
 obtain ⟨V,W,b,k1,_,k3⟩:=xM hp C;have h:=OB hp C k1 λe=>by
  obtain ⟨a1,_,a3⟩:=k3 e;exact Vok.of hp C a1 λi hi hw=>(a3 i hi hw).1
 unfold dh gO;rw [k1];refine h.bind λq ⟨q1,q2⟩ => ?_;rw [q1]
 refine PE.bind (P:=(· = !(match (some (V,b):Option (List Int×Bool)) with
  | some (V,true)=>decide (Gx p (x.1,x.2) V=o)
  | _=>false))) ?_ λv hv => .pure hv
 cases b with
 | false=>exact .bif (λ_ => .pure rfl) λh=>by cases h
 | true=>
  have e:=q2 rfl;rw [e];have hl:=FJ (p:=p) (x:=x) V;have := hp.vs.1;exact .bif (λh=>by cases h) λ_=>(Gh (by omega)).bind λv hv => .pure (by rw [hv])
theorem Ma (hp:PV p) {o:LI} (ho:o.length=3*p.length+3) (C:Cand p x (Cf p)):PE (VF (dM p ⟨x.1,x.2⟩) λv12=>VF (bif v12.2 then VF (iI p ⟨x.1,x.2⟩ v12.1) λv15=>VF (mQ v15 o) λv16=>some (v16==(0:Int)) else some false) λs13=>some s13) (· = gO p o ⟨x.1,x.2⟩):=by
 obtain ⟨V,W,b,k1,k2,k3⟩:=xM hp C;unfold gO;rw [k1];refine (PE.of (P:=(· = (W,b))) k2 rfl).bind λw hw=>?_;subst hw
 refine PE.bind (P:=(· = (match (some (V,b):Option (List Int×Bool)) with
  | some (V,true)=>decide (Gx p (x.1,x.2) V=o)
  | _=>false))) ?_ λv hv => .pure hv
 cases b with
 | false=>exact .bif (λh=>by cases h) λ_ => .pure rfl
 | true=>
  obtain ⟨a1,a2,a3⟩:=k3 rfl;have hW:Vok p x W:=Vok.of hp C a2 λi hi hw=>by
   obtain ⟨c1,c2⟩:=a3 i hi hw;rw [c2];exact c1
  have hl:=FJ (p:=p) (x:=x) V;have := hp.vs.1;refine .bif (λ_=>(OA hp C hW).bind λu hu=>?_) λh=>by cases h
  rw [Gt hp C λi hi hw=>(a3 i hi hw).2] at hu;subst hu;refine (JH (by rw [hl,ho]) (by omega)).bind λv hv => .pure ?_;rw [hv,Bool.eq_iff_iff,beq_iff_eq,dte];exact ⟨λh=>cmpL_eq h,λh=>by rw [show Gx p x V=o from h];exact DN _⟩
theorem JZ {p:List (List Px)} {m:LI} {good:Py->Bool} (v:List Py) (hl:v.length<=1000000) (heq:∀ a∈v,PE (dh a p m) (· = !good a)):PE (aC v p m) (· = v.filter good):=by
 unfold aC;refine PE.bind (P:=λr:Int=>(r = -1/\∀ n∈v,good n=true)\/(0<=r/\r<(v.length:Int)/\good (v.getD r.toNat default)=false/\∀ n∈v.take r.toNat,good n=true)) ?_ λr hr=>?_
 ·unfold aQ;refine PE.sum (PS:=λ_=>∀ n∈v,good n=true) (PW:=λr:Int=>(r = -1/\∀ n∈v,good n=true)\/(0<=r/\r<(v.length:Int)/\good (v.getD r.toNat default)=false/\∀ n∈v.take r.toNat,good n=true)) ?_ λ_ h => .pure (.inl ⟨rfl,h⟩);refine PE.loop (λz=>∃ k:Nat,k<=v.length/\z=(k:Int)/\∀ n∈v.take k,good n=true) (λz=>((v.length:Int)-z).toNat) ⟨0,by omega,rfl,by simp⟩ λz ⟨k,h1,h2,h3⟩ => ?_;subst h2;unfold bq;simp only [tnn];refine .bifD (λhk => .gdD ⟨by omega,hk⟩ ((heq _ (getD_in (by omega))).bind λb hb=>?_)) λhk => .pure ?_
  ·subst hb;refine .bif (λhe => .pure (.inr ⟨by omega,hk,by rw [tnn];simpa using he,by rw [tnn];exact h3⟩)) λhe => .gdI (by omega) (.pure ⟨⟨k+1,by omega,rfl,λn hn=>?_⟩,by omega⟩);rw [dJ (by omega),List.mem_append,List.mem_singleton] at hn;rcases hn with hn | rfl
   ·exact h3 n hn
   simpa using he
  rwa [show k=v.length by omega,VP] at h3
 rcases hr with ⟨rfl,h⟩ | ⟨r0,r1,r2,r3⟩
 ·refine .bif (λ_ => .pure ?_) λh=>by cases h
  rw [VZ.2 λn hn=>h n hn]
 refine .bif (λh=>by have := eq_of_beq h;omega) λ_=>?_;refine PE.bind (P:=λz=>z.1.length=v.length/\(0<=z.2/\z.2<=(v.length:Int))/\z.1.take z.2.toNat=v.filter (good)) (.gdI (by omega) ?_) λz ⟨z1,⟨z2,z3⟩,z4⟩ => ?_
 ·refine PE.loop (λz=>∃ j k:Nat,j<=v.length/\k<=j/\z.2.1=(j:Int)/\z.2.2=(k:Int)/\z.1.length=v.length/\(∀ q:Nat,j<=q->z.1[q]? = v[q]?)/\z.1.take k=(v.take j).filter (good)) (λz=>((v.length:Int)-z.2.1).toNat) ⟨r.toNat+1,r.toNat,by omega,by omega,by simp only [];omega,by simp only [];omega,rfl,λ_ _=>rfl,?_⟩ λz ⟨j,k,h1,h2,h3,h4,h5,h6,h7⟩ => ?_
  ·simp only [];rw [dJ (by omega),VQ,VZ.2 λn hn=>r3 n hn,VR (by rw [r2];decide)];simp
  obtain ⟨s,z1,z2⟩:=z;simp only at h3 h4 h5 h6 h7;subst h3 h4;unfold aJ;simp only [tnn,h5];refine .bifD (λhk=>?_) λhk => .pure ⟨h5,⟨by simp only [];omega,by simp only [];omega⟩,?_⟩
  ·have hj:j<v.length:=by omega
   have e1:s.getD j default=v.getD j default:=by rw [gdq,gdq,h6 j (VD _)]
   rw [e1];refine PE.bind (P:=λz:List Py×Int=>∃ k:Nat,k<=j+1/\z.2=(k:Int)/\z.1.length=v.length/\(∀ q:Nat,j+1<=q->z.1[q]? = v[q]?)/\z.1.take k=(v.take (j+1)).filter (good)) (.gdD ⟨by omega,hk⟩ ((heq _ (getD_in hj)).bind λb hb=>?_)) λz ⟨k',g1,g2,g3,g4,g5⟩ => .gdI (by omega) (.pure ⟨⟨j+1,k',by omega,g1,rfl,g2,g3,g4,g5⟩,by simp only [];omega⟩);subst hb;rw [dJ hj,VQ];refine .bif (λhn=>?_) λhn=>?_
   ·refine .gdD ⟨by omega,by omega⟩ (.gdI (by omega) (.pure ⟨k+1,by omega,rfl,by simp [h5],λq hq=>?_,?_⟩))
    ·simp only [];rw [List.getElem?_set_ne (by omega)];exact h6 q (by omega)
    simp only [];have hks:k<s.length:=by omega
    rw [List.take_add_one,List.getElem?_set_self hks,List.take_set_of_le (VD _),h7]
    congr 1
    rw [V2 (show good (v.getD j default)=true by simpa using hn)]
    rfl
   refine .pure ⟨k,by omega,rfl,h5,λq hq=>h6 q (by omega),?_⟩;simp only [];rw [h7,VR (show ¬ good (v.getD j default)=true by simpa using hn)];simp
  simp only [];rw [tnn,h7,show j=v.length by omega,VP]
 refine .gdD ⟨by omega,by omega⟩ (.gdD ⟨z2,by omega,by omega⟩ (.gdD ⟨by omega,z2,by omega⟩ (.pure ?_)));rw [<- z4];simp only [cpy,Nat.zero_add,show (0:Int).toNat=0 from rfl,List.drop_zero,Nat.sub_zero]
 split
 ·rw [List.append_assoc,List.take_append_of_le_length (by rw [VJ];omega),List.take_take,Nat.min_self]
 rfl
theorem Db (hv:bB (PH p)=true):(ez p).length<=3000:=by
 have := (few hv).all;unfold ez;rw [cZ (m:=(qo (chO p)).length) λa _=>by simp];exact this
theorem Nu (hv:bB (PH p)=true) {o:LI} (ho:cz p o=some true):PE (lj p o) (· = (ez p).filter (gO p o)):=by
 have hp:=PV.of hv;unfold lj;refine (PE.of (P:=(· = true)) ho rfl).bind λv1 h1=>?_;subst h1;refine .bif (λh=>by cases h) λ_=>(H8 hv).bind λv3 h3=>?_;subst h3;exact (JZ (ez p) (by have := Db hv;omega) λc hc=>L9 hp (x:=(c.From,c.Order)) (nC hp hc)).bind λv hv => .pure hv
theorem Nv (hv:bB (PH p)=true) {o:LI} (ho:o.length=3*p.length+3):PE (nU p o) (· = (ez p).filter (gO p o)):=by
 have hp:=PV.of hv;have hle:=Db hv;unfold nU;refine (H9 hv).bind λv1 h1=>?_;subst h1;refine PE.bind (P:=(· = (ez p).filter (gO p o))) ?_ λv hv => .pure hv;refine PE.loop (λz=>∃ n:Nat,n<=(ez p).length/\z=(((ez p).take n).filter (gO p o),(n:Int))) (λz=>(((ez p).length:Int)-z.2).toNat) ⟨0,by omega,by simp⟩ λz ⟨n,n1,n2⟩ => ?_;subst n2;unfold nA;simp only [tnn];refine .bifD (λhk=>?_) λhk => .pure (by rw [VS (by omega)]);have hn:n<(ez p).length:=by omega
 have hlen:(((ez p).take n).filter (gO p o)).length<=3000:=VU (V3 _ _) (by rw [VJ];omega);have h1:=Ma hp ho (x:=(((ez p).getD n default).From,((ez p).getD n default).Order)) (nC hp (getD_in hn));refine PE.bind (P:=(· = ((ez p).take (n+1)).filter (gO p o))) (.gdD ⟨by omega,hk⟩ ?_) λv hv => .gdI (by omega) (.pure ⟨⟨n+1,by omega,by rw [hv];rfl⟩,by simp only [];omega⟩);rw [dJ hn,VQ];obtain ⟨b,e,hb⟩:=h1;obtain ⟨q,e1,e2⟩:=V4.1 e;refine (PE.of (P:=(· = q)) e1 rfl).bind λw hw=>?_;subst hw;obtain ⟨b',e3,e4⟩:=V4.1 e2;obtain rfl:=osl e4;refine (PE.of (P:=(· = b')) e3 rfl).bind λw hw=>?_;subst hw;have hb:w=gO p o ((ez p).getD n default):=hb;refine .bif (λh => .gd (aI (by omega) rfl) (.pure ?_)) λh => .pure ?_
 ·rw [V2 (by rw [<- hb];exact h)]
  rfl
 rw [VR (by rw [<- hb,h];decide)];simp
def vaO (p:List (List Px)) (o:LI):Bool:=bB (PH p)&&(decide (o.length=3*p.length+3)&&o.all λv=>decide (0<=v)&&decide (v<=3))
theorem Nw (hsz:p.length<=1048576/\total p<=1048576) {o:LI} (ho:o.length<=1048576):PE (cz p o) (· = vaO p o):=by
 have hI:gW p=some (bB (PH p)):=tO (decide_eq_true hsz);unfold cz vaO;refine (PE.of (P:=(· = bB (PH p))) hI rfl).bind λv1 h1=>?_;subst h1;refine PE.bind (P:=(· = (bB (PH p)&&decide (o.length=3*p.length+3)))) (.bif (λh => .gdI (by omega) (.gdI (by omega) (.gdI (by omega) (.pure ?_)))) λh => .pure (by rw [h];rfl)) λb hb=>?_
 ·rw [h,VH,CM];exact decide_eq_decide.2 (by omega)
 refine PE.bind (P:=(· = (bB (PH p)&&(decide (o.length=3*p.length+3)&&o.all λv=>decide (0<=v)&&decide (v<=3))))) (.bif (λh=>?_) λh => .pure ?_) λv hv => .pure hv
 ·rw [<- VK,<- hb,h,VH];unfold aU aZ;refine PE.bind (P:=(· = !(o.all λv=>decide (0<=v)&&decide (v<=3)))) (PE.bind (P:=λv:Int=>(0<=v↔(o.all λv=>decide (0<=v)&&decide (v<=3))=false)) ?_ λv hv => .pure ?_) λv hv => .pure (by rw [hv,Bool.not_not])
  ·refine PE.sum (PS:=λ_=>(o.all λv=>decide (0<=v)&&decide (v<=3))=true) (PW:=λv:Int=>(0<=v↔(o.all λv=>decide (0<=v)&&decide (v<=3))=false)) ?_ λ_ hn => .pure (by rw [hn];simp);refine PE.loop (λz=>∃ i:Nat,i<=o.length/\z=(i:Int)/\∀ j,j<i->0<=o.getD j default/\o.getD j default<=3) (λz=>((o.length:Int)-z).toNat) ⟨0,by omega,rfl,λj hj=>by omega⟩ λz ⟨i,h1,h2,h3⟩ => ?_;subst h2;unfold bH jl;simp only [tnn];refine .bifD (λhk => .gdD ⟨by omega,hk⟩ (PE.bind (P:=(· = !(decide (0<=o.getD i default)&&decide (o.getD i default<=3)))) ((xO _ _ _).bind λw hw => .pure (by rw [hw])) λw hw => .bif (λhb2 => .pure ⟨λ_=>?_,λ_=>by omega⟩) λhb2 => .gdI (by omega) (.pure ⟨⟨i+1,by omega,rfl,λj hj=>?_⟩,by omega⟩))) λhk => .pure ?_
   ·rw [List.all_eq_false];refine ⟨o.getD i default,getD_in (by omega),?_⟩;rw [hw] at hb2;rw [(VE _).mp hb2]
    decide
   ·by_cases e:j=i
    ·subst e;rw [hw] at hb2;have := (VG _).mp hb2;rw [bae,dte,dte] at this;exact this
    exact h3 j (by omega)
   show (o.all λv=>decide (0<=v)&&decide (v<=3))=true;rw [VI];intro r hr;obtain ⟨j,hj,rfl⟩:=VM hr;have := h3 j (by omega);rw [gdq,geq hj] at this;rw [bae,dte,dte];exact this
  show decide ((0:Int)<=v)=_
  cases h:(o.all λv=>decide (0<=v)&&decide (v<=3)) with
  | true=>exact decide_eq_false λe=>by rw [hv.1 e] at h;cases h
  | false=>exact decide_eq_true (hv.2 h)
 rw [<- VK,<- hb,h]
 rfl
theorem Ny (hsz:p.length<=1048576/\total p<=1048576) {o:LI} (ho:o.length<=1048576):PE (ij p o) (· = vaO p o):=by
 have hI:cm p=some (bB (PH p)):=tO (decide_eq_true hsz);unfold ij vaO;refine (PE.of (P:=(· = bB (PH p))) hI rfl).bind λv1 h1=>?_;subst h1;refine PE.bind (P:=(· = !(bB (PH p)&&decide (o.length=3*p.length+3)))) (.bif (λh => .pure ?_) λh=>?_) λb hb => .bif (λh => .pure ?_) λh=>?_
 ·rw [(VE _).mp h];rfl
 ·unfold sM;refine PE.bind (P:=(· = ((3*p.length+3:Nat):Int))) (.gdI (by omega) (.gdI (by omega) (.gdI (by omega) (.pure (by omega))))) λv hv => .pure ?_;subst hv;rw [(VG _).mp h,VH];show (!((o.length:Int)==((3*p.length+3:Nat):Int)))=_;rw [CM];exact congrArg _ (decide_eq_decide.2 (by omega))
 ·rw [<- VK,(VE _).mp (hb.symm.trans h)]
  rfl
 rw [<- VK,(VG _).mp (hb.symm.trans h),VH];refine PE.sum (PS:=λ_=>(o.all λv=>decide (0<=v)&&decide (v<=3))=true) (PW:=(· = o.all λv=>decide (0<=v)&&decide (v<=3))) ?_ λ_ hn => .pure hn.symm;refine PE.loop (λz=>∃ i:Nat,i<=o.length/\z=(i:Int)/\∀ j,j<i->0<=o.getD j default/\o.getD j default<=3) (λz=>((o.length:Int)-z).toNat) ⟨0,by omega,rfl,λj hj=>by omega⟩ λz ⟨i,h1,h2,h3⟩ => ?_;subst h2;unfold mN vq;simp only [tnn];refine .bifD (λhk => .gdD ⟨by omega,hk⟩ (PE.bind (P:=(· = (decide (0<=o.getD i default)&&decide (o.getD i default<=3)))) (PE.bind (P:=(· = (decide (0<=o.getD i default)&&decide (o.getD i default<=3)))) (.bifD (λh => .pure (by rw [decide_eq_true h,VH])) λh => .pure (by rw [decide_eq_false h];rfl)) λw hw => .pure hw) λw hw => .bif (λhb2 => .pure ?_) λhb2 => .gdI (by omega) (.pure ⟨⟨i+1,by omega,rfl,λj hj=>?_⟩,by omega⟩))) λhk => .pure ?_
 ·show false=_
  symm
  rw [List.all_eq_false];refine ⟨o.getD i default,getD_in (by omega),?_⟩;rw [hw] at hb2;rw [(VE _).mp hb2]
  decide
 ·by_cases e:j=i
  ·subst e;rw [hw] at hb2;have := (VG _).mp hb2;rw [bae,dte,dte] at this;exact this
  exact h3 j (by omega)
 show (o.all λv=>decide (0<=v)&&decide (v<=3))=true;rw [VI];intro r hr;obtain ⟨j,hj,rfl⟩:=VM hr;have := h3 j (by omega);rw [gdq,geq hj] at this;rw [bae,dte,dte];exact this
end
def two (n:Nat):ByteArray:=strOfNums ([((48:Int)+((n / 10:Nat):Int))]:LI)++(strOfNums ([((48:Int)+((n % 10:Nat):Int))]:LI)++(⟨#[]⟩:ByteArray))
theorem Pd {n:Nat} (h:10<=n) (h2:n<=99):bD (n:Int)=some (two n):=by
 refine Ev 1 λk hk=>?_
 match k,hk with
 | k+1,_=>
  show gq (gu k) n=_;refine PE.eq ?_;unfold gq two;refine .bifD (λh=>by omega) λ_ => .bifD (λh=>by omega) λ_=>?_;have e1:(n:Int).tdiv 10=((n / 10:Nat):Int):=rfl;have e2:(n:Int).tmod 10=((n % 10:Nat):Int):=rfl;refine PE.bind (P:=(· = (strOfNums ([((48:Int)+((n % 10:Nat):Int))]:LI)++(⟨#[]⟩:ByteArray),((n / 10:Nat):Int)))) ?_ λs hs=>?_
  ·refine PE.loop (λs=>s=((⟨#[]⟩:ByteArray),(n:Int))\/s=(strOfNums ([((48:Int)+((n % 10:Nat):Int))]:LI)++(⟨#[]⟩:ByteArray),((n / 10:Nat):Int))) (λs=>s.2.toNat) (.inl rfl) λs hs=>?_;unfold m9;rcases hs with rfl | rfl
   ·simp only [e1,e2];refine .bifD (λ_ => .gdD (by decide) (.gdI (by omega) (.gdY (by omega) (.gdD ?_ (.gdI (by omega) (.pure ⟨.inr rfl,by simp only [];omega⟩)))))) λh=>absurd (show (9:Int)<n by omega) h;rw [strOfNums_size];exact nlb rfl
   exact .bifD (λh=>by simp only [] at h;omega) λ_ => .pure rfl
  subst hs;simp only [];refine .gdI (by omega) (.gdY (by omega) (.gdD ?_ (.pure rfl)));rw [VC,strOfNums_size,strOfNums_size];exact nlb rfl
theorem J0:((List.range 90).all λn=>match aT ((n+10:Nat):Int) with
 | none=>false
 | some d=>decide (d=two (n+10))&&decide (d.size<=100))=true:=by decide +kernel
def D_ (n:Int):ByteArray:=(aT n).getD default
theorem J1 {n:Int} (h0:0<=n) (h1:n<100):aT n=some (D_ n)/\bD n=some (D_ n)/\(D_ n).size<=100:=by
 obtain ⟨k,rfl⟩:∃ k:Nat,n=(k:Int):=⟨n.toNat,by omega⟩
 suffices h:∃ d,aT (k:Int)=some d/\bD (k:Int)=some d/\d.size<=100 by
  obtain ⟨d,a1,a2,a3⟩:=h;unfold D_;rw [a1];exact ⟨rfl,a2,a3⟩
 by_cases hk:k<10
 ·exact dig hk
 have := VI.1 J0 (k-10) (List.mem_range.2 (by omega));rw [show k-10+10=k by omega] at this
 cases e4:aT (k:Int) with
 | none=>rw [e4] at this;cases this
 | some d=>
  rw [e4] at this;simp only [bae,dte] at this;obtain ⟨rfl,h2⟩:=this;exact ⟨_,rfl,Pd (by omega) (by omega),h2⟩
structure Sm (r:List Int):Prop where
 l:r.length<=20
 v:∀ j∈r,0<=j/\j<100
theorem FK {α β:Type} [Inhabited α] [Inhabited β] {f:α->β} {l:List α} {n:Nat} (h:n<l.length):(l.map f).getD n default=f (l.getD n default):=by
 rw [gdq,List.getElem?_map,geq h,gdq,geq h]
 rfl
theorem J2 (s:ByteArray):(⟨#[]⟩:ByteArray)++s=s:=by
 apply VV;rw [VW];simp
theorem NU (a b c:ByteArray):a++b++c=a++(b++c):=by
 apply VV;simp only [VW];exact Array.append_assoc
theorem Cm {ts:List ByteArray} {n:Nat} (h:n<ts.length) (sep:ByteArray):jJ (ts.take (n+1)) sep=(if n=0 then (⟨#[]⟩:ByteArray) else jJ (ts.take n) sep++sep)++ts.getD n default:=by
 rw [wH h,xP]
 by_cases h0:n=0
 ·subst h0;rw [if_pos rfl,if_pos (show List.take 0 ts=[] from rfl),J2]
 rw [if_neg h0,if_neg];intro e;have := congrArg List.length e;rw [VJ,List.length_nil] at this;omega
theorem Dc {ts:List ByteArray} {sep:ByteArray} {B k:Nat} (hl:ts.length<=k) (hs:sep.size=1) (h:∀ s∈ts,s.size<=B) (n:Nat):(jJ (ts.take n) sep).size<=k*(B+1):=
 VU (xQ _ sep B λs hs=>h s (List.mem_of_mem_take hs)) (by rw [hs];exact Nat.mul_le_mul_right _ (by rw [VJ];omega))
theorem wJ {ts:List ByteArray} {sep:ByteArray} {B k:Nat} (hl:ts.length<=k) (hs:sep.size=1) (h:∀ s∈ts,s.size<=B):(jJ ts sep).size<=k*(B+1):=by
 have := Dc hl hs h ts.length
 rwa [VP] at this
section
variable {p:List (List Px)} {x:XS} {l:LI} {sep:ByteArray}
theorem Sm.le (h:Sm l):∀ s∈l.map D_,s.size<=100:=λs hs=>by
 obtain ⟨j,hj,rfl⟩:=List.mem_map.1 hs;obtain ⟨b0,b1⟩:=h.v j hj;exact (J1 b0 b1).2.2
theorem Nz (h:Sm l) (hs:sep.size=1):PE (mU l sep) (· = jJ (l.map D_) sep):=by
 have hl:=h.l;have hz:=wJ (by rw [llm];exact hl) hs h.le;unfold mU;refine .gdD (by omega) (PE.bind (P:=(· = l.map D_)) (vu (by simp) (λs h1 h2 h3=>?_) λs hs=>?_) λv hv=>PE.bind (P:=(· = jJ (l.map D_) sep)) ?_ λv hv => .pure hv)
 ·unfold jc;obtain ⟨b0,b1⟩:=h.v _ (rP h1 h2);exact .bifD (λ_ => .gdD ⟨h1,h2⟩ ((PE.of (P:=(· = D_ (l.getD s.2.toNat default))) (J1 b0 b1).1 rfl).bind λv hv => .gdD ⟨h1,by omega⟩ (.gdI (by omega) (.pure (by rw [hv]))))) λh=>absurd h2 h
 ·unfold jc;rw [decide_eq_false hs]
  rfl
 subst hv;unfold fI;exact .gdD ⟨by rw [llm];omega,by omega⟩ (.pure rfl)
theorem NA (h:Sm l) (hs:sep.size=1):PE (pY l sep) (· = jJ (l.map D_) sep):=by
 have hl:=h.l;have hz:=Dc (k:=20) (by rw [llm];exact hl) hs h.le;unfold pY;refine PE.bind (P:=(· = jJ (l.map D_) sep)) ?_ λv hv => .pure hv;refine PE.loop (λz=>∃ n:Nat,n<=l.length/\z=((n:Int),jJ ((l.map D_).take n) sep)) (λz=>((l.length:Int)-z.1).toNat) ⟨0,by omega,rfl⟩ λz ⟨n,n1,n2⟩ => ?_;subst n2;unfold tu;simp only [tnn];refine .bifD (λhk=>?_) λhk => .pure (by rw [VS (by rw [llm];omega)]);have hn:n<l.length:=by omega
 obtain ⟨b0,b1⟩:=h.v _ (kL hn);obtain ⟨_,d2,d3⟩:=J1 b0 b1;have hz:=hz n;refine PE.bind (P:=(· = if n=0 then (⟨#[]⟩:ByteArray) else jJ ((l.map D_).take n) sep++sep)) (.bifD (λh0 => .gdD (by omega) (.pure (by rw [if_neg (by omega)]))) λh0 => .pure (by rw [if_pos (by omega),show n=0 by omega];rfl)) λw hw=>?_;have hws:w.size<=300000:=by
  rw [hw]
  split
  ·decide
  rw [VC];omega
 refine .gdD ⟨by omega,hk⟩ ((PE.of (P:=(· = D_ (l.getD n default))) d2 rfl).bind λv hv=>?_);subst hv;refine .gdD (by omega) (.gdI (by omega) (.pure ⟨⟨n+1,by omega,?_⟩,by simp only [];omega⟩));rw [Cm (by rw [llm];exact hn),FK hn,hw]
 rfl
def frT (F:LI):Nat->ByteArray
 | 0=>⟨#[]⟩
 | n+1=>if 0<=F.getD n default then frT F n++(((D_ (n:Int)++⟨#[60]⟩)++D_ (F.getD n default))++⟨#[32]⟩) else frT F n
def Jn (l:LI):ByteArray:=jJ (l.map D_) ⟨#[44]⟩
def Mo (x:XS):ByteArray:=frT x.1 x.1.length++jJ (x.2.map Jn) ⟨#[47]⟩
structure Smx (x:XS):Prop where
 f:x.1.length<=20
 fv:∀ j∈x.1,j<100
 o:x.2.length=3
 ov:∀ r∈x.2,Sm r
theorem FL {F:LI} (hF:F.length<=20) (h:∀ j∈F,j<100):∀ n:Nat,n<=F.length->(frT F n).size<=n*202
 | 0,_=>VD _
 | n+1,hn=>by
  have ih:=FL hF h n (by omega);rw [frT]
  split
  ·rename_i h0;have a:=(J1 (n:=(n:Int)) (by omega) (by omega)).2.2;have b:=(J1 h0 (h _ (kL hn))).2.2;simp only [VC];have c1:(⟨#[60]⟩:ByteArray).size=1:=rfl;have c2:(⟨#[32]⟩:ByteArray).size=1:=rfl;omega
  omega
theorem Sm.jn (h:Sm l):(Jn l).size<=2020:=wJ (by rw [llm];exact h.l) rfl h.le
theorem Smx.jn (h:Smx x):∀ s∈x.2.map Jn,s.size<=2020:=λs hs=>by
 obtain ⟨r,hr,rfl⟩:=List.mem_map.1 hs;exact (h.ov r hr).jn
theorem Smx.le (h:Smx x):(Mo x).size<=20000:=by
 have a:=FL h.f h.fv _ (VD _);have b:=wJ (sep:=⟨#[47]⟩) (k:=3) (by rw [llm,h.o];omega) rfl h.jn;have := h.f;unfold Mo;rw [VC];omega
theorem J3 (h:Smx x):PE (kv ⟨x.1,x.2⟩) (· = Mo x):=by
 have f1:=h.f;have ho:=h.o;have c1:(⟨#[60]⟩:ByteArray).size=1:=rfl;have c2:(⟨#[32]⟩:ByteArray).size=1:=rfl;have b:=wJ (sep:=⟨#[47]⟩) (k:=3) (by rw [llm,h.o];omega) rfl h.jn;have af:=FL h.f h.fv;unfold kv;refine PE.bind (P:=(· = frT x.1 x.1.length)) ?_ λs hs => .gdD (by simp only [];omega) (PE.bind (P:=(· = x.2.map Jn)) (vu (by simp) (λs h1 h2 h3=>?_) λs hs=>?_) λv hv=>PE.bind (P:=(· = jJ (x.2.map Jn) ⟨#[47]⟩)) ?_ λw hw=>?_)
 ·refine PE.loop (λz=>∃ n:Nat,n<=x.1.length/\z=((n:Int),frT x.1 n)) (λz=>((x.1.length:Int)-z.1).toNat) ⟨0,by omega,rfl⟩ λz ⟨n,n1,n2⟩ => ?_;subst n2;unfold pu;simp only [tnn];refine .bifD (λhk=>?_) λhk => .pure (by rw [show n=x.1.length by omega]);have hn:n<x.1.length:=by omega
  have hv:=h.fv _ (kL hn);have a:=af n n1;refine PE.bind (P:=(· = frT x.1 (n+1))) (.gdD ⟨by omega,hk⟩ (.bifD (λh0=>?_) λh0 => .pure ?_)) λv hv => .gdI (by omega) (.pure ⟨⟨n+1,by omega,by rw [hv];rfl⟩,by simp only [];omega⟩)
  ·obtain ⟨a1,_,a3⟩:=J1 (n:=(n:Int)) (by omega) (by omega);obtain ⟨b1,_,b3⟩:=J1 h0 hv;refine (PE.of (P:=(· = D_ (n:Int))) a1 rfl).bind λv hv=>?_;subst hv;refine .gdD (by omega) ((PE.of (P:=(· = D_ (x.1.getD n default))) b1 rfl).bind λv hv=>?_);subst hv;refine .gdD (by simp only [VC];omega) (.gdD (by simp only [VC];omega) (.gdD (by simp only [VC];omega) (.pure ?_)));rw [frT,if_pos h0]
  rw [frT,if_neg h0]
 ·unfold fE;exact .bifD (λ_ => .gdD ⟨h1,h2⟩ ((Nz (h.ov _ (rP h1 h2)) rfl).bind λv hv => .gdD ⟨h1,by omega⟩ (.gdI (by omega) (.pure (by rw [hv];rfl))))) λh=>absurd h2 h
 ·unfold fE;rw [decide_eq_false hs]
  rfl
 ·subst hv;unfold fI;exact .gdD ⟨by rw [llm];omega,by omega⟩ (.pure rfl)
 have a:=af _ (VD _);subst hs hw;exact .gdD (by omega) (.pure rfl)
theorem J4 (hp:PV p) (hv:bB (PH p)=true) (hsz:p.length<=1048576/\total p<=1048576) (C:Cand p x (Cf p)) (h:Smx x):PE (ku p ⟨x.1,x.2⟩) (· = Mo x):=by
 have f1:=h.f;have ho:=h.o;have c1:(⟨#[60]⟩:ByteArray).size=1:=rfl;have c2:(⟨#[32]⟩:ByteArray).size=1:=rfl;have c3:(⟨#[47]⟩:ByteArray).size=1:=rfl;have b:=Dc (sep:=⟨#[47]⟩) (k:=3) (by rw [llm,h.o];omega) rfl h.jn;have af:=FL h.f h.fv;have hV:=MX hp hv hsz (x:=x) λr hr=>by have := (h.ov r hr).l;omega
 unfold ku;refine hV.bind λv1 h1=>?_;obtain rfl:=h1.2 (Ec hp C);refine .bif (λh=>by cases h) λ_=>PE.bind (P:=(· = frT x.1 x.1.length)) ?_ λs hs=>PE.bind (P:=(· = Mo x)) ?_ λw hw => .pure hw
 ·refine PE.loop (λz=>∃ n:Nat,n<=x.1.length/\z=((n:Int),frT x.1 n)) (λz=>((x.1.length:Int)-z.1).toNat) ⟨0,by omega,rfl⟩ λz ⟨n,n1,n2⟩ => ?_;subst n2;unfold pg;simp only [tnn];refine .bifD (λhk=>?_) λhk => .pure (by rw [show n=x.1.length by omega]);have hn:n<x.1.length:=by omega
  have hv:=h.fv _ (kL hn);have a:=af n n1;refine PE.bind (P:=(· = frT x.1 (n+1))) (.gdD ⟨by omega,hk⟩ (.bifD (λh0=>?_) λh0 => .pure ?_)) λv hv => .gdI (by omega) (.pure ⟨⟨n+1,by omega,by rw [hv];rfl⟩,by simp only [];omega⟩)
  ·obtain ⟨_,a1,a3⟩:=J1 (n:=(n:Int)) (by omega) (by omega);obtain ⟨_,b1,b3⟩:=J1 h0 hv;refine (PE.of (P:=(· = D_ (n:Int))) a1 rfl).bind λv hv=>?_;subst hv;refine .gdD (by omega) (.gdD (by simp only [VC];omega) ((PE.of (P:=(· = D_ (x.1.getD n default))) b1 rfl).bind λv hv=>?_));subst hv;refine .gdD (by simp only [VC];omega) (.gdD (by simp only [VC];omega) (.pure ?_));rw [frT,if_pos h0];simp only [NU]
  rw [frT,if_neg h0]
 have a:=af _ (VD _);refine PE.loop (λz=>∃ n:Nat,n<=3/\z=((n:Int),frT x.1 x.1.length++jJ ((x.2.map Jn).take n) ⟨#[47]⟩)) (λz=>(3-z.1).toNat) ⟨0,by omega,?_⟩ λz ⟨n,n1,n2⟩ => ?_
 ·rw [hs,List.take_zero,IQ];refine Prod.ext rfl (VV ?_);rw [VW];simp
 subst n2;unfold nZ;simp only [tnn];refine .bifD (λhk=>?_) λhk => .pure ?_
 ·have hn:n<x.2.length:=by omega
  have hb:=b n;have hj:=(h.ov _ (getD_in hn)).jn;refine PE.bind (P:=(· = frT x.1 x.1.length++if n=0 then (⟨#[]⟩:ByteArray) else jJ ((x.2.map Jn).take n) ⟨#[47]⟩++⟨#[47]⟩)) (.bifD (λh0 => .gdD (by simp only [VC];omega) (.pure (by rw [if_neg (by omega),NU]))) λh0 => .pure (by rw [if_pos (by omega),show n=0 by omega];rfl)) λw hw=>?_;have hws:w.size<=300000:=by
   rw [hw,VC]
   split
   ·have : (⟨#[]⟩:ByteArray).size=0:=rfl;omega
   rw [VC];omega
  refine .gdD ⟨by omega,by omega⟩ ((NA (h.ov _ (getD_in hn)) rfl).bind λv hv=>?_);have hv:v=Jn (x.2.getD n default):=hv;subst hv;refine .gdD (by omega) (.gdI (by omega) (.pure ⟨⟨n+1,by omega,?_⟩,by simp only [];omega⟩));rw [Cm (by rw [llm];exact hn),FK hn,hw,<- NU]
  rfl
 rw [show n=3 by omega,VS (by rw [llm];omega)]
 rfl
theorem smx (hp:PV p) (hv:bB (PH p)=true) (C:Cand p x (Cf p)):Smx x:=by
 have h15:=Ku hv;refine ⟨by rw [C.flen];omega,λj hj=>?_,C.olen,λr hr=>?_⟩
 ·obtain ⟨i,hi,rfl⟩:=VM hj;have hiF:(i:Int)∈Cf p:=(C.mem _).2 ⟨by omega,by rw [<- C.flen];omega⟩;have e:x.1[i]=x.1.getD (i:Int).toNat default:=by
   rw [tnn,gdq,geq hi];rfl
  rw [e]
  cases hr:(ev p (i:Int)).Reads with
  | true=>
   have := ((C.mem _).1 (((C.ods _ (pz hp (n:=(i:Int)) (by omega) (by rw [<- C.flen];omega))).mem _).1 (C.rdc _ hiF hr)).1);omega
  | false=>rw [C.frN _ hiF hr];decide
 obtain ⟨i,hi,rfl⟩:=VM hr;have h3:i<3:=by rw [<- C.olen];exact hi
 have e:x.2[i]=x.2.getD i default:=by
  rw [gdq,geq hi];rfl
 have e2:od x (i:Int)=x.2.getD i default:=by unfold od;rw [tnn];rfl
 rw [e];refine ⟨by have := (wI hp C h3).2.1;omega,λj hj=>?_⟩;have := (C.mem _).1 (((C.ods (i:Int) ⟨by omega,by omega⟩).mem j).1 (by rw [e2];exact hj)).1;omega
end
section
variable {p:List (List Px)} {m:List ah} {o:LI}
def lnT (p:List (List Px)) (m:List ah) (c:Py):ByteArray:=((Mo (c.From,c.Order)++⟨#[32]⟩)++(aY p c m).getD default)++⟨#[10]⟩
def J5 (p:List (List Px)) (m:List ah) (l:List Py):Nat->ByteArray
 | 0=>⟨#[]⟩
 | n+1=>J5 p m l n++lnT p m (l.getD n default)
theorem I0 (hv:bB (PH p)=true) (hm:vaM m=true) {c:Py} (hc:c∈ez p):aY p c m=some ((aY p c m).getD default)/\dD p c m=some ((aY p c m).getD default)/\((aY p c m).getD default).size<=300000:=by
 have hp:=PV.of hv;obtain ⟨s,s1,s2,s3⟩:=Eb hv (nC hp hc) hm;have s1:aY p c m=some s:=s1;rw [s1];exact ⟨rfl,s2,s3⟩
theorem NB (hv:bB (PH p)=true) (hm:vaM m=true) {c:Py} (hc:c∈ez p):(lnT p m c).size<=400000:=by
 have hp:=PV.of hv;have h1:=(smx hp hv (nC hp hc)).le;have h2:=(I0 hv hm hc).2.2;have c1:(⟨#[10]⟩:ByteArray).size=1:=rfl;have c2:(⟨#[32]⟩:ByteArray).size=1:=rfl;unfold lnT;simp only [VC];omega
theorem I1 (hv:bB (PH p)=true) (hm:vaM m=true) {l:List Py} (hl:∀ c∈l,c∈ez p):∀ n:Nat,n<=l.length->(J5 p m l n).size<=n*400000
 | 0,_=>VD _
 | n+1,hn=>by
  have ih:=I1 hv hm hl n (by omega);have := NB hv hm (hl _ (getD_in (show n<l.length by omega)));rw [J5,VC];omega
theorem OC (hv:bB (PH p)=true) (hm:vaM m=true) {l:List Py} (hl:∀ c∈l,c∈ez p) (h3:l.length<=3000):PE (loopO (fO p m l) ((0:Int),(⟨#[]⟩:ByteArray))) (· = J5 p m l l.length):=by
 have hp:=PV.of hv;have c1:(⟨#[10]⟩:ByteArray).size=1:=rfl;have c2:(⟨#[32]⟩:ByteArray).size=1:=rfl;refine PE.loop (λz=>∃ n:Nat,n<=l.length/\z=((n:Int),J5 p m l n)) (λz=>((l.length:Int)-z.1).toNat) ⟨0,by omega,rfl⟩ λz ⟨n,n1,n2⟩ => ?_;subst n2;unfold fO;simp only [tnn];refine .bifD (λhk=>?_) λhk => .pure (by rw [show n=l.length by omega]);have hn:n<l.length:=by omega
 have hc:=hl _ (getD_in hn);have C:=nC hp hc;have hx:=smx hp hv C;have h1:=hx.le;obtain ⟨e1,_,e3⟩:=I0 hv hm hc;have h4:=I1 hv hm hl n n1;refine .gdD ⟨by omega,hk⟩ ((J3 hx).bind λv hv=>?_);subst hv;refine .gdD (by omega) ((PE.of (P:=(· = (aY p (l.getD n default) m).getD default)) e1 rfl).bind λw hw=>?_);subst hw;exact .gdD (by simp only [VC];omega) (.gdD (by simp only [VC];omega) (.gdD (by simp only [VC];omega) (.gdI (by omega) (.pure ⟨⟨n+1,by omega,rfl⟩,by simp only [];omega⟩))))
theorem OD (hsz:p.length<=1048576/\total p<=1048576) (hv:bB (PH p)=true) (hm:vaM m=true) {l:List Py} (hl:∀ c∈l,c∈ez p) (h3:l.length<=3000):PE (loopO (fM p m l) ((0:Int),(⟨#[]⟩:ByteArray))) (· = J5 p m l l.length):=by
 have hp:=PV.of hv;have c1:(⟨#[10]⟩:ByteArray).size=1:=rfl;have c2:(⟨#[32]⟩:ByteArray).size=1:=rfl;refine PE.loop (λz=>∃ n:Nat,n<=l.length/\z=((n:Int),J5 p m l n)) (λz=>((l.length:Int)-z.1).toNat) ⟨0,by omega,rfl⟩ λz ⟨n,n1,n2⟩ => ?_;subst n2;unfold fM;simp only [tnn];refine .bifD (λhk=>?_) λhk => .pure (by rw [show n=l.length by omega]);have hn:n<l.length:=by omega
 have hc:=hl _ (getD_in hn);have C:=nC hp hc;have hx:=smx hp hv C;have h1:=hx.le;obtain ⟨_,e1,e3⟩:=I0 hv hm hc;have h4:=I1 hv hm hl n n1;refine .gdD ⟨by omega,hk⟩ ((J4 hp hv hsz C hx).bind λv hv=>?_);subst hv;refine .gdD (by omega) (.gdD (by simp only [VC];omega) ((PE.of (P:=(· = (aY p (l.getD n default) m).getD default)) e1 rfl).bind λw hw=>?_));subst hw;refine .gdD (by simp only [VC];omega) (.gdD (by simp only [VC];omega) (.gdI (by omega) (.pure ⟨⟨n+1,by omega,?_⟩,by simp only [];omega⟩)));refine Prod.ext rfl ?_;rw [J5];unfold lnT;simp only [NU]
theorem vA (hsz:p.length<=1048576/\total p<=1048576) (hm:m.length<=1048576) (ho:o.length<=1048576):∃ s,cW p m o=some s/\cV p m o=some s:=by
 obtain ⟨b,e1,h1⟩:=Nw hsz ho;obtain ⟨c,e2,h2⟩:=Ny hsz ho;subst h1 h2;have mi:=LM (m:=m) (by omega);have ms:=LN (m:=m) (by omega);have hs:∀ b:Bool,PE (bif !vaO p o then some true else VF (gB m) λv4=>some (!v4)) (· = !(vaO p o&&vaM m)):=λ_ => .bif (λh => .pure (by rw [(VE _).mp h];rfl)) λh=>mi.bind λw hw => .pure (by rw [(VG _).mp h,hw];rfl);have hs':∀ b:Bool,PE (bif !vaO p o then some true else VF (gp m) λv4=>some (!v4)) (· = !(vaO p o&&vaM m)):=λ_ => .bif (λh => .pure (by rw [(VE _).mp h];rfl)) λh=>ms.bind λw hw => .pure (by rw [(VG _).mp h,hw];rfl)
 cases hb:(vaO p o&&vaM m) with
 | false=>
  rw [hb] at hs hs';refine ⟨⟨#[]⟩,PE.eq ?_,PE.eq ?_⟩
  ·unfold cW;exact (PE.of (P:=(· = vaO p o)) e1 rfl).bind λv hv=>by subst hv;exact (hs true).bind λu hu => .bif (λ_ => .pure rfl) λh=>by rw [hu] at h;cases h
  unfold cV;exact (PE.of (P:=(· = vaO p o)) e2 rfl).bind λv hv=>by subst hv;exact (hs' true).bind λu hu => .bif (λ_ => .pure rfl) λh=>by rw [hu] at h;cases h
 | true=>
  obtain ⟨hvo,hvm⟩:=VX.1 hb;rw [hb] at hs hs';have hvo':=hvo;unfold vaO at hvo';obtain ⟨hv,h5⟩:=VX.1 hvo';obtain ⟨h6,_⟩:=VX.1 h5;have h6:=of_decide_eq_true h6;have hl:∀ c∈(ez p).filter (gO p o),c∈ez p:=λc hc=>(List.mem_filter.1 hc).1;have h3:((ez p).filter (gO p o)).length<=3000:=VU (V3 _ _) (Db hv);have wi:=Nu hv (o:=o) (by rw [e1,hvo]);have ws:=Nv hv h6;have li:=OC hv hvm hl h3;have ls:=OD hsz hv hvm hl h3;generalize J5 p m ((ez p).filter (gO p o)) ((ez p).filter (gO p o)).length=T at li ls;refine ⟨if T=⟨#[]⟩ then ⟨#[110,111,110,101,10]⟩ else T,PE.eq ?_,PE.eq ?_⟩
  ·unfold cW;refine (PE.of (P:=(· = vaO p o)) e1 rfl).bind λv hv=>?_;subst hv;refine (hs true).bind λu hu => .bif (λh=>by rw [hu] at h;cases h) λ_=>PE.bind (P:=(· = T)) (wi.bind λv hv=>by subst hv;exact li) λv hv=>?_;subst hv;exact .bifD (λh => .pure (by rw [if_pos h])) λh => .pure (by rw [if_neg h])
  unfold cV;refine (PE.of (P:=(· = vaO p o)) e2 rfl).bind λv hv=>?_;subst hv;refine (hs' true).bind λu hu => .bif (λh=>by rw [hu] at h;cases h) λ_=>ws.bind λv hv=>?_;subst hv;refine ls.bind λv hv=>?_;subst hv;exact .bifD (λh => .pure (by rw [if_pos h])) λh => .pure (by rw [if_neg h])
end
theorem OE (a:List (List ak)) (m:List ay) (o:LI) (ha:(a.length:Int)<=9223372036854775807/\∀ r∈a,(r.length:Int)<=9223372036854775807)
  (hm:(m.length:Int)<=9223372036854775807) (hw:∀ r∈m,WT r.Expr.inn):dC a m o=some true:=by
 refine PE.eq ?_;unfold dC;refine .bifD (λ_ => .pure rfl) λho=>(Ox a ha).bind λv1 hv1 => .bifD (λ_ => .pure rfl) λhn1=>?_;obtain ⟨g1,g2⟩:0<=v1/\v1+(a.length:Int)+(total a:Int)<=1048576:=by
  rcases hv1 with h | h
  ·exact absurd h hn1
  exact ⟨h.1,h.2.1⟩
 refine (LV m v1 ⟨g1,by omega⟩ hm hw).bind λv5 hv5 => .bifD (λ_ => .pure rfl) λhn5=>?_;obtain ⟨g5,g6⟩:m.length<=1048576/\∀ r∈m,ST r.Expr.inn:=by
  rcases hv5 with h | h
  ·exact absurd h hn5
  exact h
 obtain ⟨p,hto,hsz,heq⟩:=LY (a:=a) (by omega) (by omega);have hr:=JV g5 g6;have hre:=JW g5 g6;have hio:=K8 (a:=o) (by omega);have hoe:=K9 o (by omega);obtain ⟨s,s1,s2⟩:=vA (o:=o) hsz (m:=m.map cvR) (by rw [llm];exact g5) (by omega);refine hto.bind λv7 h7=>hr.bind λv8 h8=>hio.bind λv9 h9=>?_;subst h7 h8 h9;refine (PE.of (P:=(· = s)) s2 rfl).bind λv10 h10=>hto.bind λv11 h11=>hr.bind λv12 h12=>hio.bind λv13 h13=>?_;subst h11 h12 h13;refine (PE.of (P:=(· = s)) s1 rfl).bind λv14 h14=>?_;subst h10 h14;refine .bif (λh=>by simp at h) λ_=>hto.bind λv16 h16=>?_;subst h16;refine heq.bind λv hv=>?_;subst hv;refine .bif (λh=>by cases h) λ_=>hr.bind λv19 h19=>?_;subst h19;refine hre.bind λv hv=>?_;subst hv;refine .bif (λh=>by cases h) λ_=>hio.bind λv22 h22=>?_;subst h22;refine hoe.bind λv hv=>?_;subst hv;exact .bif (λh=>by cases h) λ_ => .pure rfl
theorem PL:TyF Tryz.prog 3 false 1:=⟨by kernel_rfl,by kernel_rfl,by kernel_rfl,by kernel_rfl⟩
theorem zs3:TyZ Tryz.prog 3 [I (0:Int)]:=⟨by kernel_rfl,by kernel_rfl⟩
theorem ty4:TyF Tryz.prog 4 false 1:=⟨by kernel_rfl,by kernel_rfl,by kernel_rfl,by kernel_rfl⟩
theorem zs4:TyZ Tryz.prog 4 [Bo false]:=⟨by kernel_rfl,by kernel_rfl⟩
theorem bt4:uZ Tryz.prog 4=true:=by kernel_rfl
theorem ty5:TyF Tryz.prog 5 false 1:=⟨by kernel_rfl,by kernel_rfl,by kernel_rfl,by kernel_rfl⟩
theorem zs5:TyZ Tryz.prog 5 [Y (0:Int)]:=⟨by kernel_rfl,by kernel_rfl⟩
theorem ty9:TyF Tryz.prog 9 false 1:=⟨by kernel_rfl,by kernel_rfl,by kernel_rfl,by kernel_rfl⟩
theorem zs9:TyZ Tryz.prog 9 [St (⟨#[]⟩:ByteArray)]:=⟨by kernel_rfl,by kernel_rfl⟩
theorem mZ:TyF Tryz.prog 23 false 1:=⟨by kernel_rfl,by kernel_rfl,by kernel_rfl,by kernel_rfl⟩
theorem Pe:TyZ Tryz.prog 23 [.nil]:=⟨by kernel_rfl,by kernel_rfl⟩
theorem zT:TyF Tryz.prog 24 false 1:=⟨by kernel_rfl,by kernel_rfl,by kernel_rfl,by kernel_rfl⟩
theorem Pf:TyZ Tryz.prog 24 [.nil]:=⟨by kernel_rfl,by kernel_rfl⟩
theorem KI:TyF Tryz.prog 32 false 1:=⟨by kernel_rfl,by kernel_rfl,by kernel_rfl,by kernel_rfl⟩
theorem pE:TyF Tryz.prog 34 true 2:=⟨by kernel_rfl,by kernel_rfl,by kernel_rfl,by kernel_rfl⟩
theorem I2:TyZ Tryz.prog 34 [.nil,.nil]:=⟨by kernel_rfl,by kernel_rfl⟩
theorem r9:TyS Tryz.prog 34 [(0,1),(1,1)]:=⟨by kernel_rfl⟩
theorem OG:TyF Tryz.prog 47 false 1:=⟨by kernel_rfl,by kernel_rfl,by kernel_rfl,by kernel_rfl⟩
theorem Pg:TyZ Tryz.prog 47 [.nil]:=⟨by kernel_rfl,by kernel_rfl⟩
theorem O1:TyF Tryz.prog 51 false 1:=⟨by kernel_rfl,by kernel_rfl,by kernel_rfl,by kernel_rfl⟩
theorem NC:TyF Tryz.prog 53 true 3:=⟨by kernel_rfl,by kernel_rfl,by kernel_rfl,by kernel_rfl⟩
theorem Ph:TyZ Tryz.prog 53 [I (0:Int),St (⟨#[]⟩:ByteArray),.nil]:=⟨by kernel_rfl,by kernel_rfl⟩
theorem ND:TyS Tryz.prog 53 [(0,1),(1,1),(2,1)]:=⟨by kernel_rfl⟩
theorem OH:TyF Tryz.prog 55 true 4:=⟨by kernel_rfl,by kernel_rfl,by kernel_rfl,by kernel_rfl⟩
theorem Pi:TyZ Tryz.prog 55 [I (0:Int),I (0:Int),St (⟨#[]⟩:ByteArray),.nil]:=⟨by kernel_rfl,by kernel_rfl⟩
theorem Pj:TyS Tryz.prog 55 [(0,1),(1,3)]:=⟨by kernel_rfl⟩
theorem Ed:TyF Tryz.prog 58 false 1:=⟨by kernel_rfl,by kernel_rfl,by kernel_rfl,by kernel_rfl⟩
theorem Pk:TyZ Tryz.prog 58 [.nil]:=⟨by kernel_rfl,by kernel_rfl⟩
theorem FM:TyF Tryz.prog 61 false 1:=⟨by kernel_rfl,by kernel_rfl,by kernel_rfl,by kernel_rfl⟩
theorem xS:TyF Tryz.prog 63 true 3:=⟨by kernel_rfl,by kernel_rfl,by kernel_rfl,by kernel_rfl⟩
theorem NV:TyZ Tryz.prog 63 [I (0:Int),St (⟨#[]⟩:ByteArray),.nil]:=⟨by kernel_rfl,by kernel_rfl⟩
theorem tv:TyS Tryz.prog 63 [(0,1),(1,1),(2,1)]:=⟨by kernel_rfl⟩
theorem Jc:TyF Tryz.prog 65 true 4:=⟨by kernel_rfl,by kernel_rfl,by kernel_rfl,by kernel_rfl⟩
theorem NW:TyZ Tryz.prog 65 [I (0:Int),I (0:Int),St (⟨#[]⟩:ByteArray),.nil]:=⟨by kernel_rfl,by kernel_rfl⟩
theorem Gy:TyS Tryz.prog 65 [(0,1),(1,3)]:=⟨by kernel_rfl⟩
theorem Mb:TyF Tryz.prog 77 false 1:=⟨by kernel_rfl,by kernel_rfl,by kernel_rfl,by kernel_rfl⟩
theorem Pm:TyZ Tryz.prog 77 [.nil]:=⟨by kernel_rfl,by kernel_rfl⟩
theorem vB:TyF Tryz.prog 80 true 5:=⟨by kernel_rfl,by kernel_rfl,by kernel_rfl,by kernel_rfl⟩
theorem Ee:TyZ Tryz.prog 80 [I (0:Int),I (0:Int),I (0:Int),Bo false,Bo false]:=⟨by kernel_rfl,by kernel_rfl⟩
theorem dA:TyS Tryz.prog 80 [(0,1),(1,1),(2,1),(3,1),(4,1)]:=⟨by kernel_rfl⟩
theorem Bm:TyF Tryz.prog 90 true 4:=⟨by kernel_rfl,by kernel_rfl,by kernel_rfl,by kernel_rfl⟩
theorem Mc:TyZ Tryz.prog 90 [I (0:Int),I (0:Int),I (0:Int),I (0:Int)]:=⟨by kernel_rfl,by kernel_rfl⟩
theorem p6:TyS Tryz.prog 90 [(0,1),(1,1),(2,1),(3,1)]:=⟨by kernel_rfl⟩
theorem O2:TyF Tryz.prog 92 true 4:=⟨by kernel_rfl,by kernel_rfl,by kernel_rfl,by kernel_rfl⟩
theorem Pn:TyZ Tryz.prog 92 [I (0:Int),I (0:Int),I (0:Int),I (0:Int)]:=⟨by kernel_rfl,by kernel_rfl⟩
theorem NY:TyS Tryz.prog 92 [(0,1),(1,1),(2,1),(3,1)]:=⟨by kernel_rfl⟩
theorem J6:TyF Tryz.prog 134 false 1:=⟨by kernel_rfl,by kernel_rfl,by kernel_rfl,by kernel_rfl⟩
theorem OI:TyZ Tryz.prog 136 [.nil,.nil,.nil,.nil,.nil,.nil]:=⟨by kernel_rfl,by kernel_rfl⟩
theorem vC:TyS Tryz.prog 136 [(0,1),(1,2),(3,1),(4,1),(5,1)]:=⟨by kernel_rfl⟩
theorem J7:TyF Tryz.prog 161 true 3:=⟨by kernel_rfl,by kernel_rfl,by kernel_rfl,by kernel_rfl⟩
theorem OJ:TyF Tryz.prog 164 true 16:=⟨by kernel_rfl,by kernel_rfl,by kernel_rfl,by kernel_rfl⟩
theorem NE:TyZ Tryz.prog 164 [.nil,Y (0:Int),Y (0:Int),Y (0:Int),Y (0:Int),Y (0:Int),Y (0:Int),Y (0:Int),Y (0:Int),Y (0:Int),Y (0:Int),Y (0:Int),Y (0:Int),Y (0:Int),Y (0:Int),Y (0:Int)]:=⟨by kernel_rfl,by kernel_rfl⟩
theorem Gu:TyS Tryz.prog 164 [(0,1),(1,3),(4,9),(13,3)]:=⟨by kernel_rfl⟩
theorem OL:TyF Tryz.prog 182 false 1:=⟨by kernel_rfl,by kernel_rfl,by kernel_rfl,by kernel_rfl⟩
theorem Mq:SlT Tryz.prog 22 47 false 1 [.nil] 24:=⟨Tryz.underlying22,OG,Pg,rfl,rfl,by kernel_rfl⟩
theorem aD:SlT Tryz.prog 23 3 false 1 [I (0:Int)] 8:=⟨Tryz.underlying23,PL,zs3,rfl,rfl,by kernel_rfl⟩
theorem gT:SlT Tryz.prog 24 23 false 1 [.nil] 24:=⟨Tryz.underlying24,mZ,Pe,rfl,rfl,by kernel_rfl⟩
theorem Mr:SlT Tryz.prog 27 55 true 4 [I (0:Int),I (0:Int),St (⟨#[]⟩:ByteArray),.nil] 56:=⟨Tryz.underlying27,OH,Pi,rfl,rfl,by kernel_rfl⟩
theorem yM:SlT Tryz.prog 32 58 false 1 [.nil] 24:=⟨Tryz.underlying32,Ed,Pk,rfl,rfl,by kernel_rfl⟩
theorem zU:SlT Tryz.prog 36 65 true 4 [I (0:Int),I (0:Int),St (⟨#[]⟩:ByteArray),.nil] 56:=⟨Tryz.underlying36,Jc,NW,rfl,rfl,by kernel_rfl⟩
theorem NZ:SlT Tryz.prog 47 92 true 4 [I (0:Int),I (0:Int),I (0:Int),I (0:Int)] 32:=⟨Tryz.underlying47,O2,Pn,rfl,rfl,by kernel_rfl⟩
theorem Ms:SlT Tryz.prog 51 53 true 3 [I (0:Int),St (⟨#[]⟩:ByteArray),.nil] 48:=⟨Tryz.underlying51,NC,Ph,rfl,rfl,by kernel_rfl⟩
theorem AP:SlT Tryz.prog 58 90 true 4 [I (0:Int),I (0:Int),I (0:Int),I (0:Int)] 32:=⟨Tryz.underlying58,Bm,Mc,rfl,rfl,by kernel_rfl⟩
theorem De:SlT Tryz.prog 61 63 true 3 [I (0:Int),St (⟨#[]⟩:ByteArray),.nil] 48:=⟨Tryz.underlying61,xS,NV,rfl,rfl,by kernel_rfl⟩
theorem AQ:SlT Tryz.prog 71 34 true 2 [.nil,.nil] 48:=⟨Tryz.underlying71,pE,I2,rfl,rfl,by kernel_rfl⟩
theorem pG:SlT Tryz.prog 77 80 true 5 [I (0:Int),I (0:Int),I (0:Int),Bo false,Bo false] 32:=⟨Tryz.underlying77,vB,Ee,rfl,rfl,by kernel_rfl⟩
theorem AR:SlT Tryz.prog 101 9 false 1 [St (⟨#[]⟩:ByteArray)] 16:=⟨Tryz.underlying101,ty9,zs9,rfl,rfl,by kernel_rfl⟩
theorem Md:SlT Tryz.prog 123 5 false 1 [Y (0:Int)] 1:=⟨Tryz.underlying123,ty5,zs5,rfl,rfl,by kernel_rfl⟩
theorem J8:SlT Tryz.prog 134 4 false 1 [Bo false] 1:=⟨Tryz.underlying134,ty4,zs4,rfl,rfl,by kernel_rfl⟩
theorem sP:SlT Tryz.prog 152 24 false 1 [.nil] 24:=⟨Tryz.underlying152,zT,Pf,rfl,rfl,by kernel_rfl⟩
open Go.Shelf Go.RowKit Go.Lib
def KJ:Go.Shelf.Ren:=⟨λ| 156=>73 | 165=>124 | 166=>125 | 169=>126 | 240=>180 | 241=>181 | 276=>209 | 277=>210 | n=>n,λ| 31=>101 | 9=>9 | 3=>3 | 4=>4 | 0=>0 | 20=>20 | 72=>143 | 76=>147 | 70=>141 | 37=>123 | 75=>146 | 127=>187 | 164=>208 | 5=>5 | 80=>149 | n=>n,λ| n=>n⟩
theorem KL:Go.Proofs.Lays.n156 Tryz.prog KJ where
 mixed:=by kernel_rfl
 f156:=Tryz.func73.trans (congrArg some (by kernel_rfl))
 f165:=Tryz.func124.trans (congrArg some (by kernel_rfl))
 f166:=Tryz.func125.trans (congrArg some (by kernel_rfl))
 f169:=Tryz.func126.trans (congrArg some (by kernel_rfl))
 f240:=Tryz.func180.trans (congrArg some (by kernel_rfl))
 f241:=Tryz.func181.trans (congrArg some (by kernel_rfl))
 f276:=Tryz.func209.trans (congrArg some (by kernel_rfl))
 f277:=Tryz.func210.trans (congrArg some (by kernel_rfl))
 t0:=Tryz.underlying0
 a0:=Tryz.isAgg0
 z0:=Tryz.sizeOf0
 v0:=Tryz.zeroValue0
 t3:=Tryz.underlying3
 a3:=Tryz.isAgg3
 z3:=Tryz.sizeOf3
 v3:=Tryz.zeroValue3
 t4:=Tryz.underlying4
 a4:=Tryz.isAgg4
 z4:=Tryz.sizeOf4
 v4:=Tryz.zeroValue4
 t9:=Tryz.underlying9
 a9:=Tryz.isAgg9
 z9:=Tryz.sizeOf9
 v9:=Tryz.zeroValue9
 t20:=Tryz.underlying20
 a20:=Tryz.isAgg20
 z20:=Tryz.sizeOf20
 v20:=Tryz.zeroValue20
 t31:=Tryz.underlying101
 a31:=Tryz.isAgg101
 z31:=Tryz.sizeOf101
 v31:=Tryz.zeroValue101
 t37:=Tryz.underlying123
 a37:=Tryz.isAgg123
 z37:=Tryz.sizeOf123
 v37:=Tryz.zeroValue123
 t70:=Tryz.underlying141
 a70:=Tryz.isAgg141
 z70:=Tryz.sizeOf141
 v70:=Tryz.zeroValue141
 t72:=Tryz.underlying143
 a72:=Tryz.isAgg143
 z72:=Tryz.sizeOf143
 v72:=Tryz.zeroValue143
 t75:=Tryz.underlying146
 a75:=Tryz.isAgg146
 z75:=Tryz.sizeOf146
 v75:=Tryz.zeroValue146
 t76:=Tryz.underlying147
 a76:=Tryz.isAgg147
 z76:=Tryz.sizeOf147
 v76:=Tryz.zeroValue147
 t127:=Tryz.underlying187
 a127:=Tryz.isAgg187
 z127:=Tryz.sizeOf187
 v127:=Tryz.zeroValue187
 t164:=Tryz.underlying208
 a164:=Tryz.isAgg208
 z164:=Tryz.sizeOf208
 v164:=Tryz.zeroValue208
theorem O3:Builder.Extra Tryz.prog KJ where
 sizeBuilder:=by kernel_rfl
 liesBuilder:=by kernel_rfl
 t5:=Tryz.underlying5
 a5:=Tryz.isAgg5
 z5:=Tryz.sizeOf5
 v5:=Tryz.zeroValue5
 infoByte:=by kernel_rfl
 cellsByte:=by kernel_rfl
 sizeByte:=by kernel_rfl
 neB5:=by decide
open Go.RowKit Go.Shelf
abbrev jA:=@TO.nil
abbrev jC:=@T.region
abbrev jE:=@T.block
abbrev jG:=@T.skip
abbrev jH:=@T.seq
abbrev jI:=@T.sr
abbrev jK:=@T.ret
abbrev jM:=@T.exit
abbrev jN:=@T.ifH
abbrev jO:=@T.loop
abbrev jP:=@T.drawF
abbrev jQ:=@Fin.ret
abbrev jR:=@TF.nil
theorem qC {m:Nat} {H:AH} {a:AV} (h:isF 9 a=true):Fz m H a a:=.of_isF 9 _ h
theorem qD {α:Sort _} {β:α->Sort _} {f:(x:α)->β x}:∀ x,f x=f x:=λ_=>rfl
theorem oU (l:List ByteArray) (sep:ByteArray) {q} (h:fI l sep=some q):au Tryz.prog 73 [eL cS l,St sep] (St q):=by
 unfold fI at h;obtain ⟨⟨h1,h2⟩,h⟩:=gdD h;obtain rfl:=osl h;refine ⟨by kernel_rfl,λw fz vs hlt _ hl hrel=>?_⟩;obtain ⟨u,v,rfl⟩:∃ u v,vs = #[u,v]:=by
  obtain ⟨l⟩:=vs
  match l,hl with
  | [u,v],_=>exact ⟨u,v,rfl⟩
 obtain rfl:=Hg (hrel 1 _ v rfl rfl);have hs:=BN (f:=λs=>[Value.string s]) (s:=1) (c:=cS) (e:=id) (λ_=>rfl) (λ_=>rfl) (hrel 0 _ u rfl rfl);rw [List.map_id] at hs;obtain ⟨A,cap,rfl,hc,hm,hx⟩:=hs;have key:Calls Tryz.prog 73 #[.slice A l.length cap,.string sep] w λe w'=>e = .returned (.string (jJ l sep))/\Below w.heap.size w w':=by
  by_cases hn:0<l.length
  ·obtain ⟨b,o,rfl,_,_,hlt,hcell⟩:=hx hn;exact Any.strings_Join KL O3 b o cap l sep w (λj x hj=>by
    obtain ⟨hj1,rfl⟩:=ges hj;have := hcell j hj1 0 _ rfl;simpa using this) hlt h1 hc (by simpa [jJ,ByteArray.size] using h2)
  obtain rfl:l=[]:=List.eq_nil_of_length_eq_zero (by omega);exact (Any.strings_Join_none KL O3 A cap sep w).mono λe w' ⟨he,hw⟩=>⟨he,hw ▸ Below.refl _ _⟩
 refine key.mono λe w' ⟨he,hb⟩ => ?_;exact ⟨_,fz,he,hb,.v Z,λg hg=>hg,λg hg => .inl hg,λg hg=>VY (hlt g hg) hb.size⟩
theorem KM {vs:Array Value} {a:AV} (hl:vs.size=[a].length):∃ u,vs = #[u]:=by
 obtain ⟨l⟩:=vs
 match l,hl with
 | [u],_=>exact ⟨u,rfl⟩
theorem uh (p:List (List Px)) {q} (h:gW p=some q):au Tryz.prog 57 [eL (cL Px.c) p] (Bo q):=by
 unfold gW at h;obtain ⟨⟨h1,h2⟩,h⟩:=gdD h;obtain rfl:=osl h;refine ⟨by kernel_rfl,λw fz vs hlt _ hl hrel=>?_⟩;obtain ⟨u,rfl⟩:=KM hl;have hs:=yI (f:=Ins.cells) (s:=4) (e:=lu) (λ_=>rfl) (λ_=>rfl) (hrel 0 _ u rfl rfl);refine (tX hs (VD _) (by rw [DG];exact h2)).mono λe w' ⟨he,hb⟩ => ?_;exact ⟨_,fz,he,hb,.v Z,λg hg=>hg,λg hg => .inl hg,λg hg=>VY (hlt g hg) hb.size⟩
theorem og (p:List (List Px)) {q} (h:cm p=some q):au Tryz.prog 43 [eL (cL Px.c) p] (Bo q):=by
 unfold cm at h;obtain ⟨⟨h1,h2⟩,h⟩:=gdD h;obtain rfl:=osl h;refine ⟨by kernel_rfl,λw fz vs hlt _ hl hrel=>?_⟩;obtain ⟨u,rfl⟩:=KM hl;have hs:=yI (f:=Ins.cells) (s:=4) (e:=lu) (λ_=>rfl) (λ_=>rfl) (hrel 0 _ u rfl rfl);refine (tV hs (VD _) (by rw [DG];exact h2)).mono λe w' ⟨he,hb⟩ => ?_;exact ⟨_,fz,he,hb,.v Z,λg hg=>hg,λg hg => .inl hg,λg hg=>VY (hlt g hg) hb.size⟩
open Go.ChangeShapes Go.WideShapes Go.ChangeAt Go.RowKit Go.Sort
theorem AU {w:World} {blk off g:Nat} {d:Array Int} (h:g≠blk):(putRow (Value.int .i64) w blk off d).heap[g]? = w.heap[g]? := by
 show (w.heap.modify blk _)[g]? = _;rw [V5,if_neg (Ne.symm h)]
theorem AX {w:World} {blk off:Nat} {d:Array Int} {cs:Array Value} {t:TypeId} {fr:Nat×Nat} (h:w.heap[blk]? = some (.cells cs t fr)):(putRow (Value.int .i64) w blk off d).heap[blk]? = some (.cells (putCells (Value.int .i64) off d cs) t fr):=by
 show (w.heap.modify blk _)[blk]? = _;rw [V5,if_pos rfl,h]
 rfl
theorem nW {off:Nat} {d:Array Int} {cs:Array Value}:(putCells (Value.int .i64) off d cs).size=cs.size:=by simp [putCells]
theorem Df {off:Nat} {d:Array Int} {cs:Array Value} {k:Nat} (h:off+d.size<=cs.size) (hk:k<d.size):(putCells (Value.int .i64) off d cs)[off+k]? = some (.int .i64 d[k]!):=by
 unfold putCells;rw [Array.getElem?_mapIdx,Array.getElem?_eq_getElem (by omega)];simp only [Option.map_some];rw [if_pos (by omega),show off+k-off=k by omega]
theorem J9 {c:Cx} (hr:HRel c) {l q:LI} {ver xm:Nat} (hH:c.H=[some ⟨ver,1,3,l.map cI⟩]) {cs:Array Value} {fr0:Nat×Nat} (hB:BRel c 0 ⟨ver,1,3,l.map cI⟩ cs (some fr0)) {d':Array Int} (hd:d'.size=l.length) (hq:q.length<=d'.size)
  (hqe:∀ i (h:i<q.length),d'[i]! = q[i]) {m:Nat} {os:Array Obj} (hv:(xm=ver/\q.length=l.length)\/ver<xm) :
  ∃ c',c'.w=grow (putRow (Value.int .i64) (Sort.ahead c.w m) (c.φ 0).1 (c.φ 0).2 d') os/\c'.H=[some ⟨xm,1,3,q.map cI⟩]/\HRel c'/\Ext c c'/\c'.φ 0=c.φ 0/\c'.w.heap[(c.φ 0).1]? = some (.cells (putCells (Value.int .i64) (c.φ 0).2 d' cs) 3 fr0):=by
 have hlv:c.live 0 ⟨ver,1,3,l.map cI⟩:=by
  unfold Cx.live;rw [hH]
  rfl
 have hat:c.w.heap[(c.φ 0).1]? = some (.cells cs 3 fr0):=hB.at_;have hblk:(c.φ 0).1<c.w.heap.size:=hr.live_lt hlv;have hfit:(c.φ 0).2+l.length<=cs.size:=by
  have := hB.fits;simpa using this
 have he1:Ext c (c.upd 0 ⟨xm,1,3,q.map cI⟩ ((c.φ 0).1,(c.φ 0).2) (putCells (Value.int .i64) (c.φ 0).2 d' cs)):=Cx.upd_ext hr hlv hB nW (by
  rcases hv with ⟨h1,h2⟩ | h
  ·exact .inl ⟨h1,rfl,by simp [h2],rfl⟩
  exact .inr h)
 have hr1:=Cx.upd_rel hr hlv hB (k:=⟨xm,1,3,q.map cI⟩) (o:=(c.φ 0).2) (cs:=putCells (Value.int .i64) (c.φ 0).2 d' cs) nW rfl he1 Nat.one_pos (by rw [nW];simp;omega) (λi row h=>by
  obtain ⟨x,_,rfl⟩:=by simpa [List.getElem?_map,Option.map_eq_some_iff] using h
  rfl) (λi row j a h1 h2=>by
  have hi:i<q.length:=by simpa using (ges h1).1
  have hrw:row=cI q[i]:=by
   have := (ges h1).2;rw [<- this];simp
  subst hrw
  match j,h2 with
  | 0,h2=>
   obtain rfl:=osl h2;refine ⟨.int .i64 d'[i]!,?_,rfl,?_⟩
   ·have := Df (off:=(c.φ 0).2) (d:=d') (cs:=cs) (k:=i) (by omega) (by omega);simpa using this
   rw [hqe i hi];exact .fr (.v rfl)
  | j+1,h2=>simp [cI] at h2)
 have hbl:Below (c.upd 0 ⟨xm,1,3,q.map cI⟩ ((c.φ 0).1,(c.φ 0).2) (putCells (Value.int .i64) (c.φ 0).2 d' cs)).w.heap.size (c.upd 0 ⟨xm,1,3,q.map cI⟩ ((c.φ 0).1,(c.φ 0).2) (putCells (Value.int .i64) (c.φ 0).2 d' cs)).w (grow (putRow (Value.int .i64) (Sort.ahead c.w m) (c.φ 0).1 (c.φ 0).2 d') os):=by
  have hz:(c.upd 0 ⟨xm,1,3,q.map cI⟩ ((c.φ 0).1,(c.φ 0).2) (putCells (Value.int .i64) (c.φ 0).2 d' cs)).w.heap.size=c.w.heap.size:=by simp [Cx.upd]
  have hs:(putRow (Value.int .i64) (Sort.ahead c.w m) (c.φ 0).1 (c.φ 0).2 d').heap.size=c.w.heap.size:=by rw [size_putRow];rfl
  refine ⟨rfl,rfl,rfl,?_,λg hg=>?_⟩
  ·rw [hz];show _<=((putRow (Value.int .i64) (Sort.ahead c.w m) (c.φ 0).1 (c.φ 0).2 d').heap++os).size;rw [Array.size_append,hs];omega
  rw [hz] at hg;show ((putRow (Value.int .i64) (Sort.ahead c.w m) (c.φ 0).1 (c.φ 0).2 d').heap++os)[g]? = (c.w.setRow (c.φ 0).1 (putCells (Value.int .i64) (c.φ 0).2 d' cs)).heap[g]?;rw [Array.getElem?_append_left (by rw [hs];exact hg)]
  by_cases e:g=(c.φ 0).1
  ·subst e;rw [AX (w:=Sort.ahead c.w m) hat,setRow_heap _ _ _ _ _ _ hat]
  rw [AU e,setRow_other _ _ _ _ e]
  rfl
 obtain ⟨g1,g2⟩:=Ai hr1 hbl (fz':=λ_=>False) (λ_ h=>h.elim) (λ_ h=>h.elim) (λ_ _ _ h=>h);refine ⟨_,rfl,?_,g1,he1.trans g2,?_,?_⟩
 ·show c.H.set 0 _=_;rw [hH]
  rfl
 ·rfl
 have hz:(c.upd 0 ⟨xm,1,3,q.map cI⟩ ((c.φ 0).1,(c.φ 0).2) (putCells (Value.int .i64) (c.φ 0).2 d' cs)).w.heap.size=c.w.heap.size:=by simp [Cx.upd]
 have := hbl.block (c.φ 0).1 (by rw [hz];exact hblk);refine this.trans ?_;show (c.w.setRow (c.φ 0).1 (putCells (Value.int .i64) (c.φ 0).2 d' cs)).heap[_]? = _;exact setRow_heap _ _ _ _ _ _ hat
theorem Ka {c:Cx} (hr:HRel c) {l:LI} {ver:Nat} (hH:c.H=[some ⟨ver,1,3,l.map cI⟩]) {u:Value} (hu:c.rel (.hs 0 ver 1 0 l.length) u) (hn:0<l.length) :
  ∃ cs fr0 cap,BRel c 0 ⟨ver,1,3,l.map cI⟩ cs (some fr0)/\u = .slice (some ⟨(c.φ 0).1,(c.φ 0).2,none⟩) l.length cap/\l.length<=cap/\cap<=9223372036854775807/\(c.φ 0).2+cap<=cs.size/\Holds (Value.int .i64) c.w (c.φ 0).1 (c.φ 0).2 l.toArray/\(c.φ 0).1<c.w.heap.size:=by
 have hlv:c.live 0 ⟨ver,1,3,l.map cI⟩:=by
  unfold Cx.live;rw [hH]
  rfl
 obtain ⟨cs,fr0,hB⟩:=hr.blk 0 _ hlv
 cases hu with
 | fr h=>cases h
 | @hs _ _ _ _ _ cap A hb hc hm h0 h=>
 obtain ⟨f,rfl,hat,hhd⟩:=hB.cells hlv (λx hx=>(h x hx).1);obtain ⟨_,_,h3,h4⟩:=h _ hhd;have hA:=h3 (by omega);simp only [Nat.zero_mul,Nat.add_zero,Nat.mul_one] at hA h4;refine ⟨cs,f,cap,hB,by rw [hA],hc,hm,h4,λj hj=>?_,hr.live_lt hlv⟩;have hj:j<l.length:=by simpa using hj
 have hj2:(c.φ 0).2+j<cs.size:=by omega
 obtain ⟨u,g1,g2,g3⟩:=hB.rel j (cI l[j]) 0 (I l[j]) (by simp [hj]) rfl;refine ⟨?_,?_⟩
 ·simp only [World.cell?,hat];have := gV g3;simp only [Nat.mul_one,Nat.add_zero] at g1;rw [g1];obtain ⟨rfl,_⟩:=this;simp [hj]
 have := hB.free f rfl _ hj2;obtain ⟨lo,hi'⟩:=f;simp only [World.frozen?,hat,Bool.and_eq_false_iff,decide_eq_false_iff_not];simp only at this;omega
open Go.Shelf Go.RowKit Go.Lib Go.Sort
def NF:Go.Shelf.Ren:=⟨λ| 23=>183 | n=>n,λ| 22=>23 | 3=>3 | 4=>4 | 0=>0 | n=>n,λ| n=>n⟩
theorem NH:Go.Proofs.Lays2.n23 Tryz.prog NF where
 mixed:=by kernel_rfl
 f23:=Tryz.func183.trans (congrArg some (by kernel_rfl))
 t0:=Tryz.underlying0
 a0:=Tryz.isAgg0
 z0:=Tryz.sizeOf0
 v0:=Tryz.zeroValue0
 t3:=Tryz.underlying3
 a3:=Tryz.isAgg3
 z3:=Tryz.sizeOf3
 v3:=Tryz.zeroValue3
 t4:=Tryz.underlying4
 a4:=Tryz.isAgg4
 z4:=Tryz.sizeOf4
 v4:=Tryz.zeroValue4
 t22:=Tryz.underlying23
 a22:=Tryz.isAgg23
 z22:=Tryz.sizeOf23
 v22:=Tryz.zeroValue23
 i3:=by kernel_rfl
open Go.ChangeShapes Go.WideShapes Go.ChangeAt Go.RowKit Go.Shelf Go.Sort
theorem xU (l:LI) (i j:Int) (g:Bool) (ver:Nat) (hg:g=true->l=[]) {q} (h:qf l i j=some q) :
  cg Tryz.prog 183 [hS g 0 ver 1 l.length,I i,I j] [bE g ver 1 3 (l.map cI)] (Fb 1 3 (λx=>x) q.length (q.map cI) 0 []):=by
 obtain ⟨⟨h0,h1,h2,hn⟩,h⟩:=gdD h;obtain rfl:=osl h;obtain rfl:g=false:=by
  cases g with
  | false=>rfl
  | true=>
   rw [hg rfl] at hn;exact absurd hn (by simp)
 refine ⟨by kernel_rfl,λc vs hH hr hall=>?_⟩;obtain ⟨hsz,hrel⟩:=hall;obtain ⟨u,a,b,rfl⟩:∃ u a b,vs = #[u,a,b]:=by
  match vs,hsz with
  | ⟨[u,a,b]⟩,_=>exact ⟨u,a,b,rfl⟩
 obtain ⟨rfl,_⟩:=gV (hrel 1 _ a rfl rfl);obtain ⟨rfl,_⟩:=gV (hrel 2 _ b rfl rfl);have hH:c.H=[some ⟨ver,1,3,l.map cI⟩]:=hH;obtain ⟨cs,fr0,cap,hB,rfl,hc,hm,hcs,hHo,hblk⟩:=Ka hr hH (hrel 0 _ u rfl rfl) hn;have hcon:=Any.slices_Delete_int NH (c.φ 0).1 (c.φ 0).2 cap i.toNat j.toNat l c.w hHo hc hm (by omega) (by omega);rw [show (i.toNat:Int)=i by omega,show (j.toNat:Int)=j by omega] at hcon;refine (show Calls Tryz.prog 183 _ _ _ from hcon).mono ?_;rintro e w' ⟨rfl,m,rfl⟩;have hql:(l.take i.toNat++l.drop j.toNat).length=l.length-(j.toNat-i.toNat):=by simp;omega
 have hdl:(l.take i.toNat++l.drop j.toNat++VN (j.toNat-i.toNat) (0:Int)).toArray.size=l.length:=by simp;omega
 obtain ⟨c',w1,w2,w3,w4,w5,w6⟩:=J9 hr hH hB (q:=l.take i.toNat++l.drop j.toNat) (xm:=ver+1) (d':=(l.take i.toNat++l.drop j.toNat++VN (j.toNat-i.toNat) (0:Int)).toArray) hdl (by rw [hdl,hql];omega) (λk hk=>by
  rw [getElem!_pos _ k (by rw [hdl];omega)];simp only [List.getElem_toArray];rw [List.getElem_append_left hk]) (m:=m) (os:=#[]) (.inr (Nat.lt_succ_self _))
 rw [grow_empty] at w1;have hlv:c'.live 0 ⟨ver+1,1,3,(l.take i.toNat++l.drop j.toNat).map cI⟩:=by
  unfold Cx.live;rw [w2]
  rfl
 refine ⟨_,c',hS false 0 (ver+1) 1 (l.take i.toNat++l.drop j.toNat).length,Z,w1,⟨false,ver+1,λe=>(by cases e),Z,w2⟩,w3,w4,?_⟩;rw [<- hql];refine .hs ?_ (by omega) hm (λ_=>⟨_,Z⟩) λx hx=>?_
 ·unfold Cx.born;rw [show c'.H[0]? = some (some _) from hlv];exact VD _
 have := Cx.hd_of hlv (by rw [w5];exact w6);rw [show (⟨ver+1,1,3,(l.take i.toNat++l.drop j.toNat).map cI⟩:ABlk).ver=ver+1 from rfl] at this;rw [this] at hx;obtain rfl:=osl hx;rw [w5];refine ⟨Z,by simp,λ_=>by simp,?_⟩;show (c.φ 0).2+0*1+cap*1<=(putCells (Value.int .i64) (c.φ 0).2 _ cs).size;rw [nW];omega


section
variable {α:Type} [Inhabited α] {c:α->List AV}
theorem StlRows.repG {m:Nat} {H:AH} {f:α->List AV} {zs:List AV} (h:StlL m H zs (f default)):∀ n:Nat,StlRows m H (VN n zs) ((VN n (default:α)).map f)
 | 0 => .nil
 | n+1 => .cons h (StlRows.repG h n)
def nE (c:α->List AV):List α->AV
 | [] => .nil
 | a::l=>eL c (a::l)
theorem NI (l:List α):isF 9 (nE c l)=true:=by cases l <;> rfl
theorem OM {l:List α} (h:0<(l.length:Int)):nE c l=eL c l:=by
 cases l with
 | nil=>exact absurd h (by simp)
 | cons a l=>rfl
theorem NJ (l:List α):EqS (nE c l) (eL c l):=by
 cases l with
 | nil=>
  intro w fz v h
  cases h
  exact FRel.sl (s:=0) (g:=0) (o:=0) (λ_ _ => .bool false) (VD _) (by omega) (λh=>absurd h (by simp)) (λi h=>absurd h (by simp)) (λi j c h=>absurd h (by simp)) (λi j c h=>absurd h (by simp)) (λi j c h=>absurd h (by simp))
 | cons a l=>exact EqS.refl _
theorem NL {C:Cx} {l:List α} {v:Value} (h:C.rel (nE c l) v):∃ A n cap,v = .slice A n cap/\A.isNone=l.isEmpty:=by
 cases l with
 | nil=>exact ⟨none,0,0,eB h,rfl⟩
 | cons a l=>
  obtain ⟨A,n,cap,e,k⟩:=Hf (xs:=a::l) h;refine ⟨A,n,cap,e,?_⟩
  cases A with
  | none=>cases k rfl
  | some _=>rfl
variable {P:Program} {ρ:Operand->AV} {x y:Operand} {t u e:TypeId} {ag:Bool} {w m:Nat} {zs:List AV}
theorem Pt.lenE {l:List α} (q:SlT P t e ag w zs m) (hx:ρ x=nE c l):Pt P ρ (.call ⟨.builtin .len,#[x],#[t]⟩) (I l.length):=by
 cases l with
 | nil=>exact Pt.lenZ q hx
 | cons a l=>exact Pt.lenL q hx
theorem Pt.nilB {neq:Bool} {l:List α} (hu:P.underlying t=some (.slice e)) (hx:ρ x=nE c l) (hy:ρ y = .nil):Pt P ρ (.binOp (bif neq then .neq else .eql) t x y u) (Bo (bif neq then !l.isEmpty else l.isEmpty)):=λo ho G=>by
 intro C a K Q hH hrel hxs hK;have ox:=hx ▸ hxs x (by rw [ho];simp [Op.operands]);have oy:=hy ▸ hxs y (by rw [ho];simp [Op.operands]);obtain ⟨A,n,cap,hv,hA⟩:=NL ox;have hv2:=eB oy;have hrun:(execOp a.eval o).run P C.w = .ok (.value (.bool (bif neq then !l.isEmpty else l.isEmpty))) C.w:=by
  rw [execOp,ho];refine rD _ ?_;rw [hv,hv2,<- hA]
  cases neq
  ·simp only [cond_false];have : (eqGuard .eql t x y (.slice A n cap) (.slice none 0 0)).run P C.w = .ok () C.w:=by simp [eqGuard]
   simp only [Sem.run_bind,this,Result.andThen_ok,binOp,uB C.w A n cap hu,Sem.run_pure]
  simp only [cond_true];have : (eqGuard .neq t x y (.slice A n cap) (.slice none 0 0)).run P C.w = .ok () C.w:=by simp [eqGuard]
  simp only [Sem.run_bind,this,Result.andThen_ok,binOp,uB C.w A n cap hu,Sem.run_pure]
 unfold Oper.wp;rw [hrun,Oper.upon_value];exact hK _ C hH hrel (Ext.refl C) (.fr (.v rfl))
theorem Pt.nilEq {l:List α} (hu:P.underlying t=some (.slice e)) (hx:ρ x=nE c l) (hy:ρ y = .nil):Pt P ρ (.binOp .eql t x y u) (Bo l.isEmpty):=Pt.nilB (neq:=false) hu hx hy
theorem Pt.nilNe {l:List α} (hu:P.underlying t=some (.slice e)) (hx:ρ x=nE c l) (hy:ρ y = .nil):Pt P ρ (.binOp .neq t x y u) (Bo (!l.isEmpty)):=Pt.nilB (neq:=true) hu hx hy
end
def rR (ops:Array Oper) (e:Env) (o:Oper) (w:Bool):Prop:=match o.guard with
 | none=>w=true
 | some (j,b)=>(∃ q,je ops.toList e j = .v (.bool q)/\w=(q==b))\/(je ops.toList e j = .tup []/\w=false)
theorem rR.wants {ops:Array Oper} {e:Env} {o:Oper} {w:Bool} (h:rR ops e o w):xx ops e o w:=by
 unfold rR at h
 cases hg:o.guard with
 | none=>
  rw [hg] at h;subst h;exact .free hg
 | some x=>
  obtain ⟨j,b⟩:=x;rw [hg] at h;rcases h with ⟨q,h1,h2⟩ | ⟨h1,h2⟩
  ·subst h2
   by_cases e1:q=b
   ·subst e1;rw [beq_self_eq_true];exact .yes hg h1 rfl
   have e2:(q==b)=false:=by simpa using e1
   rw [e2];exact .no hg h1 (by cases q <;> cases b <;> simp_all)
  subst h2;exact .un hg h1
theorem rR.congr {ops:Array Oper} {e e':Env} {o:Oper} {w:Bool} (h:rR ops e o w) (he:∀ t∈o.looksAt ops,e t=e' t):rR ops e' o w:=by
 unfold rR at h ⊢
 cases hg:o.guard with
 | none=>rw [hg] at h;exact h
 | some x=>
  obtain ⟨j,b⟩:=x;rw [hg] at h;have hy:je ops.toList e' j=je ops.toList e j:=by
   unfold je
   cases hd:(ops.toList[j]?).bind (·.dst) with
   | none=>rfl
   | some d=>
    refine (he d ?_).symm;unfold Oper.looksAt;rw [hg];refine List.mem_append_right _ ?_;have : (ops[j]?).bind (·.dst)=some d:=by simpa using hd
    show d∈((ops[j]?).bind (·.dst)).toList;rw [this];simp
  simp only [hy];exact h
theorem I3 {ops:Array Oper} {e e':Env} {o:Oper} (he:∀ t∈o.looksAt ops,e t=e' t):∀ x∈o.op.operands,rho e x=rho e' x:=by
 intro x hx
 cases x with
 | tmp t=>exact he t (List.mem_append_left _ (List.mem_filterMap.2 ⟨.tmp t,by simpa using hx,rfl⟩))
 | _=>rfl
theorem Ef {ops:Array Oper} {e:Env} {oi oj:Oper} {r:AV} (h:∀ d,oi.dst=some d->d∉oj.looksAt ops):∀ t∈oj.looksAt ops,rB e oi.dst r t=e t:=by
 intro t ht
 cases hd:oi.dst with
 | none=>rfl
 | some d=>
  rw [vT];show (if t=d then r else e t)=e t;have hne:t≠d:=by
   rintro rfl;exact h t hd ht
  rw [if_neg hne]
def NM (P:Program) (ops:Array Oper) (o:Oper) (e:Env) (H:AH) (r:AV) (H':AH):Prop:=(rR ops e o true/\Pp P o (rho e) H r H')\/(rR ops e o false/\r = .tup []/\H'=H)
theorem NM.congr {P:Program} {ops:Array Oper} {o:Oper} {e e':Env} {H H':AH} {r:AV} (h:NM P ops o e H r H') (he:∀ t∈o.looksAt ops,e t=e' t):NM P ops o e' H r H':=by
 rcases h with ⟨h1,h2⟩ | ⟨h1,h2⟩
 ·exact .inl ⟨h1.congr he,h2.congr (I3 he)⟩
 exact .inr ⟨h1.congr he,h2⟩
def tC (P:Program) (ops:Array Oper) (o:Oper) (e:Env) (H:AH) (r:AV) (H':AH) (F:List Nat):Prop:=
 H'.length=H.length/\(∀ b,b∉F->H'[b]? = H[b]?)/\∀ G,agree F G H->∃ G',G'.length=G.length/\(∀ b∈F,G'[b]? = H'[b]?)/\(∀ b,b∉F->G'[b]? = G[b]?)/\NM P ops o e G r G'
section
variable {P:Program} {ops:Array Oper} {o:Oper} {e:Env} {H H':AH} {r:AV} {F:List Nat}
theorem tC.op (h:tC P ops o e H r H' F):NM P ops o e H r H':=by
 obtain ⟨h1,h2,h3⟩:=h;obtain ⟨G',g1,g2,g3,g4⟩:=h3 H ⟨rfl,λ_ _=>rfl⟩;have : G'=H':=by
  apply VO;intro b
  by_cases hb:b∈F
  ·exact g2 b hb
  rw [g3 b hb,h2 b hb]
 exact this ▸ g4
theorem tC.congr {e':Env} (h:tC P ops o e H r H' F) (he:∀ t∈o.looksAt ops,e t=e' t):tC P ops o e' H r H' F:=by
 obtain ⟨h1,h2,h3⟩:=h;refine ⟨h1,h2,λG hG=>?_⟩;obtain ⟨G',g1,g2,g3,g4⟩:=h3 G hG;exact ⟨G',g1,g2,g3,g4.congr he⟩
theorem tC.at_ {G:AH} (h:tC P ops o e H r H' F) (hG:agree F G H):∃ G',G'.length=G.length/\(∀ b∈F,G'[b]? = H'[b]?)/\(∀ b,b∉F->G'[b]? = G[b]?)/\tC P ops o e G r G' F:=by
 obtain ⟨h1,h2,h3⟩:=h;obtain ⟨G',g1,g2,g3,g4⟩:=h3 G hG;refine ⟨G',g1,g2,g3,g1,g3,λK hK=>?_⟩;obtain ⟨K',k1,k2,k3,k4⟩:=h3 K ⟨hK.1.trans hG.1,λb hb=>(hK.2 b hb).trans (hG.2 b hb)⟩;exact ⟨K',k1,λb hb=>(k2 b hb).trans (g2 b hb).symm,k3,k4⟩
theorem tC.ofF (hw:rR ops e o true) (h:qE P o (rho e) H r H' F):tC P ops o e H r H' F:=by
 obtain ⟨h1,h2,h3⟩:=h;refine ⟨h1,h2,λG hG=>?_⟩;obtain ⟨G',g1,g2,g3,g4⟩:=h3 G hG;exact ⟨G',g1,g2,g3,.inl ⟨hw,g4⟩⟩
theorem tC.skip (hw:rR ops e o false) (F:List Nat):tC P ops o e H (.tup []) H F:=⟨rfl,λ_ _=>rfl,λG hG=>⟨G,rfl,hG.2,λ_ _=>rfl,.inr ⟨hw,rfl,rfl⟩⟩⟩
def Mt (P:Program) (ops:Array Oper) (fp:Nat->Fp) (Q:Env->AH->Prop):Nat->Array Bool->Env->AH->Prop
 | 0,listed,e,H=>Region.ready .any ops listed=[]/\Q e H
 | fuel+1,listed,e,H=>(Region.ready .any ops listed=[]->Q e H) /\
  ∀ i∈Region.ready .any ops listed,∃ o r H',ops[i]? = some o/\tC P ops o e H r H' (fp i).1/\((fp i).2=false->H'=H)/\Mt P ops fp Q fuel (listed.setIfInBounds i true) (rB e o.dst r) H'
theorem Gv {ops:Array Oper} {fp:Nat->Fp} {Q:Env->AH->Prop} {i:Nat} {oi:Oper} {r:AV} (hi:ops[i]? = some oi) :
  ∀ (fuel:Nat) (listed:Array Bool) (e:Env) (H Hi:AH),
   (∀ (j:Nat) (oj:Oper),ops[j]? = some oj->j≠i->listed.getD j true=false->(∀ ed∈oj.after,Region.binds .any ed=true->ed.on≠i)->oi.apart ops oj=true/\oF (fp i) (fp j)=true) ->
   i∈Region.ready .any ops listed->tC P ops oi e H r Hi (fp i).1->((fp i).2=false->Hi=H)->Mt P ops fp Q fuel (listed.setIfInBounds i true) (rB e oi.dst r) Hi->Mt P ops fp Q (fuel+1) listed e H:=by
 intro fuel
 induction fuel with
 | zero=>
  intro listed e H Hi _ hr hy hro hA;refine ⟨λh=>(by rw [h] at hr;cases hr),λj hj=>?_⟩
  by_cases hji:j=i
  ·subst hji;exact ⟨oi,r,Hi,hi,hy,hro,hA⟩
  have := ready_mono hj hji;rw [hA.1] at this
  cases this
 | succ fuel ih=>
  intro listed e H Hi hfree hr hy hro hA;refine ⟨λh=>(by rw [h] at hr;cases hr),λj hj=>?_⟩
  by_cases hji:j=i
  ·subst hji;exact ⟨oi,r,Hi,hi,hy,hro,hA⟩
  obtain ⟨oj,q,Hj,hoj,hsj,hroj,hAj⟩:=hA.2 j (ready_mono hj hji);obtain ⟨hjun,oj',yN,hall⟩:=mem_ready.1 hj;rw [hoj] at yN;injection yN with yN;subst yN;have hnot:∀ ed∈oj.after,Region.binds .any ed=true->ed.on≠i:=λed he hb heq=>by
   have h1:=hall ed he hb;have h0:=(mem_ready.1 hr).1;rw [heq] at h1;rcases Nat.lt_or_ge i listed.size with h' | h'
   ·simp [h'] at h0 h1;rw [h0] at h1;cases h1
   simp [Array.getElem?_eq_none h'] at h1
  obtain ⟨hap,hcm⟩:=hfree j oj hoj hji hjun hnot;obtain ⟨h1,h2,h3⟩:=Oper.apart_spec hap;have ej:=Ef (e:=e) (r:=r) h1;have ei:=Ef (e:=e) (oi:=oj) (r:=q) h3;have hsj':=hsj.congr ej;have hfree':∀ (k:Nat) (ok:Oper),ops[k]? = some ok->k≠i->(listed.setIfInBounds j true).getD k true=false->(∀ ed∈ok.after,Region.binds .any ed=true->ed.on≠i)->oi.apart ops ok=true/\oF (fp i) (fp k)=true:=λk ok hk hki hun hno=>by
   refine hfree k ok hk hki ?_ hno
   by_cases hjk:j=k
   ·subst hjk;exact hjun
   rw [getD_set_ne true hjk] at hun;exact hun
  have fin:∀ Hj',tC P ops oj e H q Hj' (fp j).1->((fp j).2=false->Hj'=H)->tC P ops oi e Hj' r Hj (fp i).1->((fp i).2=false->Hj=Hj')->∃ o r' H',ops[j]? = some o/\tC P ops o e H r' H' (fp j).1/\((fp j).2=false->H'=H)/\Mt P ops fp Q (fuel+1) (listed.setIfInBounds j true) (rB e o.dst r') H':=λHj' s1 s1' s2 s2'=>by
   refine ⟨oj,q,Hj',hoj,s1,s1',ih (listed.setIfInBounds j true) (rB e oj.dst q) Hj' Hj hfree' (ready_mono hr (Ne.symm hji)) (s2.congr λx hx=>(ei x hx).symm) s2' ?_⟩;rw [Array.setIfInBounds_comm _ _ hji,ww (λd hd=>λhd'=>h2 d (by simpa using hd') (by simpa using hd))];exact hAj
  simp only [oF,Bool.or_eq_true,bae,VE,VI,List.contains_eq_mem,decide_eq_false_iff_not] at hcm;rcases hcm with hdis | ⟨w1,w2⟩
  ·have hag:agree (fp j).1 H Hi:=⟨hy.1.symm,λb hb=>(hy.2.1 b (λhbi=>hdis b hbi hb)).symm⟩;obtain ⟨Hj',a1,a2,a3,a4⟩:=hsj'.at_ hag;have hag2:agree (fp i).1 Hj' H:=⟨a1,λb hb=>a3 b (hdis b hb)⟩;obtain ⟨K,b1,b2,b3,b4⟩:=hy.at_ hag2;have hKH:K=Hj:=by
    apply VO;intro b
    by_cases hbi:b∈(fp i).1
    ·rw [b2 b hbi,hsj'.2.1 b (hdis b hbi)]
    rw [b3 b hbi]
    by_cases hbj:b∈(fp j).1
    ·exact a2 b hbj
    rw [a3 b hbj,hsj'.2.1 b hbj,hy.2.1 b hbi]
   subst hKH;refine fin Hj' a4 (λhw=>?_) b4 (λhw=>?_)
   ·apply VO;intro b
    by_cases hbj:b∈(fp j).1
    ·rw [a2 b hbj,hroj hw,hy.2.1 b (λhbi=>hdis b hbi hbj)]
    exact a3 b hbj
   apply VO;intro b
   by_cases hbi:b∈(fp i).1
   ·rw [b2 b hbi,hro hw,a3 b (hdis b hbi)]
   exact b3 b hbi
  obtain rfl:=hro w1;obtain rfl:=hroj w2;exact fin _ hsj' (λ_=>rfl) hy (λ_=>rfl)
def N7 (ops:Array Oper) (fp:Nat->Fp):Bool:=
 Region.lexB .any ops &&
 (List.range ops.size).all λi=>(List.range ops.size).all λj=>decide (j<=i)||oF (fp i) (fp j)||match ops[j]? with
  | some oj=>oj.after.any λed=>Region.binds .any ed&&ed.on==i
  | none=>true
def TG (P:Program) (ops:Array Oper) (fp:Nat->Fp):Nat->List Oper->(Env->AH->Prop)->Env->AH->Prop
 | _,[],K,e,H=>K e H
 | k,o::rest,K,e,H=>∃ r H',tC P ops o e H r H' (fp k).1/\((fp k).2=false->H'=H)/\TG P ops fp (k+1) rest K (rB e o.dst r) H'
theorem I4 {ops:Array Oper} {fp:Nat->Fp} {Q:Env->AH->Prop} (hc:N7 ops fp=true):∀ (l:List Oper) (k:Nat) (listed:Array Bool) (e:Env) (H:AH),(∀ j,l[j]? = ops[k+j]?)->listed.size=ops.size->(∀ j,j<k->listed.getD j true=true) ->
  Region.lexFrom .any ops l.length k listed=true->TG P ops fp k l Q e H->Mt P ops fp Q l.length listed e H
 | [],k,listed,e,H,_,_,_,hB,h=>⟨by simpa [Region.lexFrom] using hB,h⟩
 | o::l,k,listed,e,H,hl,hsz,hbef,hB,h=>by
  have h0:ops[k]? = some o:=by simpa using (hl 0).symm
  have hk:k<ops.size:=(V6.1 h0).1;simp only [llc,Region.lexFrom,bae] at hB;obtain ⟨⟨hr,hf⟩,hB'⟩:=hB;obtain ⟨r,H',hs,hro,hK⟩:=h;refine Gv h0 l.length listed e H H' (λj oj hj hne hun hno=>⟨Region.free_spec h0 hf j oj hj hne hun hno,?_⟩) (by simpa using hr) hs hro
   (I4 hc l (k+1) _ _ _ (λj=>by have := hl (j+1);simpa [Nat.add_assoc,Nat.add_comm 1 j] using this) (by simpa using hsz) (λj hj=>?_) hB' hK)
  ·have hjs:j<ops.size:=(V6.1 hj).1;have hkj : ¬ j<=k:=λhle=>by
    have := hbef j (by omega);rw [this] at hun
    cases hun
   simp only [N7,bae,VI,List.mem_range] at hc;have := hc.2 k hk j hjs;simp only [hj,Bool.or_eq_true,dte,hkj,false_or] at this;rcases this with h1 | h1
   ·exact h1
   rw [Array.any_eq_true'] at h1;obtain ⟨ed,h2,h3⟩:=h1;simp only [bae,beq_iff_eq] at h3;exact absurd h3.2 (hno ed h2 h3.1)
  by_cases e:j=k
  ·subst e;simp [hsz,hk]
  rw [getD_set_ne true (Ne.symm e)];exact hbef j (by omega)
theorem xW {nt:Nat} {ops:Array Oper} {fp:Nat->Fp} {Q:Exit->Env->AH->Prop} (hd:FZ nt ops.toList=true):∀ (fuel:Nat) (listed:Array Bool) (e:Env) (H:AH),Mt P ops fp (Q .normal) fuel listed e H ->
  ∀ (c c0:Cx) (a:Act),c.H=H->Ext c0 c->SRel c nt e a->wpAny P .any ops (Mh nt c0 Q) fuel listed a c.w
 | 0,listed,e,H,h,c,c0,a,hH,hx,hs=>⟨h.1,trivial,c,e,rfl,hx,hs,hH ▸ h.2⟩
 | fuel+1,listed,e,H,h,c,c0,a,hH,hx,hs=>by
  refine ⟨λhr=>⟨trivial,c,e,rfl,hx,hs,hH ▸ h.1 hr⟩,λi hi=>?_⟩;obtain ⟨o,r,H',ho,hst,_,hA⟩:=h.2 i hi;have hm:o∈ops.toList:=by rw [Array.mem_toList_iff];exact Array.mem_of_getElem? ho
  unfold wpOp;simp only [ho];rcases hst.op with ⟨hw,hop⟩ | ⟨hw,rfl,rfl⟩
  ·rw [if_pos (hw.wants nt c a hs)];refine .inl (hop c a _ _ hH hs.heap (λx _=>hs.rho x) λv c' hH' hr' hx' hv=>?_);exact xW hd fuel _ _ H' hA c' c0 _ hH' (hx.trans hx') (hs.put o.dst (nX hd hm) hx' hr' hv)
  rw [hw.wants nt c a hs];exact xW hd fuel _ _ _ hA c c0 _ hH hx (hs.put o.dst (nX hd hm) (Ext.refl c) hs.heap (.tup (vs:=#[]) rfl (λi q u hq=>by simp at hq)))
end
section
variable {P:Program} {nt b0:Nat} {Q:Exit->Env->AH->Prop} {e:Env} {H H':AH} {r:AV}
theorem T.drawG {i:Nat} {ops:Array Oper} (fp:Nat->Fp) (hm:P.follows .mixedOrders=true) (hc:N7 ops fp=true) (h:TG P ops fp 0 ops.toList (Q .normal) e H):T P nt b0 (.region i ops true) Q e H:=by
 intro hok c c0 a hH hb hx hs;simp only [codeOk] at hok;have hc':=hc;simp only [N7,bae,Region.lexB] at hc';refine wp_region_any hm ?_;have hlex:=I4 hc ops.toList 0 (Array.replicate ops.size false) e H (λj=>by simp) (by simp) (λj hj=>absurd hj (by omega)) (by simpa using hc'.1.2) h;have := xW hok ops.toList.length _ e H hlex c.drew c0 a hH (hx.trans c.drew_ext) ⟨hs.size,hs.defers,λt=>(hs.rel t).ext hs.heap c.drew_ext,Cx.drew_rel hs.heap⟩;rw [Array.length_toList] at this;exact this
variable {ops:Array Oper} {d:Tmp} {op:Op} {ty:TypeId} {pos:String} {af:Array Edge} {en:List (Nat×AV)} {fp:Nat->Fp} {i:Nat} {K:Env->AH->Prop} {l:List Oper}
theorem TG.nil {k:Nat} (h:K e H):TG P ops fp k [] K e H:=h
theorem rR.y {o:Oper} {j:Nat} {b q:Bool} (hg:o.guard=some (j,b)) (hy:je ops.toList e j = .v (.bool q)) (hq:q=b):rR ops e o true:=by
 unfold rR;rw [hg];exact .inl ⟨q,hy,by rw [hq];simp⟩
theorem rR.n {o:Oper} {j:Nat} {b q:Bool} (hg:o.guard=some (j,b)) (hy:je ops.toList e j = .v (.bool q)) (hq:q = !b):rR ops e o false:=by
 unfold rR;rw [hg];exact .inl ⟨q,hy,by rw [hq];cases b <;> rfl⟩
theorem rR.u {o:Oper} {j:Nat} {b:Bool} (hg:o.guard=some (j,b)) (hy:je ops.toList e j = .tup []):rR ops e o false:=by
 unfold rR;rw [hg];exact .inr ⟨hy,rfl⟩
theorem tN (hc:fp i=([],false)) (hv:Pt P (rho (ai en)) op r) (h:TG P ops fp (i+1) l K (ai ((d,r)::en)) H):TG P ops fp i (⟨some d,op,ty,pos,af,none⟩::l) K (ai en) H:=
 ⟨r,H,by rw [hc];exact .ofF rfl (Ew hv),λ_=>rfl,h⟩
theorem tR (F:List Nat) (hc:fp i=(F,false)) (hv:∀ G,agree F G H->EvA P (rho (ai en)) op G r G) (h:TG P ops fp (i+1) l K (ai ((d,r)::en)) H):TG P ops fp i (⟨some d,op,ty,pos,af,none⟩::l) K (ai en) H:=
 ⟨r,H,by rw [hc];exact .ofF rfl (Ex hv),λ_=>rfl,h⟩
theorem PM {j:Nat} {b q:Bool} (hy:je ops.toList (ai en) j = .v (.bool q)) (hq:q=b) (hc:fp i=([],false)) (hv:Pt P (rho (ai en)) op r) (h:TG P ops fp (i+1) l K (ai ((d,r)::en)) H):TG P ops fp i (⟨some d,op,ty,pos,af,some (j,b)⟩::l) K (ai en) H:=
 ⟨r,H,by rw [hc];exact .ofF (.y rfl hy hq) (Ew hv),λ_=>rfl,h⟩
theorem tgR {j:Nat} {b q:Bool} (hy:je ops.toList (ai en) j = .v (.bool q)) (hq:q=b) (F:List Nat) (hc:fp i=(F,false)) (hv:∀ G,agree F G H->EvA P (rho (ai en)) op G r G) (h:TG P ops fp (i+1) l K (ai ((d,r)::en)) H):TG P ops fp i (⟨some d,op,ty,pos,af,some (j,b)⟩::l) K (ai en) H:=
 ⟨r,H,by rw [hc];exact .ofF (.y rfl hy hq) (Ex hv),λ_=>rfl,h⟩
theorem PN {j:Nat} {b q:Bool} (hy:je ops.toList (ai en) j = .v (.bool q)) (hq:q = !b) (h:TG P ops fp (i+1) l K (ai ((d,.tup [])::en)) H):TG P ops fp i (⟨some d,op,ty,pos,af,some (j,b)⟩::l) K (ai en) H:=
 ⟨.tup [],H,.skip (.n rfl hy hq) _,λ_=>rfl,h⟩
theorem tgU {j:Nat} {b:Bool} (hy:je ops.toList (ai en) j = .tup []) (h:TG P ops fp (i+1) l K (ai ((d,.tup [])::en)) H):TG P ops fp i (⟨some d,op,ty,pos,af,some (j,b)⟩::l) K (ai en) H:=
 ⟨.tup [],H,.skip (.u rfl hy) _,λ_=>rfl,h⟩
end
end
end Go.Proofs.YtpkhamajimidnaaGreatDoor
