/- Texts joined. No conditions. -/
import Derived.Test.YtoagamanbofngaaGreatDoorc3
namespace Go.Proofs.YtoagamanbofngaaGreatDoor
noncomputable section
set_option linter.defProp false
open _root_.Inhabited renaming default -> aad
open _root_.Bool renaming true -> aae
open _root_.Bool renaming false -> aaf
open _root_.Option renaming some -> aag
open _root_.Option renaming none -> aah
open _root_.Decidable renaming decide -> aai
open _root_.List renaming range -> acN,replicate -> acP,mem_singleton -> acQ,length_singleton -> acR,mem_cons_self -> acS,nil_append -> acT,mem_cons -> acU,length_take -> acY,mem_append -> acZ,mem_flatMap -> ac0,mem_range -> ac1,length_nil -> ac3,length_set -> ac4,length_range -> ac6,length_drop -> ac7,mem_cons_of_mem -> ac8,getElem?_replicate -> ac9,take_length -> ada,mem_map -> adb,all_eq_true -> adc,append_assoc -> ade,getElem?_set_ne -> adg,getElem?_set_self -> adh,not_mem_nil -> adj,getElem_of_mem -> adl,ext_getElem -> adm,pairwise_cons -> adn,getElem_mem -> adp,drop_eq_getElem_cons -> adq,drop_eq_nil_of_le -> ads,range_succ -> adt,filter_append -> adu,flatMap_cons -> adx,mem_filter -> adz,map_append -> adD,filter_eq_self -> adE,length_tail -> adF,getElem_map -> adK,append_inj -> adL,idxOf_lt_length_of_mem -> adO,length_filter_le -> adQ,mem_append_left -> adR,take_append_drop -> adS
open _root_.Option renaming bind -> acO,bind_some -> adI
open _root_.Nat renaming le_trans -> acV,le_refl -> ac2,zero_le -> ac5,mul_le_mul_right -> adi,lt_or_ge -> adk,and_le_left -> ado,pow_le_pow_right -> adH,not_lt_zero -> adM,pow_lt_pow_right -> adN,eq_of_testBit_eq -> adT
open _root_.BitVec renaming ofInt -> acW,ofInt_natCast -> adA,toNat_ofNat -> adB
open _root_.Bool renaming true_and -> acX,or_eq_true -> adw,false_and -> ady,not_false -> adG,not_eq_true' -> adJ,eq_iff_iff -> adP
open _root_.Int renaming toNat_of_nonneg -> adf,lt_irrefl -> adC
open Go.RowKit
set_option maxRecDepth 100000
section
variable{p:List (List ZW)}
theorem Ft(hp:PV p)(l:Int):Z1 (dc (evs p) l) (· =Z3 p l):=by
 have hel:=kE hp.vs;unfold dc;refine Z1.bind (P:=(· =Z3 p l)) ?_ λv hv=>.pure hv;refine Z1.loop (λz=>∃n:Nat,n<=(evs p).length/\z=(((acN n).map λ(i:Nat)=>(i:Int)).filter<|Wl p l,(n:Int))) (λz=>(((evs p).length:Int)-z.2).toNat) ⟨0,by omega,rfl⟩ λz ⟨n,h1,h2⟩=>?_;subst h2;unfold ut J;have en:(evs p).getD n aad=ev p (n:Int):=by unfold ev;rw[tnn]
 simp only[tnn,en];refine .bifD (λhk=>?_) λhk=>.pure ?_
 .have hsl:(((acN n).map λ(i:Nat)=>(i:Int)).filter<|Wl p l).length<=n:=acV (adQ _ _) (by simp);have hst:((acN<|n+1).map λ(i:Nat)=>(i:Int)).filter (Wl p l)=((acN n).map λ(i:Nat)=>(i:Int)).filter (Wl p l)++if Wl p l (n:Int) then [(n:Int)] else []:=by
   rw[adt,adD,adu]
   congr 1
   by_cases h:Wl p l (n:Int)=aae
   .rw[if_pos h];simp[h]
   rw[if_neg h];simp[h]
  refine Z1.bind (P:=(· =((acN<|n+1).map λ(i:Nat)=>(i:Int)).filter (Wl p l))) (.gdD ⟨by omega,hk⟩ (Z1.bind (P:=(· =Wl p l (n:Int))) (.bif (λh=>.pure ?_) λh=>.pure ?_) λb hb=>.bif (λh=>.gd (aK (by omega) rfl)<|.pure ?_) λh=>.pure ?_)) λv hv=>.gdI (by omega)<|.pure ⟨⟨n+1,by omega,by rw[hv];rfl⟩,by simp only[];omega⟩
  .unfold Wl;rw[h,acX];exact Og _ _
  .unfold Wl;rw[h];rfl
  .rw[hst,<- hb,h];rfl
  rw[hst,<- hb,h];simp
 have : n=(evs p).length:=by omega
 rw[this]
 rfl
theorem MZ(hp:PV p)(l:Int):Z1 (gT (evs p) l) (· =Z3 p l):=Ll hp l
def nq(i:Int)(n:Int):Bool:=!decide (n=i)
theorem TE(v:LI)(i:Int)(hl:v.length<=1000000):Z1 (aU v i) (· =v.filter (nq i)):=by
 unfold aU;have heq:∀a:Int,Z1 (iO a i) (· =aai (a=i)):=λa=>by unfold iO;exact .pure<|Og a i
 refine Z1.bind (P:=λr:Int=>(r=-1/\∀n∈v,n≠i)\/(0<=r/\r<(v.length:Int)/\v.getD r.toNat aad=i/\∀n∈v.take r.toNat,n≠i)) ?_ λr hr=>?_
 .unfold aX;refine Z1.sum (PS:=λ_=>∀n∈v,n≠i) (PW:=λr:Int=>(r=-1/\∀n∈v,n≠i)\/(0<=r/\r<(v.length:Int)/\v.getD r.toNat aad=i/\∀n∈v.take r.toNat,n≠i)) ?_ λ_ h=>.pure<|.inl ⟨rfl,h⟩;refine Z1.loop (λz=>∃k:Nat,k<=v.length/\z=(k:Int)/\∀n∈v.take k,n≠i) (λz=>((v.length:Int)-z).toNat) ⟨0,by omega,rfl,by simp⟩ λz ⟨k,h1,h2,h3⟩=>?_;subst h2;unfold cA J;simp only[tnn];refine .bifD (λhk=>.gdD ⟨by omega,hk⟩<|(heq _).bind λb hb=>?_) λhk=>.pure ?_
  .subst hb;refine .bifD (λhe=>.pure<|.inr ⟨by omega,hk,by rw[tnn];exact he,by rw[tnn];exact h3⟩) λhe=>.gdI (by omega)<|.pure ⟨⟨k+1,by omega,rfl,λn hn=>?_⟩,by omega⟩;rw[dO (by omega),acZ,acQ] at hn;rcases hn with hn|rfl
   .exact h3 n hn
   exact he
  rwa [show k=v.length by omega,ada] at h3
 rcases hr with⟨rfl,h⟩|⟨r0,r1,r2,r3⟩
 .refine .bif (λ_=>.pure ?_) λh=>by cases h
  rw[adE.2 λn hn=>by unfold nq;rw[decide_eq_false (h n hn)];rfl]
 refine .bif (λh=>by have:=eq_of_beq h;omega) λ_=>?_;refine Z1.bind (P:=λz=>z.1.length=v.length/\(0<=z.2/\z.2<=(v.length:Int))/\z.1.take z.2.toNat=v.filter (nq i)) (.gdI (by omega) ?_) λz ⟨z1,⟨z2,z3⟩,z4⟩=>?_
 .refine Z1.loop (λz=>∃j k:Nat,j<=v.length/\k<=j/\z.2.1=(j:Int)/\z.2.2=(k:Int)/\z.1.length=v.length/\(∀q:Nat,j<=q->z.1[q]?=v[q]?)/\z.1.take k=(v.take j).filter (nq i)) (λz=>((v.length:Int)-z.2.1).toNat) ⟨r.toNat+1,r.toNat,by omega,by omega,by simp only[];omega,by simp only[];omega,rfl,λ_ _=>rfl,?_⟩ λz ⟨j,k,h1,h2,h3,h4,h5,h6,h7⟩=>?_
  .simp only[];rw[dO (by omega),adu,adE.2 λn hn=>by unfold nq;rw[decide_eq_false (r3 n hn)];rfl,r2];simp[nq]
  obtain⟨s,z1,z2⟩:=z;simp only at h3 h4 h5 h6 h7;subst h3 h4;unfold bZ J;simp only[tnn,h5];refine .bifD (λhk=>?_) λhk=>.pure ⟨h5,⟨by simp only[];omega,by simp only[];omega⟩,?_⟩
  .have hj:j<v.length:=by omega
   have e1:s.getD j aad=v.getD j aad:=by rw[gdq,gdq,h6 j (ac2 _)]
   rw[e1];refine Z1.bind (P:=λz:List Int×Int=>∃k:Nat,k<=j+1/\z.2=(k:Int)/\z.1.length=v.length/\(∀q:Nat,j+1<=q->z.1[q]?=v[q]?)/\z.1.take k=(v.take<|j+1).filter (nq i)) (.gdD ⟨by omega,hk⟩<|(heq _).bind λb hb=>?_) λz ⟨k',g1,g2,g3,g4,g5⟩=>.gdI (by omega)<|.pure ⟨⟨j+1,k',by omega,g1,rfl,g2,g3,g4,g5⟩,by simp only[];omega⟩;subst hb;rw[dO hj,adu];refine .bif (λhn=>?_) λhn=>?_
   .refine .gdD ⟨by omega,by omega⟩<|.gdI (by omega)<|.pure ⟨k+1,by omega,rfl,by simp[h5],λq hq=>?_,?_⟩
    .simp only[];rw[adg (by omega)];exact h6 q (by omega)
    simp only[];have hks:k<s.length:=by omega
    rw[List.take_add_one,adh hks,List.take_set_of_le (ac2 _),h7]
    congr 1
    rw[List.filter_cons_of_pos (show nq i (v.getD j aad)=aae from hn)]
    rfl
   refine .pure ⟨k,by omega,rfl,h5,λq hq=>h6 q (by omega),?_⟩;simp only[];rw[h7,List.filter_cons_of_neg (show ¬ nq i (v.getD j aad)=aae from λh=>by rw[show nq i (v.getD j aad)=aaf from hn] at h;cases h)];simp
  simp only[];rw[tnn,h7,show j=v.length by omega,ada]
 refine .gdD ⟨by omega,by omega⟩<|.gdD ⟨z2,by omega,by omega⟩<|.gdD ⟨by omega,z2,by omega⟩<|.pure ?_;rw[<- z4];simp only[cpy,Nat.zero_add,show(0:Int).toNat=0 from rfl,List.drop_zero,Nat.sub_zero]
 split
 .rw[ade,List.take_append_of_le_length (by rw[acY];omega),List.take_take,Nat.min_self]
 rfl
theorem Oj(x:ZX)(h1:x.From.length<=100000)(h2:x.Order.length<=100000)(h3:∀i,(x.Order.getD i aad).length<=100000):Z1 (gM x) (· =x):=by
 unfold gM;refine(BJ<|by omega).bind λv1 e1=>.gdD ⟨by omega,by omega,by omega,by omega⟩ (Z1.bind (P:=(· =x.Order)) ?_ λs hs=>.pure<|by rw[e1,hs]);refine Z1.loop (λz=>∃k:Nat,k<=x.Order.length/\z=(x.Order.take k++acP (x.Order.length-k) [],(k:Int))) (λz=>((x.Order.length:Int)-z.2).toNat) ⟨0,by omega,by simp⟩ λz ⟨k,g1,g2⟩=>?_;subst g2;unfold uw J;simp only[tnn];refine .bifD (λhk=>?_) λhk=>.pure ?_
 .have hk':k<x.Order.length:=by omega
  refine .gdD ⟨by omega,hk⟩<|(BJ (by have:=h3 k;omega)).bind λv12 e12=>.gdD ⟨by omega,?_⟩<|.gdI (by omega)<|.pure ⟨⟨k+1,by omega,?_⟩,by simp only[];omega⟩
  .simp only[lla,acY,List.length_replicate];omega
  rw[e12,dO hk',List.set_append_right _ _ (by rw[acY];omega),acY,Nat.min_eq_left (by omega),Nat.sub_self,show x.Order.length-k=(x.Order.length-(k+1))+1 by omega,List.replicate_succ,List.set_cons_zero,ade]
  rfl
 rw[show k=x.Order.length by omega,Nat.sub_self,ada];simp
theorem QD(x:ZX)(h1:x.From.length<=100000)(h2:x.Order.length<=100000)(h3:∀i,(x.Order.getD i aad).length<=100000):Z1 (oL x) (· =x):=by
 unfold oL;refine .gd (aK (by simp only[ac3];omega) rfl) (Z1.bind (P:=(· =x.Order)) ?_ λs hs=>.pure<|by rw[hs];rfl);refine Z1.loop (λz=>∃k:Nat,k<=x.Order.length/\z=(x.Order.take k,(k:Int))) (λz=>((x.Order.length:Int)-z.2).toNat) ⟨0,by omega,by simp⟩ λz ⟨k,g1,g2⟩=>?_;subst g2;unfold rU J;simp only[tnn,acT];refine .bifD (λhk=>?_) λhk=>.pure ?_
 .have hk':k<x.Order.length:=by omega
  refine .gdD ⟨by omega,hk⟩<|.gd (aK (by have:=h3 k;simp only[ac3];omega) rfl)<|.gd (aK (by rw[acY];omega) rfl)<|.gdI (by omega)<|.pure ⟨⟨k+1,by omega,?_⟩,by simp only[];omega⟩;rw[dO hk']
  rfl
 rw[show k=x.Order.length by omega,ada]
theorem QE(l:Nat)(hl:l<3):∃t,Z3 p (l:Int)=(l:Int)::t:=MV hl
theorem Lr{f:LI}(h:f∈uJ (chF p)):f.length=(evs p).length:=by
 rw[(rq.1 h).1];simp[chF]
theorem QF(F:Few p){o:LL}(h:o∈uJ (chO p)):o.length=3/\∀i,(o.getD i aad).length<=100:=by
 obtain⟨h1,h2⟩:=rq.1 h;refine⟨h1,λi=>?_⟩
 by_cases hi:i<3
 .obtain⟨y,hy,e⟩:=h2 i hi;rw[gdq,e];have hw:=(F.w i hi).1;have hy':y∈chL p i:=by
   match i,hi with
   |0,_=>exact hy
   |1,_=>exact hy
   |2,_=>exact hy
  unfold chL at hy';obtain⟨r,hr,rfl⟩:=adb.1 hy';have:=((AC rfl).1 hr).length_eq;rw[adF] at this;show((i:Int)::r).length<=100;rw[llc];omega
 rw[gdq,gen (by rw[h1];exact Nat.le_of_not_lt hi)];exact ac5 _
theorem getD_in{α:Type}[Inhabited α]{l:List α}{i:Nat}(h:i<l.length):l.getD i aad∈l:=by
 rw[gdq,geq h];exact adp _
theorem VO(FF:LL)(OO s30:List<|LL)(hO:Z1 (iQ s30) (· =OO))(hall:FF.length*OO.length<=3000)(hn:FF.length<=3000)(hn2:OO.length<=3000)(hf:∀f∈FF,f.length<=24)(ho:∀o∈OO,o.length=3/\∀i,(o.getD i aad).length<=100) :
  Z1 (aA (jk s30 FF) (([]:List ZX),(0:Int))) (· =FF.flatMap λf=>OO.map λo=>(⟨f,o⟩:ZX)):=by
 have hpre:∀j,j<=FF.length->((acN j).flatMap λj=>OO.map λo=>(⟨FF.getD j aad,o⟩:ZX)).length<=3000:=λj hj=>by
  have:=wN (λj=>OO.map λo=>(⟨FF.getD j aad,o⟩:ZX)) hj;rw[cf FF λf=>OO.map λo=>(⟨f,o⟩:ZX),ez (l:=FF) (f:=λf=>OO.map λo=>(⟨f,o⟩:ZX)) (m:=OO.length) λ_ _=>llm _] at this;exact acV this hall
 refine(cK FF.length [] (λj=>OO.map λo=>(⟨FF.getD j aad,o⟩:ZX)) (λj hj=>?_) ?_).mono λv hv=>?_
 .have hfj:=hf _<|getD_in hj;have hpj:=hpre (j+1) hj;rw[bu,lla,llm] at hpj;unfold jk;simp only[acT,tnn];refine .bifD (λ_=>?_) λh=>absurd (show(j:Int)<(FF.length:Int) by omega) h;refine Z1.bind (P:=(· =(acN<|j+1).flatMap λj=>OO.map λo=>(⟨FF.getD j aad,o⟩:ZX))) (.gdD ⟨by omega,by omega⟩ ?_) λv hv=>.gdI (by omega)<|.pure (by rw[hv];rfl);refine hO.bind λv86 h86=>?_;subst v86;generalize hpe:(acN j).flatMap (λj=>OO.map λo=>(⟨FF.getD j aad,o⟩:ZX))=pre at hpj ⊢;generalize hfg:FF.getD j aad=f at hfj ⊢;have hstep:∀s:List ZX×Int,ji FF (pre,(j:Int)) OO s=bif aai (s.2<(OO.length:Int)) then
    gd (aai<|0<=s.2/\s.2<(OO.length:Int))<|acO (gM (⟨f,OO.getD s.2.toNat aad⟩:ZX)) λv99=>
    gd (aR (s.1.length+1) 48)<|gd (ZU .i64<|s.2+(1:Int))<|aag (.inl ((s.1++[v99]),(s.2+(1:Int)))) else aag (.inr s.1):=λs=>by
   unfold ji J;simp only[tnn,hfg]
  generalize ji FF (pre,(j:Int)) OO=step at hstep ⊢;refine(cK OO.length pre (λi=>[(⟨f,OO.getD i aad⟩:ZX)]) (λi hi=>?_) ?_).mono λv hv=>?_
  .have hil:((acN i).flatMap λi=>[(⟨f,OO.getD i aad⟩:ZX)]).length=i*1:=by rw[ez (m:=1) λ_ _=>rfl,ac6]
   obtain⟨ho1,ho2⟩:=ho _<|getD_in hi;rw[hstep];simp only[tnn];refine .bifD (λ_=>.gdD ⟨by omega,by omega⟩<|(Oj ⟨f,OO.getD i aad⟩ (acV hfj<|by omega) (by rw[ho1];omega) λi=>acV (ho2 i)<|by omega).bind λv99 h99=>.gd (aK (by rw[lla];omega) rfl)<|.gdI (by omega)<|.pure ?_) λh=>absurd (show(i:Int)<(OO.length:Int) by omega) h;rw[h99,bu,ade]
   rfl
  .rw[hstep];exact .bifD (λh=>absurd h<|by simp only[];omega) λ_=>.pure rfl
  rw[hv,cf OO λo=>[(⟨f,o⟩:ZX)],oZ,bu,hpe,hfg]
 .unfold jk;exact .bifD (λh=>absurd h<|by simp only[];omega) λ_=>.pure rfl
 rw[hv,acT];exact cf FF λf=>OO.map λo=>(⟨f,o⟩:ZX)
theorem QG(hv:bh (Z4 p)=aae):Z1 (oz p) (· =aY p):=by
 have hp:=PV.of hv;have F:=few hv;have hel:=kE hp.vs;unfold oz;refine(F4 hp.vs).bind λv1 e1=>?_;subst v1;have hen:∀n:Nat,(evs p).getD n aad=ev p (n:Int):=λn=>by unfold ev;rw[tnn]
 refine Z1.bind (P:=(· =chF p)) ?_ λs2 h2=>?_
 .refine(cK (evs p).length [] (λi=>[chE p i]) (λk hk=>?_) ?_).mono λv hv=>by rw[hv,acT,oZ];rfl
  .unfold ou J;have hkl:((acN k).flatMap λi=>[chE p i]).length=k*1:=by rw[ez (m:=1) λ_ _=>rfl,ac6]
   simp only[acT,tnn,hen];refine .bifD (λ_=>.gdD ⟨by omega,by omega⟩ (Z1.bind (P:=(· =chE p k)) ?_ λv hv=>.gd (aK (by omega) rfl)<|.gdI (by omega)<|.pure<|by rw[hv,bu];rfl)) λh=>absurd (show(k:Int)<((evs p).length:Int) by omega) h;have hl:=sO hp (n:=(k:Int)) (by omega) (by omega);refine .bif (λhr=>?_) λhr=>.pure (by unfold chE;rw[if_neg (by rw[hr];decide)]);refine(Ft hp _).bind λv17 h17=>?_;subst v17;have hw:=(F.w (ev p (k:Int)).Loc.toNat<|by omega).1;rw[adf hl.1] at hw;refine(TE _ _<|by omega).bind λv21 h21=>.pure ?_;rw[h21];unfold chE;rw[if_pos hr]
   rfl
  unfold ou J;exact .bifD (λh=>absurd h<|by simp only[];omega) λ_=>.pure rfl
 subst s2;refine Z1.bind (P:=(· =chO p)) ?_ λs30 h30=>?_
 .refine(cK 3 [] (λl=>[chL p l]) (λl hl=>?_) ?_).mono λv hv=>by rw[hv];rfl
  .unfold nG;have hkl:((acN l).flatMap λi=>[chL p i]).length=l*1:=by rw[ez (m:=1) λ_ _=>rfl,ac6]
   simp only[acT];refine .bifD (λ_=>?_) λh=>absurd (show(l:Int)<3 by omega) h;refine Z1.bind (P:=(· =(acN<|l+1).flatMap λi=>[chL p i])) (Z1.bind (P:=(· =chL p l)) ?_ λv hv=>.gd (aK (by omega) rfl)<|.pure<|by rw[hv,bu]) λv hv=>.gdI (by omega)<|.pure (by rw[hv];rfl);refine(Ft hp _).bind λv44 h44=>?_;subst v44;have hw:=(F.w l hl).1;obtain⟨t,ht⟩:=QE (p:=p) l hl;refine .gdD ⟨by omega,by rw[ht,llc];omega,by omega⟩ ?_;have e:(((Z3 p (l:Int)).drop (1:Int).toNat).take<|((Z3 p (l:Int)).length:Int).toNat-(1:Int).toNat)=(Z3 p (l:Int)).tail:=by
    rw[ht];simp
   rw[e];refine(VJ _<|by rw[adF];omega).bind λv46 h46=>?_;have hpl:v46.length<=3000:=by
    have:=(F.w l hl).2;rw[h46];unfold chL at this
    rwa [llm] at this
   have hrow:∀i,(v46.getD i aad).length<=100:=λi=>by
    by_cases hi:i<v46.length
    .have hm:=getD_in hi;rw[show v46=prm (Z3 p (l:Int)).tail.length (Z3 p (l:Int)).tail from h46] at hm;have:=((AC rfl).1 hm).length_eq;rw[<- h46,adF] at this;omega
    rw[gdq,gen (by omega)];exact ac5 _
   refine(cK v46.length [] (λi=>[(l:Int)::v46.getD i aad]) (λi hi=>?_) ?_).mono λv hv=>?_
   .unfold nE J;have hil:((acN i).flatMap λi=>[(l:Int)::v46.getD i aad]).length=i*1:=by rw[ez (m:=1) λ_ _=>rfl,ac6]
    simp only[acT,tnn];refine .bifD (λ_=>.gdD ⟨by omega,by omega⟩<|.gd (aK (by have:=hrow i;simp only[acR];omega) rfl)<|.gd (aK (by omega) rfl)<|.gdI (by omega)<|.pure<|by rw[bu];rfl) λh=>absurd (show(i:Int)<(v46.length:Int) by omega) h
   .unfold nE J;exact .bifD (λh=>absurd h<|by simp only[];omega) λ_=>.pure rfl
   rw[hv,acT,cf v46 λx=>[(l:Int)::x],oZ,h46]
   rfl
  unfold nG;exact .bifD (λh=>absurd h<|by simp only[];omega) λ_=>.pure rfl
 subst s30;refine Z1.bind (P:=(· =aY p)) ?_ λv hv=>.pure hv;refine(zX (chF p) (by simp[chF];omega) λk _=>acV (F.f k).1<|by omega).bind λv72 h72=>?_;subst v72;have h0:=(F.f (chF p).length).1;rw[ada] at h0;have h1:=(F.o (chO p).length).1;rw[ada] at h1;exact VO (uJ<|chF p) (uJ<|chO p) (chO p) (CW (chO p) (by simp[chO]) λk _=>acV (F.o k).1<|by omega) F.all h0 h1 (λf hf=>by rw[Lr hf];exact hel) λo ho=>QF F ho
end
section
variable{p:List (List ZW)}
theorem Ls{α β:Type}(q:α->Bool)(f:α->List β)(l:List α):(l.filter q).flatMap f=l.flatMap λy=>if q y=aae then f y else []:=by
 induction l with
 |nil=>rfl
 |cons a l ih=>
  grind
theorem Ol(i:Int)(rest:LL)(c:LI)(hc:c.length<=3000)(hr:rest.length<=3000)(hrow:∀k,(rest.getD k aad).length<=100)(hall:((c.filter<|nq i).flatMap λy=>rest.map (y :: ·)).length<=3000) :
  Z1 (aA (kR i rest c) (([]:LL),(0:Int))) (· =(c.filter<|nq i).flatMap λy=>rest.map (y :: ·)):=by
 rw[Ls] at hall ⊢;rw[<- cf c] at hall ⊢;generalize hg:(λk=>if nq i (c.getD k aad)=aae then rest.map (c.getD k aad :: ·) else [])=g at hall ⊢;have hgk:∀k,g k=if nq i (c.getD k aad)=aae then rest.map (c.getD k aad :: ·) else []:=λk=>by grind
 refine(cK c.length [] g (λk hk=>?_) ?_).mono λv hv=>by simp_all
 .have hpre:=acV (wN g (show k+1<=c.length by omega)) hall;rw[bu,lla] at hpre;unfold kR;simp only[acT];refine .bifD (λ_=>?_) λh=>absurd (show(k:Int)<(c.length:Int) by omega) h;refine Z1.bind (P:=(· =(acN (k+1)).flatMap g)) ?_ λv hv=>.gdI (by omega) (.pure (by simp_all));rw[bu];have hk1:=hgk k;generalize (acN k).flatMap g=pre at hpre ⊢;generalize g k=gk at hk1 hpre ⊢;subst hk1;have hstep:∀s:LL×Int,kQ i rest c (pre,(k:Int)) s=(acO (bif aai (s.2<(rest.length:Int)) then gd (aai (0<=(k:Int)/\(k:Int)<(c.length:Int)))<|aag ((c.getD k aad) != i) else aag aaf) λs23=>
    bif s23 then
     gd (aai<|0<=(k:Int)/\(k:Int)<(c.length:Int))<|gd (aai<|0<=s.2/\s.2<(rest.length:Int))<|gd (aR (([(c.getD k aad)]:LI).length+(rest.getD s.2.toNat aad).length) 8) <|
     gd (aR (s.1.length+1) 24)<|gd (ZU .i64<|s.2+(1:Int))<|aag (.inl ((s.1++[(([(c.getD k aad)]:LI)++(rest.getD s.2.toNat aad))]),(s.2+(1:Int))))
    else aag (.inr s.1)):=λs=>by
   unfold kQ J
   simp_all
  generalize kQ i rest c (pre,(k:Int))=step at hstep ⊢;generalize c.getD k aad=y at hstep hpre ⊢
  by_cases hy:y=i
  .have hn : ¬ nq i y=aae:=by unfold nq;rw[decide_eq_true hy];decide
   rw[if_neg hn] at hpre ⊢;rw[Bz,hstep];have : Z1 (bif aai ((0:Int)<(rest.length:Int)) then gd (aai<|0<=(k:Int)/\(k:Int)<(c.length:Int))<|aag (y != i) else aag aaf) (· =aaf):=.bifD (λ_=>.gdD ⟨by omega,by omega⟩<|.pure<|by simp_all) λ_=>.pure rfl;rw[show(bif aai (((pre,(0:Int)):LL×Int).2<(rest.length:Int)) then gd (aai<|0<=(k:Int)/\(k:Int)<(c.length:Int))<|aag (y != i) else aag aaf)=aag aaf from this.eq];exact .of rfl (by simp)
  have hn:nq i y=aae:=by unfold nq;rw[decide_eq_false hy];rfl
  have hne:(y != i)=aae:=by simpa using hy
  rw[if_pos hn,llm] at hpre;rw[if_pos hn];refine(cK rest.length pre (λj=>[y::rest.getD j aad]) (λj hj=>?_) ?_).mono λv hv=>?_
  .have hil:((acN j).flatMap λj=>[y::rest.getD j aad]).length=j*1:=by rw[ez (m:=1) λ_ _=>rfl,ac6]
   rw[hstep];refine Z1.bind (P:=(· =aae)) (.bifD (λ_=>.gdD ⟨by omega,by omega⟩<|.pure hne) λh=>absurd (show(j:Int)<(rest.length:Int) by omega) h) λb hb=>?_;subst hb;simp only[tnn,cond_true];refine .gdD ⟨by omega,by omega⟩<|.gdD ⟨by omega,by omega⟩<|.gd (aK (by grind) rfl)<|.gd (aK (by grind) rfl)<|.gdI (by omega)<|.pure ?_;rw[bu,ade]
   rfl
  .rw[hstep];refine Z1.bind (P:=(· =aaf)) (.bifD (λh=>absurd h<|by omega) λ_=>.pure rfl) λb hb=>?_;subst hb;exact .pure rfl
  rw[hv,cf rest λx=>[y::x],oZ]
 unfold kR;exact .bifD (λh=>absurd h<|by omega) λ_=>.pure rfl
theorem TH{i:Nat}(h:i<(evs p).length):(chF p).drop i=chE p i::(chF p).drop (i+1):=by
 have hl:i<(chF p).length:=by simp[chF];exact h
 rw[adq hl]
 congr 1
 simp[chF]
theorem J1(hv:bh (Z4 p)=aae):∀(n m i:Nat),i+n=(evs p).length->n<m->Z1 (jy m (evs p) (i:Int)) (· =uJ ((chF p).drop i))
 |_,0,_,_,h=>by omega
 |0,m+1,i,hi,_=>by
  show Z1 (gV _ (evs p) (i:Int)) _;unfold gV J;refine .bif (λ_=>.pure ?_) λh=>by simp_all
  rw[ads (by simp[chF] <;> omega)]
  rfl
 |n+1,m+1,i,hi,hm=>by
  have hp:=PV.of hv;have F:=few hv;have hel:=kE hp.vs;have hen:∀n:Nat,(evs p).getD n aad=ev p (n:Int):=λn=>by unfold ev;simp_all
  have hl:=sO hp (n:=(i:Int)) (by omega) (by omega);show Z1 (gV _ (evs p) (i:Int)) _;unfold gV J;refine .bif (λh=>by grind) λ_=>.gdI (by omega) ?_;refine(J1 hv n m (i+1) (by omega)<|by omega).bind λv3 h3=>?_;have hi':i<(evs p).length:=by omega
  have hr:=(F.f<|i+1).2;have hF:=(F.f i).2;have hrow:∀k,(v3.getD k aad).length<=100:=λk=>by
   by_cases hk:k<v3.length
   .have hm:=getD_in hk;rw[show v3=uJ ((chF p).drop<|i+1) from h3] at hm;have:=(rq.1 hm).1;rw[<- h3,ac7] at this;simp only[chF,llm,ac6] at this;omega
   rw[gdq,gen (by omega)];exact ac5 _
  rw[TH hi'] at hF ⊢;rw[<- h3] at hr;have hE:uJ (chE p i::(chF p).drop (i+1))=(chE p i).flatMap λy=>v3.map (y :: ·):=by rw[h3];rfl
  rw[hE] at hF ⊢;clear hE;generalize hS:(if (ev p (i:Int)).Reads=aae then Z3 p (ev p (i:Int)).Loc else [-1])=c;have hcf:chE p i=c.filter (nq (i:Int)):=by
   unfold chE;rw[<- hS]
   split
   .rfl
   unfold nq
   grind
  have hcl:c.length<=8:=by
   rw[<- hS]
   split
   .have hw:=(F.w (ev p (i:Int)).Loc.toNat<|by omega).1
    grind
   decide
  refine Z1.bind (P:=(· =c)) (.gdD ⟨by omega,by omega⟩ ?_) λs4 h4=>?_
  .simp only[tnn,hen];refine .bif (λh=>((MZ hp _).bind λv7 h7=>.pure ?_)) λh=>.pure ?_
   .rw[h7,<- hS,if_pos h]
   simp_all
  subst s4;rw[hcf] at hF ⊢;exact(Ol (i:Int) v3 c (by omega) hr hrow hF).bind λs8 h8=>.pure h8
theorem Xp(hv:bh (Z4 p)=aae):Z1 (qP (evs p) 0) (· =uJ (chF p)):=ru (evs p).length λm hm=>J1 hv (evs p).length m 0 (by omega) hm
theorem Lu(l:Int)(v3:List<|LL)(v4:LI)(v6:LL)(h40:v4.getD 0 aad=l)(h4:0<v4.length)(hn6:v6.length<=3000)(hn3:v3.length<=3000)(hr6:∀k,(v6.getD k aad).length<=100)(hr3:∀k,(v3.getD k aad).length<=100)(hall:(v6.flatMap λr=>v3.map ((l::r) :: ·)).length<=3000) :
  Z1 (aA (jo v3 v4 v6) (([]:List<|LL),(0:Int))) (· =v6.flatMap λr=>v3.map ((l::r) :: ·)):=by
 rw[<- cf v6] at hall ⊢;generalize hg:(λk=>v3.map ((l::v6.getD k aad) :: ·))=g at hall ⊢;have hgk:∀k,g k=v3.map ((l::v6.getD k aad) :: ·):=λk=>by grind
 refine(cK v6.length [] g (λk hk=>?_) ?_).mono λv hv=>by simp_all
 .have hpre:=acV (wN g<|show k+1<=v6.length by omega) hall;have hrk:=hr6 k;rw[bu,lla] at hpre;unfold jo J;simp only[acT,tnn,show(0:Int).toNat=0 from rfl,h40];refine .bifD (λ_=>?_) λh=>absurd (show(k:Int)<(v6.length:Int) by omega) h;refine Z1.bind (P:=(· =(acN<|k+1).flatMap g)) (.gdD ⟨by omega,by omega⟩<|.gdD ⟨by omega,by omega⟩<|.gd (aK (by grind) rfl) ?_) λv hv=>.gdI (by omega)<|.pure (by simp_all);rw[bu];have hk1:=hgk k;generalize (acN k).flatMap g=pre at hpre ⊢;generalize g k=gk at hk1 hpre ⊢;subst hk1;rw[llm] at hpre;have hstep:∀s:List (LL)×Int,jm v3 v4 v6 (pre,(k:Int)) s=bif aai (s.2<(v3.length:Int)) then
    gd (aai<|0<=s.2/\s.2<(v3.length:Int))<|gd (aR (([(([l]:LI)++(v6.getD k aad))]:LL).length+(v3.getD s.2.toNat aad).length) 24)<|gd (aR (s.1.length+1) 24)<|gd (ZU .i64<|s.2+(1:Int)) <|
    aag (.inl ((s.1++[(([(([l]:LI)++(v6.getD k aad))]:LL)++(v3.getD s.2.toNat aad))]),(s.2+(1:Int)))) else aag (.inr s.1):=λs=>by
   unfold jm J
   simp_all
  generalize jm v3 v4 v6 (pre,(k:Int))=step at hstep ⊢;generalize v6.getD k aad=y at hstep ⊢;refine(cK v3.length pre (λj=>[(l::y)::v3.getD j aad]) (λj hj=>?_) ?_).mono λv hv=>?_
  .have hil:((acN j).flatMap λj=>[(l::y)::v3.getD j aad]).length=j*1:=by rw[ez (m:=1) λ_ _=>rfl,ac6]
   rw[hstep];simp only[tnn];refine .bifD (λ_=>.gdD ⟨by omega,by omega⟩<|.gd (aK (by grind) rfl)<|.gd (aK (by grind) rfl)<|.gdI (by omega)<|.pure ?_) λh=>absurd (show(j:Int)<(v3.length:Int) by omega) h;rw[bu,ade]
   rfl
  .rw[hstep];exact .bifD (λh=>absurd h<|by omega) λ_=>.pure rfl
  rw[hv,cf v3 λx=>[(l::y)::x],oZ]
 unfold jo J;exact .bifD (λh=>absurd h<|by omega) λ_=>.pure rfl
theorem TJ{l:Nat}(h:l<3):(chO p).drop l=chL p l::(chO p).drop (l+1):=by
 match l,h with
 |0,_=>rfl
 |1,_=>rfl
 |2,_=>rfl
theorem F7(hv:bh (Z4 p)=aae):∀(n m l:Nat),l+n=3->n<m->Z1 (iU m (evs p) (l:Int)) (· =uJ ((chO p).drop l))
 |_,0,_,_,h=>by omega
 |0,m+1,l,hl,_=>by
  show Z1 (fU _ (evs p) (l:Int)) _;unfold fU;refine .bifD (λ_=>.pure ?_) λh=>absurd (show(2:Int)<(l:Int) by omega) h;rw[ads (by simp[chO] <;> omega)]
  rfl
 |n+1,m+1,l,hl,hm=>by
  have hp:=PV.of hv;have F:=few hv;have hl3:l<3:=by omega
  show Z1 (fU _ (evs p) (l:Int)) _;unfold fU;refine .bifD (λh=>absurd h<|by omega) λ_=>.gdI (by omega) ?_;refine(F7 hv n m (l+1) (by omega)<|by omega).bind λv3 h3=>(MZ hp _).bind λv4 h4=>?_;subst v4;have hw:=(F.w l hl3).1;obtain⟨t,ht⟩:=QE (p:=p) l hl3;refine .gdD ⟨by omega,by grind,by omega⟩ ?_;have e:(((Z3 p (l:Int)).drop (1:Int).toNat).take<|((Z3 p (l:Int)).length:Int).toNat-(1:Int).toNat)=(Z3 p (l:Int)).tail:=by
   rw[ht];simp
  rw[e];refine(Xo _<|by grind).bind λv6 h6=>?_;have hn6:v6.length<=3000:=by
   have:=(F.w l hl3).2;rw[h6];unfold chL at this
   simp_all
  have hr6:∀i,(v6.getD i aad).length<=100:=λi=>by
   by_cases hi:i<v6.length
   .have hm:=getD_in hi;rw[show v6=prm (Z3 p (l:Int)).tail.length (Z3 p (l:Int)).tail from h6] at hm;have:=((AC rfl).1 hm).length_eq
    grind
   rw[gdq,gen (by omega)];exact ac5 _
  have hn3:=(F.o<|l+1).2;have hO:=(F.o l).2;have hr3:∀k,(v3.getD k aad).length<=100:=λk=>by
   by_cases hk:k<v3.length
   .have hm:=getD_in hk;rw[show v3=uJ ((chO p).drop<|l+1) from h3] at hm;have:=(rq.1 hm).1;rw[<- h3,ac7] at this;simp only[chO,llc,ac3] at this;omega
   rw[gdq,gen (by omega)];exact ac5 _
  rw[TJ hl3] at hO ⊢;rw[<- h3] at hn3;have hE:uJ (chL p l::(chO p).drop (l+1))=v6.flatMap λr=>v3.map (((l:Int)::r) :: ·):=by
   show((prm (Z3 p (l:Int)).tail.length (Z3 p (l:Int)).tail).map ((l:Int) :: ·)).flatMap (λy=>(uJ<|(chO p).drop<|l+1).map (y :: ·))=_;rw[<- h6,<- h3,List.flatMap_map]
  rw[hE] at hO ⊢;exact(Lu (l:Int) v3 (Z3 p (l:Int)) v6 (by simp_all) (by simp_all) hn6 hn3 hr6 hr3 hO).bind λs7 h7=>.pure h7
theorem VP(hv:bh (Z4 p)=aae):Z1 (oK (evs p) 0) (· =uJ (chO p)):=ru 3 λm hm=>F7 hv 3 m 0 (by omega) hm
theorem VQ(FF:LL)(OO:List<|LL)(hall:FF.length*OO.length<=3000)(hn:FF.length<=3000)(hn2:OO.length<=3000)(hf:∀f∈FF,f.length<=24)(ho:∀o∈OO,o.length=3/\∀i,(o.getD i aad).length<=100) :
  Z1 (aA (oM FF OO) (([]:List ZX),(0:Int))) (· =FF.flatMap λf=>OO.map λo=>(⟨f,o⟩:ZX)):=by
 have hpre:∀j,j<=FF.length->((acN j).flatMap λj=>OO.map λo=>(⟨FF.getD j aad,o⟩:ZX)).length<=3000:=λj hj=>by
  have:=wN (λj=>OO.map λo=>(⟨FF.getD j aad,o⟩:ZX)) hj;rw[cf FF λf=>OO.map λo=>(⟨f,o⟩:ZX),ez (l:=FF) (f:=λf=>OO.map λo=>(⟨f,o⟩:ZX)) (m:=OO.length) λ_ _=>llm _] at this;omega
 refine(cK FF.length [] (λj=>OO.map λo=>(⟨FF.getD j aad,o⟩:ZX)) (λj hj=>?_) ?_).mono λv hv=>?_
 .have hfj:=hf _<|getD_in hj;have hpj:=hpre (j+1) hj;rw[bu,lla,llm] at hpj;unfold oM;simp only[acT];refine .bifD (λ_=>?_) λh=>absurd (show(j:Int)<(FF.length:Int) by omega) h;refine Z1.bind (P:=(· =(acN<|j+1).flatMap λj=>OO.map λo=>(⟨FF.getD j aad,o⟩:ZX))) ?_ λv hv=>.gdI (by omega)<|.pure (by simp_all);generalize hpe:(acN j).flatMap (λj=>OO.map λo=>(⟨FF.getD j aad,o⟩:ZX))=pre at hpj ⊢;generalize hfg:FF.getD j aad=f at hfj;have hstep:∀s:List ZX×Int,m7 FF OO (pre,(j:Int)) s=bif aai (s.2<(OO.length:Int)) then
    gd (aai<|0<=(j:Int)/\(j:Int)<(FF.length:Int))<|gd (aai<|0<=s.2/\s.2<(OO.length:Int))<|acO (oL (⟨f,OO.getD s.2.toNat aad⟩:ZX)) λv99=>
    gd (aR (s.1.length+1) 48)<|gd (ZU .i64<|s.2+(1:Int))<|aag (.inl ((s.1++[v99]),(s.2+(1:Int)))) else aag (.inr s.1):=λs=>by
   unfold m7 J
   simp_all
  generalize m7 FF OO (pre,(j:Int))=step at hstep ⊢;refine(cK OO.length pre (λi=>[(⟨f,OO.getD i aad⟩:ZX)]) (λi hi=>?_) ?_).mono λv hv=>?_
  .have hil:((acN i).flatMap λi=>[(⟨f,OO.getD i aad⟩:ZX)]).length=i*1:=by rw[ez (m:=1) λ_ _=>rfl,ac6]
   obtain⟨ho1,ho2⟩:=ho _<|getD_in hi;rw[hstep];simp only[tnn];refine .bifD (λ_=>.gdD ⟨by omega,by omega⟩<|.gdD ⟨by omega,by omega⟩<|(QD ⟨f,OO.getD i aad⟩ (acV hfj<|by omega) (by simp_all) λi=>acV (ho2 i)<|by omega).bind λv99 h99=>.gd (aK (by grind) rfl)<|.gdI (by omega)<|.pure ?_) λh=>absurd (show(i:Int)<(OO.length:Int) by omega) h;rw[h99,bu,ade]
   rfl
  .rw[hstep];exact .bifD (λh=>absurd h<|by omega) λ_=>.pure rfl
  rw[hv,cf OO λo=>[(⟨f,o⟩:ZX)],oZ,bu,hpe,hfg]
 .unfold oM;exact .bifD (λh=>absurd h<|by omega) λ_=>.pure rfl
 rw[hv,acT];exact cf FF λf=>OO.map λo=>(⟨f,o⟩:ZX)
theorem QH(hv:bh (Z4 p)=aae):Z1 (vD p) (· =aY p):=by
 have hp:=PV.of hv;have F:=few hv;have hel:=kE hp.vs;unfold vD;refine(IQ hp.vs).bind λv1 e1=>?_;subst v1;refine(Xp hv).bind λv2 h2=>(VP hv).bind λv3 h3=>?_;subst v2 v3;have h0:=(F.f (chF p).length).1;rw[ada] at h0;have h1:=(F.o (chO p).length).1;rw[ada] at h1;exact(VQ (uJ<|chF p) (uJ<|chO p) F.all h0 h1 (λf hf=>by rw[Lr hf];omega) λo ho=>QF F ho).bind λs4 h4=>.pure h4
end
def ud{κ α:Type}[DecidableEq κ](f:κ->α)(k:κ)(v:α):κ->α:=λj=>if j=k then v else f j
section
variable{κ α:Type}[DecidableEq κ]
theorem J2(f:κ->α)(k j:κ)(v:α):ud f k v j=if j=k then v else f j:=rfl
theorem vT(f:κ->α)(k:κ)(v:α):ud f k v k=v:=if_pos rfl
theorem Eh{f:κ->α}{k j:κ}{v:α}(h:j≠k):ud f k v j=f j:=if_neg h
theorem UM(f:κ->α)(k:κ)(v w:α):ud (ud f k v) k w=ud f k w:=by
 funext j;unfold ud;split <;> rfl
theorem QI(f:κ->α){k j:κ}(v w:α)(h:k≠j):ud (ud f k v) j w=ud (ud f j w) k v:=by
 funext i;unfold ud;split <;> split <;> first|rfl|(exfalso;rename_i h1 h2;exact h<|h2 ▸ h1)
end
inductive Rch{α:Type}(S:α->α->Prop)(a0:α):α->Prop
 |base:Rch S a0 a0
 |step {a b:α} (h:Rch S a0 a) (s:S a b):Rch S a0 b
theorem Rch.inv{α:Type}{S:α->α->Prop}{a0:α}(I:α->Prop)(h0:I a0)(hs:∀a b,I a->S a b->I b){a:α}(h:Rch S a0 a):I a:=by
 induction h with
 |base=>exact h0
 |step _ s ih=>exact hs _ _ ih s
theorem Rch.trans{α:Type}{S:α->α->Prop}{a0 a b:α}(h:Rch S a0 a)(k:Rch S a b):Rch S a0 b:=by
 induction k with
 |base=>exact h
 |step _ s ih=>exact ih.step s
structure Bis{σ α:Type}(M:Mac σ)(s0:σ)(S:α->α->Prop)(a0:α)(D:α->Prop)(O:α->List Int)(I:σ->Prop)(A:σ->α):Prop where
 i0:I s0
 h0:A s0=a0
 fw:∀s m,I s->Rch S a0 (A s)->m∈M.mv s->I (M.af s m)/\S (A s) (A<|M.af s m)
 bw:∀s b,I s->Rch S a0 (A s)->S (A s) b->∃m,m∈M.mv s/\A (M.af s m)=b
 dn:∀s,I s->Rch S a0 (A s)->(M.dn s=aae↔D (A s))
 oc:∀s,I s->Rch S a0 (A s)->M.dn s=aae->M.oc s=O (A s)
section
variable{σ α:Type}{M:Mac σ}{s0:σ}{S:α->α->Prop}{a0:α}{D:α->Prop}{O:α->LI}{I:σ->Prop}{A:σ->α}
theorem Bis.rea(B:Bis M s0 S a0 D O I A){s:σ}(h:Rea M s0 s):I s/\Rch S a0 (A s):=by
 induction h with
 |base=>exact⟨B.i0,by rw[B.h0];exact .base⟩
 |step _ hm ih=>
  have:=B.fw _ _ ih.1 ih.2 hm;exact⟨this.1,ih.2.step this.2⟩
theorem Bis.back(B:Bis M s0 S a0 D O I A){a:α}(h:Rch S a0 a):∃s,Rea M s0 s/\A s=a:=by
 induction h with
 |base=>exact⟨s0,.base,B.h0⟩
 |step h k ih=>
  obtain⟨s,h1,rfl⟩:=ih;have h2:=B.rea h1;obtain⟨m,h3,h4⟩:=B.bw s _ h2.1 h2.2 k;exact⟨_,.step h1 h3,h4⟩
def Zf(S:α->α->Prop)(a0:α)(D:α->Prop)(O:α->LI)(o:LI):Prop:=∃a,Rch S a0 a/\D a/\O a=o
theorem Bis.outs(B:Bis M s0 S a0 D O I A)(o:LI):Xi M s0 o↔Zf S a0 D O o:=by
 refine⟨λ⟨s,h1,h2,h3⟩=>?_,λ⟨a,h1,h2,h3⟩=>?_⟩
 .have h4:=B.rea h1;exact⟨A s,h4.2,(B.dn s h4.1 h4.2).1 h2,by rw[<- B.oc s h4.1 h4.2 h2,h3]⟩
 obtain⟨s,h4,rfl⟩:=B.back h1;have h5:=B.rea h4;have h6:=(B.dn s h5.1 h5.2).2 h2;exact⟨s,h4,h6,by rw[B.oc s h5.1 h5.2 h6,h3]⟩
theorem Bis.mok(B:Bis M s0 S a0 D O I A){N:Nat}(hk:∀s t,I s->I t->Rch S a0 (A s)->Rch S a0 (A t)->M.ky s=M.ky t->s=t)(ha:∀s t,I s->I t->A s=A t->s=t)(hc:∀V:List α,V.Nodup->(∀v∈V,Rch S a0 v)->V.length<=N):Mok M s0 N where
 key:=λs t hs ht h=>hk s t (B.rea hs).1 (B.rea ht).1 (B.rea hs).2 (B.rea ht).2 h
 cnt:=λV hn hV=>by
  have:=hc (V.map A) ?_ λv hv=>?_
  .simpa using this
  .rw[List.nodup_iff_pairwise_ne] at hn ⊢;rw[List.pairwise_map];exact hn.imp_of_mem λ{a b}h1 h2 hne e=>hne<|ha a b (B.rea<|hV a h1).1 (B.rea<|hV b h2).1 e
  obtain⟨s,hs,rfl⟩:=adb.1 hv;exact(B.rea<|hV s hs).2
end
structure TS where
 pc:Nat->Nat
 rg:Nat->Int->Int
 mm:Int->Int
 bf:Nat->Int->List (Int×Int)
def KP(x:ZW):Bool:=x.Op==2||x.Op==3
section
variable(P:Nat->List ZW)(d:Bool)(cl:Int->Int)
def yd(l:Int)(b:List<|Int×Int)(z:Int):Int:=match b.reverse.find? (λe=>aai<|e.1=l) with
 |some e=>e.2
 |none=>z
def Ei(a:TS)(t:Nat)(l:Int):Int:=yd l (a.bf t<|cl l)<|a.mm l
def SX(a:TS)(t:Nat)(x:ZW):Int:=if x.Op=3 then a.rg t x.Reg else x.Val
def exT(a:TS)(t:Nat)(x:ZW):TS where
 pc:=ud a.pc t<|a.pc t+1
 rg:=if rdX x then ud a.rg t (ud (a.rg t) x.Reg<|Ei cl a t x.Loc) else a.rg
 mm:=if wrX x&&(d||x.Op==5) then ud a.mm x.Loc (SX a t x) else a.mm
 bf:=if KP x && !d then ud a.bf t (ud (a.bf t) (cl x.Loc)<|a.bf t (cl x.Loc)++[(x.Loc,SX a t x)]) else a.bf
theorem Xq(a:TS)(t:Nat)(x:ZW):(exT d cl a t x).rg=if rdX x then ud a.rg t (ud (a.rg t) x.Reg<|Ei cl a t x.Loc) else a.rg:=rfl
theorem Xr(a:TS)(t:Nat)(x:ZW):(exT d cl a t x).mm=if wrX x&&(d||x.Op==5) then ud a.mm x.Loc (SX a t x) else a.mm:=rfl
theorem Xt(a:TS)(t:Nat)(x:ZW):(exT d cl a t x).bf=if KP x && !d then ud a.bf t (ud (a.bf t) (cl x.Loc)<|a.bf t (cl x.Loc)++[(x.Loc,SX a t x)]) else a.bf:=rfl
def flT(a:TS)(t:Nat)(c:Int)(e:Int×Int)(r:List<|Int×Int):TS:={ a with mm:=ud a.mm e.1 e.2,bf:=ud a.bf t (ud (a.bf t) c r) }
def Zu(a:TS)(t:Nat)(x:ZW):Prop:=(P t)[a.pc t]?=aag x/\(x.Op=4\/x.Op=5->∀c,a.bf t c=[])
inductive StT:TS->TS->Prop
 |ex {a:TS} {t:Nat} {x:ZW} (h:Zu P a t x):StT a (exT d cl a t x)
 |fl {a:TS} {t:Nat} {c:Int} {e:Int×Int} {r:List (Int×Int)} (h:a.bf t c=e::r):StT a (flT a t c e r)
def a0T:TS:=⟨λ_=>0,λ_ _=>0,λ_=>0,λ_ _=>[]⟩
def DnT(a:TS):Prop:=(∀t,(P t).length<=a.pc t)/\∀t c,a.bf t c=[]
def outT(n:Nat)(a:TS):LI:=((acN n).flatMap λt=>(acN 3).map λg:Nat=>a.rg t g)++(acN 3).map λl:Nat=>a.mm l
def YG(n:Nat):LI->Prop:=Zf (StT P d cl) a0T (DnT P)<|outT n
end
section
variable{P:Nat->List ZW}{d:Bool}{cl:Int->Int}
theorem Lv(l z:Int)(b:List<|Int×Int)(e:Int×Int):yd l (b++[e]) z=if e.1=l then e.2 else yd l b z:=by
 unfold yd;rw[List.reverse_append];simp only[List.reverse_cons,List.reverse_nil,acT,List.singleton_append,List.find?_cons]
 by_cases h:e.1=l
 .simp[h]
 simp[h]
theorem TS.ext{a b:TS}(h1:a.pc=b.pc)(h2:a.rg=b.rg)(h3:a.mm=b.mm)(h4:a.bf=b.bf):a=b:=by
 cases a;cases b;simp only at h1 h2 h3 h4;subst h1 h2 h3 h4;rfl
theorem YH{x:ZW}(h:KP x=aae):rdX x=aaf/\wrX x=aae/\x.Op≠4/\x.Op≠5:=by
 unfold KP at h;unfold rdX wrX;rcases adw _ _ ▸ h with h|h <;> (have:=eq_of_beq h;rw[this];decide)
end
theorem Om{α β:Type}{f:α->List β}{m:Nat}:∀{l:List α},(∀x∈l,(f x).length<=m)->(l.flatMap f).length<=l.length*m
 |[],_=>by simp
 |x::l,h=>by
  have h1:=h x acS;have h2:=Om (l:=l) λy hy=>h y<|ac8 _ hy;rw[adx,lla,llc,Nat.add_mul,Nat.one_mul];omega
theorem QJ{α:Type}{V l:List α}(hn:V.Nodup)(h:∀v∈V,v∈l):V.length<=l.length:=List.Nodup.length_le_of_subset hn h
abbrev LSt:=(Int->Int)×(Int->List (Int×Int))
def l0:LSt:=(λ_=>0,λ_=>[])
def Zv(s:LSt)(x:ZW):Int:=if x.Op=3 then s.1 x.Reg else x.Val
section
variable(cl:Int->Int)
def lsx(x:ZW)(s:LSt):List LSt:=
 if rdX x then [(ud s.1 x.Reg 0,s.2),(ud s.1 x.Reg 1,s.2),(ud s.1 x.Reg 2,s.2),(ud s.1 x.Reg 3,s.2)]
 else if KP x then [(s.1,ud s.2 (cl x.Loc)<|s.2 (cl x.Loc)++[(x.Loc,Zv s x)]),(s.1,ud s.2 (cl x.Loc) [])]
 else [s]
def LSn(l:List ZW):Nat->List LSt
 |0=>[l0]
 |k+1=>(LSn l k).flatMap (lsx cl<|l.getD k aad)
def evW(l:List ZW):Nat:=l.countP λx=>x.Op != 4
variable{cl}
theorem VR(x:ZW)(s:LSt):(lsx cl x s).length<=4 ^ evW [x]:=by
 unfold lsx evW rdX KP
 by_cases h:x.Op=4
 .simp[h]
 have : (x.Op != 4)=aae:=by simpa using h
 rw[List.countP_cons_of_pos (p:=λx:ZW=>x.Op != 4) this]
 split
 .simp
 split <;> simp
theorem QK{l:List ZW}:∀{k:Nat},k<=l.length->(LSn cl l k).length<=4 ^ evW (l.take k)
 |0,_=>by simp[LSn,evW]
 |k+1,h=>by
  have h1:=QK (l:=l) (k:=k) (by omega);have h2:=Om (f:=lsx cl<|l.getD k aad) (l:=LSn cl l k) λs _=>VR _ s;have h3:evW (l.take<|k+1)=evW (l.take k)+evW [l.getD k aad]:=by
   unfold evW;rw[List.take_add_one,List.countP_append,geq (by omega)];simp[List.getD,show k<l.length by omega]
  rw[h3,Nat.pow_add];exact acV h2<|adi _ h1
theorem TK(l:List ZW)(k:Nat):evW (l.take k)<=evW l:=(List.take_sublist k l).countP_le
theorem Ic{l:List ZW}{c:Int}{e:Int×Int}:∀{k:Nat}{s:LSt}{r:List (Int×Int)},s∈LSn cl l k->s.2 c=e::r->(s.1,ud s.2 c r)∈LSn cl l k
 |0,s,r,h,hc=>by
  obtain rfl:=acQ.1 h
  cases hc
 |k+1,s,r,h,hc=>by
  obtain⟨u,hu,hs⟩:=ac0.1 h;refine ac0.2 ?_;unfold lsx at hs ⊢
  split at hs
  .have h2:s.2=u.2:=by
    simp only[acU,adj,or_false] at hs;rcases hs with rfl|rfl|rfl|rfl <;> rfl
   rename_i hr;have:=Ic (s:=u) hu<|h2 ▸ hc;refine⟨_,this,?_⟩;rw[if_pos hr];simp only[acU,adj,or_false] at hs ⊢;rcases hs with rfl|rfl|rfl|rfl <;> simp
  rename_i hr
  split at hs
  .rename_i ht;simp only[acU,adj,or_false] at hs;rcases hs with rfl|rfl
   .by_cases g:c=cl (l.getD k aad).Loc
    .subst g;simp only[vT] at hc
     cases hb:u.2 (cl (l.getD k aad).Loc) with
     |nil=>
      rw[hb] at hc;injection hc with _ hc;refine⟨u,hu,?_⟩;rw[if_neg hr,if_pos ht,<- hc,UM];simp
     |cons e0 r0=>
      rw[hb] at hc;injection hc with h1 hc;refine⟨_,Ic hu hb,?_⟩;rw[if_neg hr,if_pos ht];simp only[vT,UM];rw[<- hc];exact acS
    simp only[Eh g] at hc;refine⟨_,Ic hu hc,?_⟩;rw[if_neg hr,if_pos ht];simp only[];rw[Eh λe=>g e.symm,QI _ _ _ g];exact acS
   by_cases g:c=cl (l.getD k aad).Loc
   .subst g;simp only[vT] at hc
    cases hc
   simp only[Eh g] at hc;refine⟨_,Ic hu hc,?_⟩;rw[if_neg hr,if_pos ht];simp only[];rw[show ud (ud u.2 (cl (l.getD k aad).Loc) []) c r=ud (ud u.2 c r) (cl (l.getD k aad).Loc) [] from QI _ _ _ λe=>g e.symm];exact ac8 _ acS
  rename_i ht;obtain rfl:=acQ.1 hs;refine⟨_,Ic hu hc,?_⟩;rw[if_neg hr,if_neg ht];exact acS
end
def VlL(s:LSt):Prop:=(∀g,0<=s.1 g/\s.1 g<=3)/\∀c e,e∈s.2 c->(0<=e.1/\e.1<=2)/\0<=e.2/\e.2<=3
section
variable{P:Nat->List ZW}{cl:Int->Int}
structure InT(P:Nat->List ZW)(cl:Int->Int)(a:TS):Prop where
 ls:∀t,(a.rg t,a.bf t)∈LSn cl (P t) (a.pc t)
 vl:∀t,VlL (a.rg t,a.bf t)
 pc:∀t,a.pc t<=(P t).length
 mm:∀l,0<=a.mm l/\a.mm l<=3
 m0:∀l,¬ (0<=l/\l<=2)->a.mm l=0
theorem QL{l z:Int}{b:List (Int×Int)}:yd l b z=z\/∃e∈b,yd l b z=e.2:=by
 unfold yd
 cases h:b.reverse.find? λe=>aai (e.1=l) with
 |none=>exact .inl rfl
 |some e=>exact .inr ⟨e,List.mem_reverse.1<|List.mem_of_find?_eq_some h,rfl⟩
theorem InT.start:InT P cl a0T:=⟨λ_=>acS,λ_=>⟨λ_=>⟨Int.le_refl _,by show(0:Int)<=3;decide⟩,λ_ _ h=>by cases h⟩,λ_=>ac5 _,λ_=>⟨Int.le_refl _,by show(0:Int)<=3;decide⟩,λ_ _=>rfl⟩
theorem InT.seen{a:TS}(h:InT P cl a)(t:Nat)(l:Int):0<=Ei cl a t l/\Ei cl a t l<=3:=by
 unfold Ei;rcases QL (l:=l) (z:=a.mm l) (b:=a.bf t<|cl l) with e|⟨x,hx,e⟩
 .rw[e];exact h.mm l
 rw[e];exact((h.vl t).2 _ _ hx).2
theorem InT.val{a:TS}(h:InT P cl a)(t:Nat){x:ZW}(hx:InR x):0<=SX a t x/\SX a t x<=3:=by
 unfold SX
 split
 .exact(h.vl t).1 _
 exact⟨hx.2.2.2.2.1,hx.2.2.2.2.2⟩
theorem InT.step(hP:∀(t k:Nat)(x:ZW),(P t)[k]?=aag x->InR x){a b:TS}(h:InT P cl a)(s:StT P aaf cl a b):InT P cl b:=by
 cases s with
 |@ex t x hc=>
  have hx:=hP _ _ _ hc.1;have hs:=h.seen t x.Loc;have hv:=h.val t hx;obtain⟨hk,he⟩:=ges hc.1;have hg:(P t).getD (a.pc t) aad=x:=by simp[List.getD,hc.1]
  refine⟨λu=>?_,λu=>?_,λu=>?_,λl=>?_,λl hl=>?_⟩
  .by_cases hu:u=t
   .subst hu;have hl:=h.ls u;simp only[exT,vT];refine ac0.2 ⟨_,hl,?_⟩;rw[hg];unfold lsx
    cases hr:rdX x with
    |true=>
     have hn:KP x=aaf:=by
      cases e:KP x with
      |false=>rfl
      |true=>rw[(YH e).1] at hr;cases hr
     rw[hn];simp only[if_true,ady,Bool.false_eq_true,if_false,vT,acU,adj,or_false];have : Ei cl a u x.Loc=0\/Ei cl a u x.Loc=1\/Ei cl a u x.Loc=2\/Ei cl a u x.Loc=3:=by omega
     rcases this with e|e|e|e <;> rw[e] <;> simp
    |false=>
     simp only[Bool.false_eq_true,if_false]
     cases ht:KP x with
     |false=>simp
     |true=>
      simp only[if_true,acX,adG,vT];exact acS
   simp only[exT,Eh hu];have hl:=h.ls u;have e1:(if rdX x=aae then ud a.rg t (ud (a.rg t) x.Reg<|Ei cl a t x.Loc) else a.rg) u=a.rg u:=by split <;> simp[Eh hu]
   have e2:(if (KP x && !false)=aae then ud a.bf t (ud (a.bf t) (cl x.Loc)<|a.bf t (cl x.Loc)++[(x.Loc,SX a t x)]) else a.bf) u=a.bf u:=by split <;> simp[Eh hu]
   rw[e1,e2];exact hl
  .have hl:=h.vl u
   by_cases hu:u=t
   .subst hu;refine⟨λg=>?_,λc e he=>?_⟩
    .simp only[exT]
     split
     .rw[vT];unfold ud
      split
      .exact hs
      exact hl.1 g
     exact hl.1 g
    simp only[exT] at he
    split at he
    .rw[vT] at he;unfold ud at he
     split at he
     .rcases acZ.1 he with he|he
      .exact hl.2 _ _ he
      rw[acQ.1 he];exact⟨⟨hx.1,hx.2.1⟩,hv⟩
     exact hl.2 _ _ he
    exact hl.2 _ _ he
   have e1:(exT aaf cl a t x).rg u=a.rg u:=by simp only[exT];split <;> simp[Eh hu]
   have e2:(exT aaf cl a t x).bf u=a.bf u:=by simp only[exT];split <;> simp[Eh hu]
   rw[e1,e2];exact hl
  .simp only[exT,ud]
   split
   .rename_i e;subst e;omega
   exact h.pc u
  .simp only[exT]
   split
   .unfold ud
    split
    .exact hv
    exact h.mm l
   exact h.mm l
  simp only[exT]
  split
  .rw[Eh λe=>hl (by rw[e];exact⟨hx.1,hx.2.1⟩)];exact h.m0 l hl
  exact h.m0 l hl
 |@fl t c e r hb=>
  have he:=(h.vl t).2 c e (by show e∈a.bf t c;rw[hb];exact acS);refine⟨λu=>?_,λu=>?_,h.pc,λl=>?_,λl hl=>?_⟩
  .by_cases hu:u=t
   .subst hu;simp only[flT,vT];exact Ic (h.ls u) hb
   simp only[flT,Eh hu];exact h.ls u
  .have hl:=h.vl u
   by_cases hu:u=t
   .subst hu;refine⟨hl.1,λc' e' he'=>?_⟩;simp only[flT,vT] at he';unfold ud at he'
    split at he'
    .exact hl.2 c e' (by show e'∈a.bf u c;rw[hb];exact ac8 _ he')
    exact hl.2 _ _ he'
   simp only[flT,Eh hu];exact hl
  .simp only[flT,ud]
   split
   .exact he.2
   exact h.mm l
  simp only[flT];rw[Eh λe=>hl (by rw[e];exact he.1)];exact h.m0 l hl
theorem InT.of(hP:∀(t k:Nat)(x:ZW),(P t)[k]?=aag x->InR x){a:TS}(h:Rch (StT P aaf cl) a0T a):InT P cl a:=
 h.inv _ .start λ_ _ h s=>h.step hP s
def Lt(P:Nat->List ZW)(cl:Int->Int)(t:Nat):List (Nat×LSt):=(acN<|(P t).length+1).flatMap λk=>(LSn cl (P t) k).map λs=>(k,s)
theorem QM(h7:∀t,(P t).length<=7)(t:Nat):(Lt P cl t).length<=8*4 ^ evW (P t):=by
 have:=Om (f:=λk=>(LSn cl (P t) k).map λs=>(k,s)) (l:=acN<|(P t).length+1) (m:=4 ^ evW (P t)) λk hk=>by
  have hk:=ac1.1 hk;rw[llm];exact acV (QK<|by omega)<|adH (by decide)<|TK _ _
 rw[ac6] at this;exact acV this<|adi _ (by have:=h7 t;omega)
def m3:List (Int×Int×Int):=[0,1,2,3].flatMap λa=>[0,1,2,3].flatMap λb=>[0,1,2,3].map λc=>(a,b,c)
theorem Xu{a b c:Int}(ha:0<=a/\a<=3)(hb:0<=b/\b<=3)(hc:0<=c/\c<=3):(a,b,c)∈m3:=by
 have h:∀x:Int,0<=x/\x<=3->x∈([0,1,2,3]:LI):=λx hx=>by
  have : x=0\/x=1\/x=2\/x=3:=by omega
  rcases this with rfl|rfl|rfl|rfl <;> decide
 exact ac0.2 ⟨a,h a ha,ac0.2 ⟨b,h b hb,adb.2 ⟨c,h c hc,rfl⟩⟩⟩
def Xv{α:Type}(a b c z:α)(t:Nat):α:=if t=0 then a else if t=1 then b else if t=2 then c else z
def mkT(a b c:Nat×LSt)(m:Int×Int×Int):TS where
 pc t:=(Xv a b c (0,l0) t).1
 rg t:=(Xv a b c (0,l0) t).2.1
 mm l:=if l=0 then m.1 else if l=1 then m.2.1 else if l=2 then m.2.2 else 0
 bf t:=(Xv a b c (0,l0) t).2.2
theorem Zw(hP:∀(t k:Nat)(x:ZW),(P t)[k]?=aag x->InR x)(h3:∀t,3<=t->P t=[])(h7:∀t,(P t).length<=7)(he:evW (P 0)+evW (P 1)+evW (P 2)<=12)(V:List TS)(hn:V.Nodup)(hV:∀v∈V,Rch (StT P aaf cl) a0T v):V.length<=549755813888:=by
 have hs:=QJ hn (l:=(Lt P cl 0).flatMap λa=>(Lt P cl 1).flatMap λb=>(Lt P cl 2).flatMap λc=>m3.map<|mkT a b c) λv hv=>?_
 .have l2:=QM (cl:=cl) h7 2;have l1:=QM (cl:=cl) h7 1;have l0:=QM (cl:=cl) h7 0;have k2:∀a b,((Lt P cl 2).flatMap λc=>m3.map<|mkT a b c).length<=8*4 ^ evW (P 2)*64:=λa b=>acV (Om (m:=64) λ_ _=>by rw[llm];decide) (adi _ l2);have k1:∀a,((Lt P cl 1).flatMap λb=>(Lt P cl 2).flatMap λc=>m3.map<|mkT a b c).length<=8*4 ^ evW (P 1)*(8*4 ^ evW (P 2)*64):=λa=>acV (Om λb _=>k2 a b)<|adi _ l1;have k0:=acV (Om (l:=Lt P cl 0) λa _=>k1 a)<|adi _ l0;have e:8*4 ^ evW (P 0)*(8*4 ^ evW (P 1)*(8*4 ^ evW (P 2)*64))=32768*4 ^ (evW (P 0)+evW (P 1)+evW (P 2)):=by
   rw[Nat.pow_add,Nat.pow_add];generalize 4 ^ evW (P 0)=x;generalize 4 ^ evW (P 1)=y;generalize 4 ^ evW (P 2)=z;have : 8*x*(8*y*(8*z*64))=32768*(x*y*z):=by
    simp only[Nat.mul_assoc,Nat.mul_left_comm,Nat.mul_comm]
   exact this
  rw[e] at k0;have h4:4 ^ (evW (P 0)+evW (P 1)+evW (P 2))<=4 ^ 12:=adH (by decide) he;have h5:(4:Nat) ^ 12=16777216:=by decide
  omega
 have hi:=InT.of hP<|hV v hv;have hm:∀t,(v.pc t,v.rg t,v.bf t)∈Lt P cl t:=λt=>ac0.2 ⟨v.pc t,ac1.2 (by have:=hi.pc t;omega),adb.2 ⟨_,hi.ls t,rfl⟩⟩;refine ac0.2 ⟨_,hm 0,ac0.2 ⟨_,hm 1,ac0.2 ⟨_,hm 2,adb.2 ⟨(v.mm 0,v.mm 1,v.mm 2),Xu (hi.mm 0) (hi.mm 1)<|hi.mm 2,?_⟩⟩⟩⟩;have hsel:∀t,Xv (v.pc 0,v.rg 0,v.bf 0) (v.pc 1,v.rg 1,v.bf 1) (v.pc 2,v.rg 2,v.bf 2) (0,l0) t=(v.pc t,v.rg t,v.bf t):=λt=>by
  unfold Xv
  split
  .rename_i h;rw[h]
  split
  .rename_i h;rw[h]
  split
  .rename_i h;rw[h]
  have h0:=h3 t (by omega);have h1:=hi.pc t;have h2:=hi.ls t;rw[h0] at h1 h2;have h1:v.pc t=0:=by simpa using h1
  rw[h1] at h2 ⊢;rw[acQ.1 h2]
 unfold mkT;refine TS.ext ?_ ?_ ?_ ?_
 .funext t;simp only[hsel]
 .funext t;simp only[hsel]
 .funext l
  simp only[]
  split
  .rename_i h;rw[h]
  split
  .rename_i h;rw[h]
  split
  .rename_i h;rw[h]
  exact(hi.m0 l<|by omega).symm
 funext t;simp only[hsel]
end
theorem M0{cl:Int->Int}{l:List ZW}:∀{k:Nat}{u:LSt},u∈LSn cl l k->∀c,(u.2 c).length<=k
 |0,u,h,c=>by rw[acQ.1 h];exact ac2 _
 |k+1,u,h,c=>by
  obtain⟨v,hv,hu⟩:=ac0.1 h;have ih:=M0 hv;have:=ih c;unfold lsx at hu
  split at hu
  .simp only[acU,adj,or_false] at hu;rcases hu with rfl|rfl|rfl|rfl <;> (simp only[];omega)
  split at hu
  .simp only[acU,adj,or_false] at hu;rcases hu with rfl|rfl
   .simp only[J2]
    split
    .rename_i e;have:=ih<|cl (l.getD k aad).Loc;rw[lla,acR];omega
    omega
   simp only[J2]
   split
   .exact ac5 _
   omega
  rw[acQ.1 hu];omega
def prg(p:List<|List ZW):Nat->List ZW:=λt=>p.getD t aad
def clB(sp:Bool):Int->Int:=λl=>bif sp then l else 0
def Lx(sp:Bool)(c:Int):Prop:=(sp=aae/\0<=c/\c<=2)\/(sp=aaf/\c=0)
instance(sp:Bool)(c:Int):Decidable (Lx sp c):=by unfold Lx;infer_instance
def ixB(sp:Bool)(t:Nat)(c:Int):Nat:=bif sp then 3*t+c.toNat else t
theorem QN{sp:Bool}{t t':Nat}{c c':Int}(h:Lx sp c)(h':Lx sp c')(e:ixB sp t c=ixB sp t' c'):t=t'/\c=c':=by
 unfold ixB at e;rcases h with⟨rfl,h⟩|⟨rfl,rfl⟩
 .rcases h' with⟨_,h'⟩|⟨h',_⟩
  .simp only[cond_true] at e;omega
  cases h'
 rcases h' with⟨h',_⟩|⟨_,rfl⟩
 .cases h'
 exact⟨e,rfl⟩
theorem M3{sp:Bool}{t n:Nat}{c:Int}(h:Lx sp c)(ht:t<n):ixB sp t c<bif sp then 3*n else n:=by
 unfold ixB;rcases h with⟨rfl,h⟩|⟨rfl,rfl⟩
 .simp only[cond_true];omega
 exact ht
theorem M4{sp:Bool}{n b:Nat}(hb:b<bif sp then 3*n else n):∃t c,t<n/\Lx sp c/\ixB sp t c=b:=by
 cases sp with
 |true=>
  simp only[cond_true] at hb;exact⟨b / 3,((b % 3:Nat):Int),by omega,.inl ⟨rfl,by omega,by omega⟩,by simp only[ixB,cond_true];omega⟩
 |false=>exact⟨b,0,hb,.inr ⟨rfl,rfl⟩,rfl⟩
theorem J3(sp:Bool){l:Int}(hl:0<=l/\l<=2):Lx sp (clB sp l):=by
 cases sp with
 |true=>exact .inl ⟨rfl,hl⟩
 |false=>exact .inr ⟨rfl,rfl⟩
structure PW(p:List (List ZW)):Prop where
 pv:PV p
 ev:evW (prg p 0)+evW (prg p 1)+evW (prg p 2)<=12
 op:∀(t k:Nat)(x:ZW),(prg p t)[k]?=aag x->1<=x.Op/\x.Op<=5
section
variable{p:List (List ZW)}
theorem QO{t k:Nat}{x:ZW}(h:(prg p t)[k]?=aag x):t<p.length:=by
 rcases adk t p.length with g|g
 .exact g
 unfold prg at h;rw[gdq,gen g] at h
 cases h
theorem PV.prg(hp:PV p)(t k:Nat)(x:ZW)(h:(prg p t)[k]?=aag x):InR x:=by
 have ht:=QO h;obtain⟨hk,e⟩:=ges h;have:=hp.ins t k ht hk;have e2:(p.getD t aad).getD k aad=x:=by
  rw[gdq];unfold Go.Proofs.YtoagamanbofngaaGreatDoor.prg at h;rw[h];rfl
 rw[e2] at this;exact this
theorem PV.prg0(hp:PV p)(t:Nat)(h:3<=t):Go.Proofs.YtoagamanbofngaaGreatDoor.prg p t=[]:=by
 have:=hp.vs.1;unfold Go.Proofs.YtoagamanbofngaaGreatDoor.prg;rw[gdq,gen (by omega)]
 rfl
theorem PW.cnl(hp:PW p){cl:Int->Int}(V:List TS)(hn:V.Nodup)(hV:∀v∈V,Rch (StT (prg p) aaf cl) a0T v):V.length<=549755813888:=
 Zw hp.pv.prg hp.pv.prg0 hp.pv.vs.2 hp.ev V hn hV
theorem PW.of(h:bh (p.map λr=>r.map cm)=aae):PW p:=by
 have hp:=PV.of h;refine⟨hp,?_,λt k x hx=>?_⟩
 .have hc:Fs BF (p.map λr=>r.map cm)<=12:=by
   simp only[bh,uk,bae,dte] at h;exact h.1.1.2
  have he:∀l:List ZW,evW l=(l.map cm).countP BF:=λl=>by
   unfold evW;rw[List.countP_map]
   rfl
  have hl:=hp.vs.1;unfold Fs at hc;have hd:(aad:List ZW)=[]:=rfl;unfold prg
  match p,hl with
  |[],_=>simp[he,hd]
  |[a],_=>simp[he,hd] at hc ⊢;omega
  |[a,b],_=>simp[he,hd] at hc ⊢;omega
  |[a,b,c],_=>simp[he,hd] at hc ⊢;omega
  |_::_::_::_::_,hl=>simp at hl
 have ht:=QO hx;obtain⟨hk,e⟩:=ges hx;have h1:=(Vs.of h).2 t k ht hk;have e2:(p.getD t aad).getD k aad=x:=by
  rw[gdq];unfold Go.Proofs.YtoagamanbofngaaGreatDoor.prg at hx;rw[hx];rfl
 rw[e2] at h1;unfold pQ cm at h1;simp only at h1
 split at h1
 .omega
 split at h1
 .omega
 split at h1
 .omega
 split at h1
 .omega
 cases h1
end
abbrev Tb:=List<|List BA
section
variable{σ γ:Type}[Inhabited σ](hsh:BA->Option Int)(fnd:Tb->BA->Option Bool)(ky:σ->Option BA)(can:σ->γ->Int->Option Bool)(af:σ->γ->Int->Option σ)(ub:γ->Int)(pre:σ->Option γ)(dn:σ->Option Bool)(oc:σ->Option (LI))(put:LL->LI->Option (LL))(m:Nat)
def Xw(s:σ)(g:γ):(Int×Tb×List σ)->Option ((Int×Tb×List σ) ⊕ (Tb×List σ)):=λz=>
 bif aai (z.1<ub g) then
  acO (can s g z.1) λc=>
  bif c then
   acO (af s g z.1) λn=>
   acO (ky n) λk=>
   acO (fnd z.2.1 k) λf=>
   bif !f then
    acO (hsh k) λv=>
    gd (aai<|0<=v/\v<(z.2.1.length:Int)) <|
    gd (aR ((z.2.1.getD v.toNat []).length+1) 16) <|
    gd (aR (z.2.2.length+1) m) <|
    gd (ZU .i64<|z.1+(1:Int)) <|
    aag (.inl (z.1+(1:Int),z.2.1.set v.toNat<|z.2.1.getD v.toNat []++[k],z.2.2++[n]))
   else
    gd (ZU .i64<|z.1+(1:Int)) <|
    aag (.inl (z.1+(1:Int),z.2.1,z.2.2))
  else
   gd (ZU .i64<|z.1+(1:Int)) <|
   aag (.inl (z.1+(1:Int),z.2.1,z.2.2))
 else
  aag (.inr z.2)
def Yu:(Tb×List σ×Int×LL)->Option ((Tb×List σ×Int×LL) ⊕ (Int×LL)):=λz=>
 bif aai ((0:Int)<(z.2.1.length:Int)) then
  gd (ZU .i64<|(z.2.1.length:Int)-(1:Int)) <|
  gd (aai<|0<=((z.2.1.length:Int)-(1:Int))/\((z.2.1.length:Int)-(1:Int))<(z.2.1.length:Int)) <|
  gd (ZU .i64<|z.2.2.1+(1:Int)) <|
  acO (dn<|z.2.1.getD ((z.2.1.length:Int)-(1:Int)).toNat aad) λd=>
  acO (bif d then
   acO (oc<|z.2.1.getD ((z.2.1.length:Int)-(1:Int)).toNat aad) λo=>
   put z.2.2.2 o
  else aag z.2.2.2) λouts=>
  acO (pre<|z.2.1.getD ((z.2.1.length:Int)-(1:Int)).toNat aad) λg=>
  acO (aA (Xw hsh fnd ky can af ub m (z.2.1.getD ((z.2.1.length:Int)-(1:Int)).toNat aad) g) ((0:Int),z.1,z.2.1.take<|z.2.1.length-1)) λy=>
  aag (.inl (y.1,y.2,z.2.2.1+(1:Int),outs))
 else
  aag (.inr z.2.2)
def Yv(start:Option σ):Option (Int×LL):=
 acO start λs=>
 acO (ky s) λk=>
 acO (hsh k) λv=>
 gd (aai<|0<=v/\v<((acP 4096 ([]:List BA)).length:Int)) <|
 aA (Yu hsh fnd ky can af ub pre dn oc put m) ((acP 4096 ([]:List BA)).set v.toNat<|[]++[k],[s],(0:Int),([]:LL))
end
section
variable{σ γ:Type}{hsh:BA->Option Int}{fnd:Tb->BA->Option Bool}{ky:σ->Option BA}{can:σ->γ->Int->Option Bool}{af:σ->γ->Int->Option σ}{ub:γ->Int}{pre:σ->Option γ}{dn:σ->Option Bool}{oc:σ->Option (LI)}{put:LL->LI->Option (LL)}{m:Nat}{M:Mac σ}{s0:σ}{N:Nat}
def mvS(cb:Nat->Bool)(n:Nat):LI:=((acN n).filter cb).map Int.ofNat
theorem M5(cb:Nat->Bool)(n:Nat):mvS cb (n+1)=if cb n=aae then mvS cb n++[(n:Int)] else mvS cb n:=by
 unfold mvS;rw[adt,adu,adD]
 by_cases h:cb n=aae
 .rw[if_pos h];simp[h]
 rw[if_neg h];simp[h]
theorem TM(cb:Nat->Bool){n k:Nat}(h:n<=k):∃r,mvS cb k=mvS cb n++r:=by
 induction k with
 |zero=>
  obtain rfl:n=0:=by omega
  exact⟨[],by simp⟩
 |succ k ih=>
  by_cases e:n=k+1
  .subst e;exact⟨[],by simp⟩
  obtain⟨r,hr⟩:=ih (by omega);rw[M5,hr]
  split
  .exact⟨r++[(k:Int)],by simp⟩
  exact⟨r,rfl⟩
structure TbOk(hf:ByteArray->Nat)(M:Mac σ)(t:Tb)(V:List σ):Prop where
 len:t.length=4096
 mem:∀k,k∈t.getD (hf k) []↔∃v∈V,M.ky v=k
 sz:∀i,(t.getD i []).length<=V.length
structure Sok(hsh:ByteArray->Option Int)(fnd:Tb->ByteArray->Option Bool)(hf:ByteArray->Nat):Prop where
 hsh:∀k,k.size<=1000000->hsh k=aag (hf k:Int)
 lt:∀k,k.size<=1000000->hf k<4096
 fnd:∀t k,k.size<=1000000->t.length=4096->(∀i,(t.getD i []).length<=1099511627776)->Z1 (fnd t k) λb=>(b=aae↔k∈t.getD (hf k) [])
theorem TbOk.start(hf:BA->Nat)(hlt:hf (M.ky s0)<4096):TbOk hf M ((acP 4096 ([]:List BA)).set (hf<|M.ky s0)<|[]++[M.ky s0]) [s0] where
 len:=by simp
 mem:=λk=>by
  by_cases e:hf (M.ky s0)=hf k
  .rw[e] at hlt ⊢;rw[gdq,adh (by simpa using hlt)];simp[eq_comm]
  rw[gdq,adg e,ac9,show(if hf k<4096 then aag ([]:List BA) else aah).getD []=[] by split <;> rfl];refine⟨nofun,λ⟨v,hv,hk⟩=>?_⟩;rw[acQ.1 hv] at hk;exact absurd (congrArg hf hk) e
 sz:=λi=>by
  by_cases e:hf (M.ky s0)=i
  .subst e;rw[gdq,adh (by simpa using hlt)];simp
  rw[gdq,adg e,ac9]
  split <;> simp
theorem TbOk.add{hf:BA->Nat}{t:Tb}{V:List σ}(h:TbOk hf M t V)(s:σ)(hlt:hf (M.ky s)<4096):TbOk hf M (t.set (hf<|M.ky s)<|t.getD (hf<|M.ky s) []++[M.ky s]) (V++[s]) where
 len:=by rw[ac4];exact h.len
 mem:=λk=>by
  have h1:=h.mem k
  by_cases e:hf (M.ky s)=hf k
  .rw[e] at hlt ⊢;rw[gdq,adh (by rw[h.len];exact hlt),Option.getD_some,acZ,h1,acQ]
   constructor
   .rintro (⟨v,hv,hk⟩|hk)
    .exact⟨v,adR _ hv,hk⟩
    exact⟨s,by simp,hk.symm⟩
   rintro⟨v,hv,hk⟩;rcases acZ.1 hv with hv|hv
   .exact .inl ⟨v,hv,hk⟩
   rw[acQ.1 hv] at hk;exact .inr hk.symm
  rw[gdq,adg e,<- gdq,h1]
  constructor
  .rintro⟨v,hv,hk⟩;exact⟨v,adR _ hv,hk⟩
  rintro⟨v,hv,hk⟩;rcases acZ.1 hv with hv|hv
  .exact⟨v,hv,hk⟩
  rw[acQ.1 hv] at hk;exact absurd (congrArg hf hk) e
 sz:=λi=>by
  by_cases e:hf (M.ky s)=i
  .subst e;rw[gdq,adh (by rw[h.len];exact hlt)];have:=h.sz<|hf<|M.ky s;simp only[Option.getD_some,lla,acR];omega
  rw[gdq,adg e,<- gdq];have:=h.sz i;simp only[lla,acR];omega
structure Mst(ky:σ->Option ByteArray)(can:σ->γ->Int->Option Bool)(af:σ->γ->Int->Option σ)(ub:γ->Int)(pre:σ->Option γ)(dn:σ->Option Bool)(oc:σ->Option (List Int))(M:Mac σ)(s0:σ)(n:σ->Nat)(cb:σ->Nat->Bool):Prop where
 pre:∀s,Rea M s0 s->Z1 (pre s) λg=>ub g=(n s:Int)/\(∀i:Nat,i<n s->Z1 (can s g (i:Int)) (· =cb s i))/\∀i:Nat,i<n s->cb s i=aae->Z1 (af s g (i:Int)) (· =M.af s (i:Int))
 mv:∀s,Rea M s0 s->M.mv s=mvS (cb s) (n s)
 n:∀s,Rea M s0 s->n s<=1048576
 ky:∀s,Rea M s0 s->Z1 (ky s) (· =M.ky s)/\(M.ky s).size<=1000000
 dn:∀s,Rea M s0 s->Z1 (dn s) (· =M.dn s)
 oc:∀s,Rea M s0 s->M.dn s=aae->Z1 (oc s) (· =M.oc s)
variable{n:σ->Nat}{cb:σ->Nat->Bool}{hf:BA->Nat}
theorem Zx{n m:Nat}(hn:n<=1100000000)(hm:Nat.ble m 128=aae):aR n m=aae:=by
 have h1:=nlb hm;have h2:n*m<=1100000000*128:=Nat.mul_le_mul hn h1;exact decide_eq_true ⟨by omega,by omega⟩
structure Lvs(M:Mac σ)(s0:σ)(k:σ->Nat):Prop where
 st:∀s m,Rea M s0 s->m∈M.mv s->k s+1<=k (M.af s m)
 le:∀s,Rea M s0 s->k s<=1000
theorem VS{k:σ->Nat}(Lk:Lvs M s0 k)(hp:∀s,Rea M s0 s->M.dn s=aae\/∃m,m∈M.mv s):∃o,Xi M s0 o:=by
 suffices h:∀(n:Nat)s,Rea M s0 s->1000-k s<=n->∃o,Xi M s0 o from h _ s0 .base (ac2 _)
 intro n
 induction n with
 |zero=>
  intro s hs hn;rcases hp s hs with h|⟨m,hm⟩
  .exact⟨_,s,hs,h,rfl⟩
  have h1:=Lk.st s m hs hm;have h2:=Lk.le _<|hs.step hm;omega
 |succ n ih=>
  intro s hs hn;rcases hp s hs with h|⟨m,hm⟩
  .exact⟨_,s,hs,h,rfl⟩
  have h1:=Lk.st s m hs hm;exact ih _ (hs.step hm) (by omega)
def QP(k:σ->Nat)(stk:List σ):Prop:=∀i v,stk[i]?=aag v->i<=1048576*k v
theorem TN{k:σ->Nat}(K:Mok M s0 N)(Lk:Lvs M s0 k)(R:Mst ky can af ub pre dn oc M s0 n cb)(S:Sok hsh fnd hf)(hN:N<1099511627776)(hm:Nat.ble m 128=aae){V stk:List σ}{s:σ}{outs:LL}{t:Tb}{g:γ}(h:Srch M s0 V stk outs<|aag (s,0))(hT:TbOk hf M t V)(hk0:QP k stk)(hks:stk.length<=1048576*k s)
  (hu:ub g=(n s:Int)) (hc:∀i:Nat,i<n s->Z1 (can s g (i:Int)) (· =cb s i)) (ha:∀i:Nat,i<n s->cb s i=aae->Z1 (af s g (i:Int)) (· =M.af s (i:Int))) :
  Z1 (aA (Xw hsh fnd ky can af ub m s g) ((0:Int),t,stk)) λz=>∃V',TbOk hf M z.1 V'/\Srch M s0 V' z.2 outs aah/\V.length<=V'.length/\z.2.length+V.length=V'.length+stk.length/\QP k z.2:=by
 have hs:=h.rea s (h.cur_ s 0 rfl).1;have hmv:=R.mv s hs;have hn:=R.n s hs;refine Z1.loop (λz=>∃V',(0<=z.1/\z.1<=(n s:Int))/\TbOk hf M z.2.1 V'/\Srch M s0 V' z.2.2 outs (aag (s,(mvS (cb s) z.1.toNat).length))/\V.length<=V'.length/\z.2.2.length+V.length=V'.length+stk.length/\QP k z.2.2/\z.2.2.length<=stk.length+z.1.toNat) (λz=>((n s:Int)-z.1).toNat) ⟨V,⟨Int.le_refl _,by simp⟩,hT,h,ac2 _,by simp only[];omega,hk0,ac2 _⟩ λz ⟨V',h1,h2,h3,h4,h5,h6,h7⟩=>?_;obtain⟨i,t,stk'⟩:=z;simp only at h1 h2 h3 h4 h5 h6 h7;obtain⟨i,rfl⟩:=Int.eq_ofNat_of_zero_le h1.1;rw[show((i:Int)).toNat=i from rfl] at h3 h7;have hks1:=Lk.le s hs;unfold Xw;simp only[hu];refine .bifD (λhlt=>?_) λhge=>.pure ⟨V',h2,h3.fin (by rw[hmv,show i=n s by omega];exact ac2 _),h4,h5,h6⟩;have hi:i<n s:=by omega
 have e1:((i:Int)+1).toNat=i+1:=by omega
 have hsu:=M5 (cb s) i;refine(hc i hi).bind λc e=>?_;refine .bif (λhcb=>?_) λhcb=>?_
 .rw[hcb] at e;rw[if_pos e.symm] at hsu;obtain⟨r,hr⟩:=TM (cb s) (n:=i+1) (k:=n s) (by omega);have hm':(M.mv s)[(mvS (cb s) i).length]?=aag (i:Int):=by
   rw[hmv,hr,hsu];simp
  have hmm:=List.mem_of_getElem? hm';have hrea:Rea M s0 (M.af s i):=.step hs hmm;refine(ha i hi e.symm).bind λw hw=>?_;subst hw;have hksz:=(R.ky _ hrea).2;refine(R.ky _ hrea).1.bind λkk hk=>?_;subst hk;have hV':=K.cnt V' h3.nd h3.rea;refine(S.fnd t (M.ky<|M.af s i) hksz h2.len λj=>by have:=h2.sz j;omega).bind λf hf'=>?_;refine .bif (λhb=>?_) λhb=>?_
  .have hnm : ¬ ∃v∈V',M.ky v=M.ky (M.af s i):=λhx=>by
    rw[hf'.2 ((h2.mem _).2 hx)] at hb
    cases hb
   have hnV:M.af s i∉V':=λhx=>hnm ⟨_,hx,rfl⟩;have hN2:=h3.new hm' hnV;have hV2:=K.cnt _ hN2.nd hN2.rea;have hT2:=h2.add (M.af s i)<|S.lt _ hksz;rw[S.hsh _ hksz,adI];have h4096:=S.lt (M.ky<|M.af s i) hksz;have hl2:=hN2.len;have hsz:=h2.sz<|hf<|M.ky<|M.af s i;rw[lla,acR] at hV2;simp only[lla,acR] at hl2;refine .gdD ⟨by omega,by rw[h2.len];omega⟩ (.gd (Yt (by rw[show((hf (M.ky<|M.af s i):Nat):Int).toNat=hf (M.ky<|M.af s i) from rfl];omega) rfl)<|.gd (Zx (by omega) hm)<|.gdI (by omega)<|.pure ⟨⟨V'++[M.af s i],⟨by simp only[];omega,by simp only[];omega⟩,hT2,?_,?_,?_,λj v hv=>?_,?_⟩,by simp only[];omega⟩)
   .simp only[e1];rw[hsu,lla,acR];exact hN2
   .rw[lla];omega
   .simp only[lla,acR];omega
   .simp only[] at hv;rcases adk j stk'.length with hj|hj
    .rw[gal hj] at hv;exact h6 j v hv
    rw[gar hj] at hv;have hj0:=(ges hv).1;rw[acR] at hj0;rw[show j-stk'.length=0 by omega] at hv;obtain rfl:=osl hv;have:=Lk.st s _ hs hmm;omega
   simp only[lla,acR];omega
  have hV2:M.af s i∈V':=by
   have : f=aae:=by
    cases f with
    |true=>rfl
    |false=>cases hb
   obtain⟨v,hv,hk⟩:=(h2.mem _).1<|hf'.1 this;rw[<- K.key v _ (h3.rea v hv) hrea hk];exact hv
  refine .gdI (by omega)<|.pure ⟨⟨V',⟨by simp only[];omega,by simp only[];omega⟩,h2,?_,h4,h5,h6,by simp only[];omega⟩,by simp only[];omega⟩;simp only[e1];rw[hsu,lla,acR];exact h3.old hm' hV2
 rw[hcb] at e;rw[if_neg (by rw[<- e];decide)] at hsu;refine .gdI (by omega)<|.pure ⟨⟨V',⟨by simp only[];omega,by simp only[];omega⟩,h2,?_,h4,h5,h6,by simp only[];omega⟩,by simp only[];omega⟩;simp only[e1];rw[hsu];exact h3
variable[Inhabited σ]
theorem TP{lt:LI->LI->Prop}{k:σ->Nat}(K:Mok M s0 N)(Lk:Lvs M s0 k)(R:Mst ky can af ub pre dn oc M s0 n cb)(S:Sok hsh fnd hf)(hN:N<1099511627776)(hm:Nat.ble m 128=aae){L:LI->Prop}(hL:∀s,Rea M s0 s->M.dn s=aae->L (M.oc s))
  (hp:∀l o,l.Pairwise lt->(∀x∈l,L x)->L o->l.length<=N->Z1 (put l o) λq=>q.Pairwise lt/\(∀x,x∈q↔x∈l\/x=o)/\q.length<=l.length+1) {start:Option σ} (h0:start=aag s0) :
  Z1 (Yv hsh fnd ky can af ub pre dn oc put m start) λq=>q.2.Pairwise lt/\(∀o,o∈q.2↔Xi M s0 o)/\q.2.length<=N:=by
 unfold Yv;rw[h0,adI];have hksz:=(R.ky s0 .base).2;refine(R.ky s0 .base).1.bind λkk hk=>?_;subst hk;rw[S.hsh _ hksz,adI];have h4096:=S.lt (M.ky s0) hksz;refine .gdD ⟨by omega,by simp;omega⟩ ?_;refine Z1.loop (λz=>∃V outs,TbOk hf M z.1 V/\Srch M s0 V z.2.1 outs aah/\(z.2.2.1+z.2.1.length=(V.length:Int)/\0<=z.2.2.1)/\z.2.2.2.Pairwise lt/\(∀o,o∈z.2.2.2↔o∈outs)/\z.2.2.2.length<=outs.length/\V.length<=N/\QP k z.2.1)
  (λz=>2*(N-(z.2.2.1+z.2.1.length).toNat)+z.2.1.length) ⟨[s0],[],TbOk.start hf h4096,.start,⟨by simp,by simp⟩,.nil,λ_=>.rfl,ac2 _,K.cnt [s0] (by simp) (λv hv=>by rw[acQ.1 hv];exact .base),λi v hv=>by have:=(ges hv).1;simp only[acR] at this;omega⟩ λz ⟨V,outs,h1,h2,h3,h4,h5,h6,h7,h8⟩=>?_
 obtain⟨t,stk,st,os⟩:=z;simp only at h1 h2 h3 h4 h5 h6 h8;unfold Yu;simp only[];refine .bifD (λhlt=>?_) λhge=>?_
 .obtain⟨stk',s,rfl⟩:∃stk' s,stk=stk'++[s]:=⟨_,_,(List.dropLast_concat_getLast<|by rintro rfl;simp at hlt).symm⟩;have hcur:(stk'++[s]).getD ((((stk'++[s]).length:Int)-1).toNat) aad=s:=by
   rw[lla,acR,show(((stk'.length+1:Nat):Int)-1).toNat=stk'.length by omega,gdq,gar (ac2 _)];simp
  have hcut:(stk'++[s]).take ((stk'++[s]).length-1)=stk':=by simp
  have hsV:=h2.sub s (by simp);have hre:=h2.rea s hsV;have hl:=h2.len;rw[lla,acR] at hl;have h3':=h3.1;rw[lla,acR] at h3';rw[hcur,hcut];refine .gdI (by simp;omega) (.gdD ⟨by simp,by omega⟩<|.gdI (by omega) ?_);refine(R.dn s hre).bind λd hd=>?_;refine Z1.bind (P:=λq=>q.Pairwise lt/\(∀o,o∈q↔o∈(if M.dn s then outs++[M.oc s] else outs))/\q.length<=(if M.dn s then outs++[M.oc s] else outs).length) ?_ λos' ⟨k1,k2,k3⟩=>?_
  .refine .bif (λhb=>?_) λhb=>.pure ?_
   .rw[hb] at hd;refine(R.oc s hre hd.symm).bind λo ho=>?_;subst ho;rw[if_pos hd.symm];refine(hp os (M.oc s) h4 (λx hx=>?_) (hL s hre hd.symm)<|by omega).mono λq ⟨q1,q2,q3⟩=>⟨q1,λx=>?_,by rw[lla,acR];omega⟩
    .obtain⟨v,v1,v2,v3⟩:=h2.out x<|(h5 x).1 hx;rw[<- v3];exact hL v (h2.rea v v1) v2
    rw[q2,h5,acZ,acQ]
   rw[hb] at hd;rw[if_neg (by rw[<- hd];decide)];exact⟨h4,h5,h6⟩
  have hP:=h2.pop (GQ:=if M.dn s then outs++[M.oc s] else outs) rfl;refine(R.pre s hre).bind λg ⟨g1,g2,g3⟩=>?_;have hS1:QP k stk':=λi v hv=>h8 i v (by rw[gal (ges hv).1];exact hv);have hS2:stk'.length<=1048576*k s:=h8 _ s (by simp);refine(TN K Lk R S hN hm hP h1 hS1 hS2 g1 g2 g3).bind λy ⟨V',y1,y2,y3,y4,y5⟩=>.pure ?_;have hV':=K.cnt V' y2.nd y2.rea;refine⟨⟨V',_,y1,y2,⟨by simp only[];omega,by simp only[];omega⟩,k1,k2,k3,hV',y5⟩,?_⟩;simp only[lla,acR];omega
 have : stk=[]:=List.eq_nil_of_length_eq_zero (by omega);subst this;have:=h2.len;exact .pure ⟨h4,λo=>by rw[h5];exact h2.ends.1 o,by simp only[];omega⟩
end
def prs:LI->List (Int×Int)
 |a::b::r=>(a,b)::prs r
 |_=>[]
theorem Ly:∀{l k:LI},l.length % 2=0->prs (l++k)=prs l++prs k
 |[],_,_=>rfl
 |[_],_,h=>by simp at h
 |a::b::r,k,h=>by
  show(a,b)::prs (r++k)=(a,b)::prs r++prs k;rw[Ly (by simp only[llc] at h;omega)]
  rfl
theorem QQ:∀{l:LI},l.length % 2=0->l.length=2*(prs l).length
 |[],_=>rfl
 |[_],h=>by simp at h
 |a::b::r,h=>by
  have:=QQ (l:=r) (by simp only[llc] at h;omega);simp only[prs,llc];omega
theorem QR:∀{l k:LI},l.length % 2=0->k.length % 2=0->prs l=prs k->l=k
 |[],[],_,_,_=>rfl
 |[_],_,h,_,_=>by simp at h
 |_,[_],_,h,_=>by simp at h
 |[],_::_::_,_,_,h=>by cases h
 |_::_::_,[],_,_,h=>by cases h
 |a::b::r,c::d::q,h,k,e=>by
  injection e with e1 e2;injection e1 with e3 e4;rw[e3,e4,QR (by simp only[llc] at h;omega) (by simp only[llc] at k;omega) e2]
theorem QS:∀{l:LI},l.length % 2=0->∀v∈l,∃e∈prs l,v=e.1\/v=e.2
 |[],_,v,hv=>by cases hv
 |[_],h,_,_=>by simp at h
 |a::b::r,h,v,hv=>by
  rcases acU.1 hv with rfl|hv
  .exact⟨_,acS,.inl rfl⟩
  rcases acU.1 hv with rfl|hv
  .exact⟨_,acS,.inr rfl⟩
  obtain⟨e,h1,h2⟩:=QS (l:=r) (by simp only[llc] at h;omega) v hv;exact⟨e,ac8 _ h1,h2⟩
theorem gsD{α:Type}[Inhabited α](l:List α)(i j:Nat)(v:α):(l.set i v).getD j aad=if i=j/\i<l.length then v else l.getD j aad:=by
 rw[gdq]
 by_cases e:i=j
 .subst e
  by_cases h:i<l.length
  .rw[adh h,if_pos ⟨rfl,h⟩];rfl
  rw[if_neg λk=>h k.2,gen (by rw[ac4];omega),gdq,gen (by omega)]
 rw[adg e,if_neg λk=>e k.1,gdq]
def Z5(sp:Bool)(n:Nat):Nat:=bif sp then 3*n else n
def pcZ(a:LI):Nat->Nat:=λt=>(a.getD t aad).toNat
def rgZ(n:Nat)(r:LI):Nat->Int->Int:=λt g=>if t<n/\0<=g/\g<=2 then r.getD (3*t+g.toNat) aad else 0
def mmZ(m:LI):Int->Int:=λl=>if 0<=l/\l<=2 then m.getD l.toNat aad else 0
def bfZ(n:Nat)(sp:Bool)(w:LL):Nat->Int->List (Int×Int):=λt c=>if t<n/\Lx sp c then prs (w.getD (ixB sp t c) aad) else []
def AZ(p:List<|List ZW)(sp:Bool)(s:ZZ):TS:=⟨pcZ s.at_,rgZ p.length s.regs,mmZ s.mem,bfZ p.length sp s.buf⟩
theorem M6(n:Nat)(sp:Bool)(w:LL)(t:Nat)(c:Int):bfZ n sp w t c=if t<n/\Lx sp c then prs (w.getD (ixB sp t c) aad) else []:=rfl
theorem Xx(n:Nat)(r:LI)(t:Nat)(g:Int):rgZ n r t g=if t<n/\0<=g/\g<=2 then r.getD (3*t+g.toNat) aad else 0:=rfl
theorem VU{a:LI}{t:Nat}(ht:t<a.length)(v:Int):pcZ (a.set t v)=ud (pcZ a) t v.toNat:=by
 funext i
 simp only[pcZ,J2,gsD]
 by_cases e:i=t
 .subst e;rw[if_pos ⟨rfl,ht⟩,if_pos rfl]
 rw[if_neg λk=>e k.1.symm,if_neg e]
theorem VV{n:Nat}{r:LI}{t:Nat}(ht:t<n){g:Int}(hg:0<=g/\g<=2)(hr:r.length=3*n)(v:Int):rgZ n (r.set (3*t+g.toNat) v)=ud (rgZ n r) t (ud (rgZ n r t) g v):=by
 funext i j
 rw[Xx,gsD];simp only[J2]
 by_cases e:i=t
 .subst e;rw[if_pos rfl];simp only[J2,rgZ]
  by_cases k:j=g
  .subst k;rw[if_pos ⟨ht,hg⟩,if_pos ⟨rfl,by omega⟩,if_pos rfl]
  rw[if_neg k]
  by_cases h:0<=j/\j<=2
  .rw[if_pos ⟨ht,h⟩,if_neg (by omega),if_pos ⟨ht,h⟩]
  rw[if_neg λq=>h q.2,if_neg λq=>h q.2]
 rw[if_neg e];simp only[rgZ]
 by_cases h:i<n/\0<=j/\j<=2
 .rw[if_pos h,if_pos h,if_neg (by omega)]
 rw[if_neg h,if_neg h]
theorem QT{m:LI}(hm:m.length=3){l:Int}(hl:0<=l/\l<=2)(v:Int):mmZ (m.set l.toNat v)=ud (mmZ m) l v:=by
 funext i
 simp only[mmZ,J2,gsD]
 by_cases e:i=l
 .subst e;rw[if_pos hl,if_pos ⟨rfl,by omega⟩,if_pos rfl]
 rw[if_neg e]
 by_cases h:0<=i/\i<=2
 .rw[if_pos h,if_pos h,if_neg (by omega)]
 rw[if_neg h,if_neg h]
theorem QU{n:Nat}{sp:Bool}{w:LL}{t:Nat}{c:Int}(ht:t<n)(hc:Lx sp c)(hw:w.length=Z5 sp n)(v:LI):bfZ n sp (w.set (ixB sp t c) v)=ud (bfZ n sp w) t (ud (bfZ n sp w t) c<|prs v):=by
 have hlt:ixB sp t c<w.length:=by rw[hw];exact M3 hc ht
 funext i j
 rw[M6,gsD];simp only[J2]
 by_cases e:i=t
 .subst e;rw[if_pos rfl];simp only[J2,bfZ]
  by_cases g:j=c
  .subst g;rw[if_pos ⟨ht,hc⟩,if_pos ⟨rfl,hlt⟩,if_pos rfl]
  rw[if_neg g]
  by_cases h:Lx sp j
  .rw[if_pos ⟨ht,h⟩,if_neg λk=>g (QN hc h k.1).2.symm,if_pos ⟨ht,h⟩]
  rw[if_neg λk=>h k.2,if_neg λk=>h k.2]
 rw[if_neg e];simp only[bfZ]
 by_cases h:i<n/\Lx sp j
 .rw[if_pos h,if_pos h,if_neg λk=>e (QN hc h.2 k.1).1.symm]
 rw[if_neg h,if_neg h]
theorem flat3:∀(n:Nat)(r:LI)(f:Nat->Nat->Int),r.length=3*n->(∀t g:Nat,t<n->g<3->f t g=r.getD (3*t+g) aad)->((acN n).flatMap λt=>(acN 3).map λg:Nat=>f t g)=r
 |0,[],_,_,_=>rfl
 |0,_::_,_,h,_=>by simp at h
 |n+1,a::b::c::r,f,h,hf=>by
  rw[List.range_succ_eq_map (n:=n),adx,List.flatMap_map];have ih:=flat3 n r (λt g=>f (t+1) g) (by simp only[llc] at h;omega) λt g ht hg=>by
   rw[hf (t+1) g (by omega) hg,show 3*(t+1)+g=3*t+g+3 by omega]
   rfl
  rw[show(acN n).flatMap (λt=>(acN 3).map λg:Nat=>f t.succ g)=r from ih];show [f 0 0,f 0 1,f 0 2]++r=_;rw[hf 0 0 (by omega) (by omega),hf 0 1 (by omega) (by omega),hf 0 2 (by omega) (by omega)]
  rfl
 |n+1,[],_,h,_=>by simp only[ac3] at h;omega
 |n+1,[_],_,h,_=>by simp only[llc,ac3] at h;omega
 |n+1,[_,_],_,h,_=>by simp only[llc,ac3] at h;omega
def Be(p:List<|List ZW)(s:ZZ)(t:Nat):ZW:=(p.getD t aad).getD (s.at_.getD t aad).toNat aad
def emZ(sp:Bool)(s:ZZ)(t:Nat):Bool:=(acN<|Z5 sp 1).all λi=>(s.buf.getD (t*Z5 sp 1+i) aad).isEmpty
def cnZ(p:List<|List ZW)(sp:Bool)(s:ZZ)(t:Nat):Bool:=aai (s.at_.getD t aad<((p.getD t aad).length:Int))&&((Be p s t).Op != 4&&(Be p s t).Op != 5||emZ sp s t)
def cbZ(p:List<|List ZW)(sp:Bool)(s:ZZ)(i:Nat):Bool:=if i<p.length then cnZ p sp s i else !(s.buf.getD (i-p.length) aad).isEmpty
def plZ(sp:Bool)(t:Nat)(l:Int):Nat:=ixB sp t<|clB sp l
def J4(sp:Bool)(s:ZZ)(t:Nat)(l:Int):Int:=yd l (prs<|s.buf.getD (plZ sp t l) aad)<|s.mem.getD l.toNat aad
def TQ(s:ZZ)(t:Nat)(x:ZW):Int:=if x.Op=3 then s.regs.getD (3*t+x.Reg.toNat) aad else x.Val
def exZ(sp:Bool)(s:ZZ)(t:Nat)(x:ZW):ZZ where
 at_:=s.at_.set t<|s.at_.getD t aad+1
 regs:=if rdX x then s.regs.set (3*t+x.Reg.toNat) (J4 sp s t x.Loc) else s.regs
 mem:=if x.Op=5 then s.mem.set x.Loc.toNat x.Val else s.mem
 buf:=if KP x then s.buf.set (plZ sp t x.Loc) (s.buf.getD (plZ sp t x.Loc) aad++[x.Loc,TQ s t x]) else s.buf
def flZ(s:ZZ)(b:Nat):ZZ:=⟨s.at_,s.regs,s.mem.set ((s.buf.getD b aad).getD 0 aad).toNat<|(s.buf.getD b aad).getD 1 aad,s.buf.set b<|(s.buf.getD b aad).drop 2⟩
def afZ(p:List<|List ZW)(sp:Bool)(s:ZZ)(i:Nat):ZZ:=if i<p.length then exZ sp s i (Be p s i) else flZ s (i-p.length)
def LA(s:ZZ):LI:=s.at_++s.regs++s.mem++s.buf.flatMap λw=>(255:Int)::w
def dnZ(p:List<|List ZW)(s:ZZ):Bool:=s.buf.all List.isEmpty&&(acN p.length).all λt=>!decide (s.at_.getD t aad<((p.getD t aad).length:Int))
def UN(p:List<|List ZW)(sp:Bool):Mac ZZ where
 mv s:=mvS (cbZ p sp s)<|p.length+s.buf.length
 af s m:=afZ p sp s m.toNat
 ky s:=strOfNums<|LA s
 dn s:=dnZ p s
 oc s:=s.regs++s.mem
def nT(p:List<|List ZW)(sp:Bool):ZZ:=⟨acP p.length 0,acP (3*p.length) 0,acP 3 0,acP (Z5 sp p.length) []⟩
theorem CX{cb:Nat->Bool}{n:Nat}{m:Int}:m∈mvS cb n↔∃i:Nat,i<n/\m=(i:Int)/\cb i=aae:=by
 unfold mvS;rw[adb]
 constructor
 .rintro⟨i,hi,rfl⟩;obtain⟨h1,h2⟩:=adz.1 hi;exact⟨i,ac1.1 h1,rfl,h2⟩
 rintro⟨i,h1,rfl,h2⟩;exact⟨i,adz.2 ⟨ac1.2 h1,h2⟩,rfl⟩
structure IZ(p:List (List ZW))(sp:Bool)(s:ZZ):Prop where
 al:s.at_.length=p.length
 a0:∀t:Nat,0<=s.at_.getD t aad
 rl:s.regs.length=3*p.length
 ml:s.mem.length=3
 bl:s.buf.length=Z5 sp p.length
 ev:∀b:Nat,(s.buf.getD b aad).length % 2=0
section
variable{p:List (List ZW)}{sp:Bool}{s:ZZ}
theorem IZ.bf(_:IZ p sp s){t:Nat}{c:Int}(ht:t<p.length)(hc:Lx sp c):(AZ p sp s).bf t c=prs (s.buf.getD (ixB sp t c) aad):=if_pos ⟨ht,hc⟩
theorem BK(h:IZ p sp s){t:Nat}:(s.at_.getD t aad<((p.getD t aad).length:Int)->(prg p t)[pcZ s.at_ t]?=aag (Be p s t))/\∀x,(prg p t)[pcZ s.at_ t]?=aag x->s.at_.getD t aad<((p.getD t aad).length:Int)/\x=Be p s t:=by
 have h0:=h.a0 t;unfold Be prg pcZ;refine⟨λg=>?_,λx g=>?_⟩
 .have : (s.at_.getD t aad).toNat<(p.getD t aad).length:=by omega
  rw[gdq (l:=p.getD t aad),geq this]
  rfl
 obtain⟨h1,h2⟩:=ges g;refine⟨by omega,?_⟩;rw[gdq (l:=p.getD t aad),g]
 rfl
theorem ql{l:LI}(h:l.length % 2=0):l.isEmpty=aae↔prs l=[]:=by
 match l,h with
 |[],_=>simp[prs]
 |[_],h=>simp at h
 |a::b::r,_=>simp[prs]
theorem IZ.empty(h:IZ p sp s){t:Nat}(ht:t<p.length):emZ sp s t=aae↔∀c,(AZ p sp s).bf t c=[]:=by
 unfold emZ;simp only[adc,ac1]
 constructor
 .intro g c;show bfZ _ _ _ t c=[];rw[M6]
  split
  .rename_i hc;refine(ql<|h.ev _).1 ?_;rcases hc.2 with⟨rfl,h1⟩|⟨rfl,rfl⟩
   .have:=g c.toNat (by show c.toNat<3*1;omega);rw[show ixB aae t c=t*Z5 aae 1+c.toNat by show 3*t+c.toNat=t*(3*1)+c.toNat;omega];exact this
   have:=g 0 (by show 0<1;omega);rw[show ixB aaf t 0=t*Z5 aaf 1+0 by show t=t*1+0;omega];exact this
  rfl
 intro g i hi
 cases sp with
 |true=>
  have hi':i<3:=hi;have:=g (i:Int);rw[h.bf ht (.inl ⟨rfl,by omega,by omega⟩)] at this;have:=(ql<|h.ev _).2 this;rw[show ixB aae t (i:Int)=t*Z5 aae 1+i by show 3*t+((i:Int)).toNat=t*(3*1)+i;omega] at this;exact this
 |false=>
  have hi':i<1:=hi;obtain rfl:i=0:=by omega
  have:=g 0;rw[h.bf ht (.inr ⟨rfl,rfl⟩)] at this;have:=(ql<|h.ev _).2 this;rw[show ixB aaf t 0=t*Z5 aaf 1+0 by show t=t*1+0;omega] at this;exact this
theorem IZ.start(p:List<|List ZW)(sp:Bool):IZ p sp (nT p sp) where
 al:=by simp[nT]
 a0:=λt=>by
  simp only[nT,gdq,ac9]
  split <;> decide
 rl:=by simp[nT]
 ml:=by simp[nT]
 bl:=by simp[nT]
 ev:=λb=>by
  simp only[nT,gdq,ac9]
  split <;> rfl
theorem TR(p:List<|List ZW)(sp:Bool):AZ p sp (nT p sp)=a0T:=by
 refine TS.ext ?_ ?_ ?_ ?_
 .funext t
  simp only[AZ,nT,pcZ,a0T,gdq,ac9]
  split <;> rfl
 .funext t g
  simp only[AZ,nT,rgZ,a0T,gdq,ac9]
  split
  .split <;> rfl
  rfl
 .funext l
  simp only[AZ,nT,mmZ,a0T,gdq,ac9]
  split
  .split <;> rfl
  rfl
 funext t c
 simp only[AZ,nT,bfZ,a0T,gdq,ac9]
 split
 .split <;> rfl
 rfl
theorem UO(h:IZ p sp s){t:Nat}(ht:t<p.length){l:Int}(hl:0<=l/\l<=2):plZ sp t l<s.buf.length:=by
 rw[h.bl];exact M3 (J3 sp hl) ht
theorem IZ.ex(h:IZ p sp s){t:Nat}(ht:t<p.length){x:ZW}(hx:InR x):IZ p sp (exZ sp s t x) where
 al:=by simp only[exZ,ac4];exact h.al
 a0:=λi=>by
  simp only[exZ,gsD];have:=h.a0 i;have:=h.a0 t
  split <;> omega
 rl:=by
  simp only[exZ]
  split
  .rw[ac4];exact h.rl
  exact h.rl
 ml:=by
  simp only[exZ]
  split
  .rw[ac4];exact h.ml
  exact h.ml
 bl:=by
  simp only[exZ]
  split
  .rw[ac4];exact h.bl
  exact h.bl
 ev:=λb=>by
  simp only[exZ]
  split
  .rw[gsD]
   split
   .have:=h.ev<|plZ sp t x.Loc;simp only[lla,llc,ac3];omega
   exact h.ev b
  exact h.ev b
theorem Xy(h:IZ p sp s){t:Nat}(ht:t<p.length){x:ZW}(hx:InR x)(ho:1<=x.Op/\x.Op<=5):AZ p sp (exZ sp s t x)=exT aaf (clB sp) (AZ p sp s) t x:=by
 have hloc:0<=x.Loc/\x.Loc<=2:=⟨hx.1,hx.2.1⟩;have hreg:0<=x.Reg/\x.Reg<=2:=⟨hx.2.2.1,hx.2.2.2.1⟩;have hv:TQ s t x=SX (AZ p sp s) t x:=by
  unfold TQ SX
  split
  .exact(if_pos ⟨ht,hreg⟩).symm
  rfl
 have hs:J4 sp s t x.Loc=Ei (clB sp) (AZ p sp s) t x.Loc:=by
  unfold J4 Ei;rw[h.bf ht (J3 sp hloc),show(AZ p sp s).mm x.Loc=s.mem.getD x.Loc.toNat aad from if_pos hloc]
  rfl
 refine TS.ext ?_ ?_ ?_ ?_
 .have:=h.a0 t;simp only[AZ,exZ,exT];rw[VU (by rw[h.al];exact ht)]
  congr 1
  simp only[pcZ];omega
 .rw[Xq,<- hs];simp only[AZ,exZ]
  split
  .rw[VV ht hreg h.rl]
  rfl
 .rw[Xr,<- hv];simp only[AZ,exZ,Bool.false_or]
  by_cases h5:x.Op=5
  .rw[if_pos h5,if_pos (by unfold wrX;rw[h5];rfl),QT h.ml hloc,show TQ s t x=x.Val from if_neg (by omega)]
  rw[if_neg h5,if_neg (by
   have : (x.Op==5)=aaf:=by simpa using h5
   rw[this,Bool.and_false];decide)]
 rw[Xt,<- hv];simp only[AZ,exZ,adG,Bool.and_true]
 split
 .rw[show plZ sp t x.Loc=ixB sp t (clB sp x.Loc) from rfl,QU ht (J3 sp hloc) h.bl,Ly (h.ev _)];show _=ud (bfZ p.length sp s.buf) t (ud (bfZ p.length sp s.buf t) (clB sp x.Loc)<|bfZ p.length sp s.buf t (clB sp x.Loc)++[(x.Loc,TQ s t x)]);rw[M6,if_pos ⟨ht,J3 sp hloc⟩]
  rfl
 rfl
theorem Fu(h:IZ p sp s){b:Nat}(hb:(s.buf.getD b aad).isEmpty=aaf):∃l v r,s.buf.getD b aad=l::v::r:=by
 have:=h.ev b
 match e:s.buf.getD b aad with
 |[]=>rw[e] at hb;cases hb
 |[_]=>rw[e] at this;simp at this
 |l::v::r=>exact⟨l,v,r,rfl⟩
theorem IZ.fl(h:IZ p sp s)(b:Nat):IZ p sp (flZ s b) where
 al:=h.al
 a0:=h.a0
 rl:=h.rl
 ml:=by simp only[flZ,ac4];exact h.ml
 bl:=by simp only[flZ,ac4];exact h.bl
 ev:=λi=>by
  simp only[flZ,gsD];have h1:=h.ev i;have h2:=h.ev b
  split
  .rw[ac7];omega
  exact h1
theorem Xz(h:IZ p sp s){t:Nat}{c:Int}(ht:t<p.length)(hc:Lx sp c){l v:Int}{r:LI}(hr:s.buf.getD (ixB sp t c) aad=l::v::r)(hl:0<=l/\l<=2):AZ p sp (flZ s<|ixB sp t c)=flT (AZ p sp s) t c (l,v) (prs r):=by
 unfold flZ;rw[hr];refine TS.ext rfl rfl ?_ ?_
 .exact QT h.ml hl v
 exact QU ht hc h.bl r
theorem vI(hp:PW p)(sp:Bool):Bis (UN p sp) (nT p sp) (StT (prg p) aaf<|clB sp) a0T (DnT<|prg p) (outT p.length) (IZ p sp) (AZ p sp) where
 i0:=.start p sp
 h0:=TR p sp
 fw:=λs m h hr hm=>by
  obtain⟨i,hi,rfl,hc⟩:=CX.1 hm;show IZ p sp (afZ p sp s i)/\StT _ _ _ _ (AZ p sp<|afZ p sp s i);unfold cbZ at hc;unfold afZ
  by_cases g:i<p.length
  .rw[if_pos g] at hc ⊢;unfold cnZ at hc;simp only[bae,dte,adw,bne_iff_ne] at hc;have hx:=(BK h).1 hc.1;have hR:=hp.pv.prg _ _ _ hx;refine⟨h.ex g hR,?_⟩;rw[Xy h g hR (hp.op _ _ _ hx)];refine .ex ⟨hx,λho=>?_⟩;rcases hc.2 with k|k
   .omega
   exact(h.empty g).1 k
  rw[if_neg g] at hc ⊢;refine⟨h.fl _,?_⟩;rw[h.bl] at hi;obtain⟨t,c,ht,hc',e⟩:=M4 (sp:=sp) (n:=p.length) (b:=i-p.length) (by show _<Z5 sp p.length;omega);obtain⟨l,v,r,hrow⟩:=Fu h (b:=i-p.length) (by simpa using hc);rw[<- e] at hrow ⊢;have hbf:=h.bf ht hc';rw[hrow] at hbf;have hin:=(InT.of hp.pv.prg hr).vl t;have hl:=(hin.2 c (l,v)<|by show(l,v)∈(AZ p sp s).bf t c;rw[hbf];exact acS).1;rw[Xz h ht hc' hrow hl];exact .fl hbf
 bw:=λs a h hr hs=>by
  cases hs with
  |@ex t x hc=>
   have ht:=QO hc.1;obtain⟨h3,rfl⟩:=(BK h).2 x hc.1;refine⟨(t:Int),CX.2 ⟨t,by omega,rfl,?_⟩,?_⟩
   .unfold cbZ cnZ;rw[if_pos ht];simp only[bae,dte,adw,bne_iff_ne];refine⟨h3,?_⟩
    by_cases ho:(Be p s t).Op=4\/(Be p s t).Op=5
    .exact .inr<|(h.empty ht).2<|hc.2 ho
    exact .inl ⟨λe=>ho<|.inl e,λe=>ho<|.inr e⟩
   show AZ p sp (afZ p sp s t)=_;unfold afZ;rw[if_pos ht];exact Xy h ht (hp.pv.prg _ _ _ hc.1)<|hp.op _ _ _ hc.1
  |@fl t c e r hb=>
   have hc:t<p.length/\Lx sp c:=by
    refine Decidable.byContradiction λk=>?_;have : (AZ p sp s).bf t c=[]:=if_neg k;rw[this] at hb;cases hb
   have hlt:ixB sp t c<s.buf.length:=by rw[h.bl];exact M3 hc.2 hc.1
   have hbf:=h.bf hc.1 hc.2;rw[hb] at hbf;have hne:(s.buf.getD (ixB sp t c) aad).isEmpty=aaf:=by
    refine Bool.eq_false_iff.2 λk=>?_;rw[(ql<|h.ev _).1 k] at hbf;cases hbf
   obtain⟨l,v,q,hrow⟩:=Fu h hne;rw[hrow] at hbf;injection hbf with e1 e2;subst e1 e2;have hl:=(((InT.of hp.pv.prg hr).vl t).2 c (l,v)<|by show(l,v)∈(AZ p sp s).bf t c;rw[hb];exact acS).1;refine⟨((p.length+ixB sp t c:Nat):Int),CX.2 ⟨_,by omega,rfl,?_⟩,?_⟩
   .unfold cbZ;rw[if_neg (by omega),show p.length+ixB sp t c-p.length=ixB sp t c by omega,hne]
    rfl
   show AZ p sp (afZ p sp s<|p.length+ixB sp t c)=_;unfold afZ;rw[if_neg (by omega),show p.length+ixB sp t c-p.length=ixB sp t c by omega];exact Xz h hc.1 hc.2 hrow hl
 dn:=λs h hr=>by
  show dnZ p s=aae↔_;unfold dnZ;simp only[bae,adc,ac1,adJ,decide_eq_false_iff_not]
  constructor
  .rintro⟨h1,h2⟩;refine⟨λt=>?_,λt c=>?_⟩
   .rcases adk t p.length with ht|ht
    .have:=h2 t ht;show(p.getD t aad).length<=(s.at_.getD t aad).toNat;omega
    unfold prg;rw[gdq,gen ht];exact ac5 _
   show bfZ _ _ _ t c=[];rw[M6]
   split
   .rename_i hc;have hlt:ixB sp t c<s.buf.length:=by rw[h.bl];exact M3 hc.2 hc.1
    refine(ql<|h.ev _).1<|h1 _ ?_;rw[gdq,geq hlt];exact adp hlt
   rfl
  rintro⟨h1,h2⟩;refine⟨λw hw=>?_,λt ht hlt=>?_⟩
  .obtain⟨b,hb,rfl⟩:=adl hw;have hb':=hb;rw[h.bl] at hb';obtain⟨t,c,ht,hc,e⟩:=M4 (sp:=sp) (n:=p.length) (b:=b) hb';have:=h2 t c;rw[h.bf ht hc,e] at this;have:=(ql<|h.ev b).2 this
   rwa [gdq,geq hb] at this
  have:=h1 t;have h3:(p.getD t aad).length<=(s.at_.getD t aad).toNat:=this;have:=h.a0 t;omega
 oc:=λs h hr _=>by
  show s.regs++s.mem=outT p.length (AZ p sp s);unfold outT
  congr 1
  .refine(flat3 p.length s.regs _ h.rl λt g ht hg=>?_).symm;exact if_pos ⟨ht,by omega,by omega⟩
  have hml:=h.ml;refine adm (by simp[hml]) λi hi hi'=>?_;have : i<3:=by omega
  simp only[adK,List.getElem_range];show _=mmZ s.mem (i:Int);unfold mmZ;rw[if_pos ⟨by omega,by omega⟩,gdq,show((i:Int)).toNat=i from rfl,geq hi]
  rfl
end
section
variable{p:List (List ZW)}{sp:Bool}{s:ZZ}
theorem CY{α:Type}[Inhabited α]{l:List α}{v:α}(h:v∈l):∃i,i<l.length/\l.getD i aad=v:=by
 obtain⟨i,hi,rfl⟩:=adl h;exact⟨i,hi,by rw[gdq,geq hi];rfl⟩
theorem IZ.at7(hp:PV p)(h:IZ p sp s){cl:Int->Int}(hi:InT (prg p) cl<|AZ p sp s)(t:Nat):s.at_.getD t aad<=((p.getD t aad).length:Int)/\s.at_.getD t aad<=7:=by
 have h1:=hi.pc t;have h2:=hp.vs.2 t;have h0:=h.a0 t;have h3:(s.at_.getD t aad).toNat<=(p.getD t aad).length:=h1;omega
theorem IZ.r3(h:IZ p sp s){cl:Int->Int}(hi:InT (prg p) cl<|AZ p sp s):∀v∈s.regs,0<=v/\v<=3:=λv hv=>by
 obtain⟨i,h1,rfl⟩:=CY hv;rw[h.rl] at h1;have:=(hi.vl<|i / 3).1 ((i % 3:Nat):Int);have e:(AZ p sp s).rg (i / 3) ((i % 3:Nat):Int)=s.regs.getD (3*(i / 3)+((i % 3:Nat):Int).toNat) aad:=if_pos ⟨by omega,by omega,by omega⟩;have e2:3*(i / 3)+((i % 3:Nat):Int).toNat=i:=by omega
 rw[show((AZ p sp s).rg<|i / 3,(AZ p sp s).bf<|i / 3).1=(AZ p sp s).rg (i / 3) from rfl,e,e2] at this;exact this
theorem IZ.m3(h:IZ p sp s){cl:Int->Int}(hi:InT (prg p) cl<|AZ p sp s):∀v∈s.mem,0<=v/\v<=3:=λv hv=>by
 obtain⟨i,h1,rfl⟩:=CY hv;rw[h.ml] at h1;have:=hi.mm (i:Int);have e:(AZ p sp s).mm (i:Int)=s.mem.getD (i:Int).toNat aad:=if_pos ⟨by omega,by omega⟩;rw[e] at this;exact this
theorem IZ.b3(hp:PV p)(h:IZ p sp s){cl:Int->Int}(hi:InT (prg p) cl<|AZ p sp s)(b:Nat):(∀v∈s.buf.getD b aad,0<=v/\v<=3)/\(∀e∈prs (s.buf.getD b aad),0<=e.1/\e.1<=2)/\(s.buf.getD b aad).length<=14:=by
 rcases adk b s.buf.length with hb|hb
 .rw[h.bl] at hb;obtain⟨t,c,ht,hc,rfl⟩:=M4 (sp:=sp) (n:=p.length) (b:=b) hb;have hv:=hi.vl t;have hbf:=h.bf ht hc;have hlen:=M0 (hi.ls t) c;rw[show((AZ p sp s).rg t,(AZ p sp s).bf t).2 c=(AZ p sp s).bf t c from rfl,hbf] at hlen;have hl2:=QQ<|h.ev<|ixB sp t c;have h2:=hi.pc t;have h7:(prg p t).length<=7:=hp.vs.2 t;have hev:∀e∈prs (s.buf.getD (ixB sp t c) aad),(0<=e.1/\e.1<=2)/\0<=e.2/\e.2<=3:=λe he=>hv.2 c e (by show e∈(AZ p sp s).bf t c;rw[hbf];exact he);refine⟨λv hm=>?_,λe he=>(hev e he).1,by omega⟩;obtain⟨e,he,rfl|rfl⟩:=QS (h.ev _) v hm
  .have:=hev e he;omega
  have:=hev e he;omega
 have e:s.buf.getD b aad=[]:=by rw[gdq,gen hb];rfl
 rw[e];exact⟨nofun,nofun,by simp⟩
theorem IZ.key255(hp:PV p)(h:IZ p sp s){cl:Int->Int}(hi:InT (prg p) cl<|AZ p sp s):∀v∈LA s,0<=v/\v<=255:=λv hv=>by
 unfold LA at hv;rcases acZ.1 hv with hv|hv
 .rcases acZ.1 hv with hv|hv
  .rcases acZ.1 hv with hv|hv
   .obtain⟨i,_,rfl⟩:=CY hv;have:=h.a0 i;have:=h.at7 hp hi i;omega
   have:=h.r3 hi v hv;omega
  have:=h.m3 hi v hv;omega
 obtain⟨w,hw,hv⟩:=ac0.1 hv;obtain⟨b,_,rfl⟩:=CY hw;rcases acU.1 hv with rfl|hv
 .decide
 have:=(h.b3 hp hi b).1 v hv;omega
theorem J5:∀{a b r q:LI},(∀v∈a,v<=3)->(∀v∈b,v<=3)->(∀v,r.head?=aag v->v=255)->(∀v,q.head?=aag v->v=255)->a++r=b++q->a=b/\r=q
 |[],[],_,_,_,_,_,_,h=>⟨rfl,h⟩
 |[],c::b,r,q,_,hb,hr,_,h=>by
  have h1:=hr c (by rw[show r=c::(b++q) from h];rfl);have h2:=hb c acS;omega
 |c::a,[],r,q,ha,_,_,hq,h=>by
  have h1:=hq c (by rw[<- show c::(a++r)=q from h];rfl);have h2:=ha c acS;omega
 |c::a,d::b,r,q,ha,hb,hr,hq,h=>by
  injection h with h1 h2;obtain⟨h3,h4⟩:=J5 (λv hv=>ha v<|ac8 _ hv) (λv hv=>hb v<|ac8 _ hv) hr hq h2;exact⟨by rw[h1,h3],h4⟩
theorem M7:∀{v w:LL},v.length=w.length->(∀r∈v,∀x∈r,x<=3)->(∀r∈w,∀x∈r,x<=3)->(v.flatMap λw=>(255:Int)::w)=(w.flatMap λw=>(255:Int)::w)->v=w
 |[],[],_,_,_,_=>rfl
 |[],_::_,h,_,_,_=>by cases h
 |_::_,[],h,_,_,_=>by cases h
 |a::v,b::w,h,hv,hw,e=>by
  rw[adx,adx] at e;injection e with _ e;have hd:∀v:LL,∀x,(v.flatMap λw=>(255:Int)::w).head?=aag x->x=255:=λv x hx=>by
   cases v with
   |nil=>cases hx
   |cons r v=>exact(osl hx).symm
  obtain⟨h1,h2⟩:=J5 (hv a acS) (hw b acS) (hd v) (hd w) e;rw[h1,M7 (by simpa using h) (λr hr=>hv r<|ac8 _ hr) (λr hr=>hw r<|ac8 _ hr) h2]
theorem TT(hp:PV p){t:ZZ}(h:IZ p sp s)(k:IZ p sp t){cl:Int->Int}(hi:InT (prg p) cl<|AZ p sp s)(ki:InT (prg p) cl<|AZ p sp t)(e:LA s=LA t):s=t:=by
 unfold LA at e;have hl:(s.at_++s.regs++s.mem).length=(t.at_++t.regs++t.mem).length:=by
  simp only[lla,h.al,h.rl,h.ml,k.al,k.rl,k.ml]
 obtain⟨e1,e2⟩:=adL e hl;obtain⟨e3,e4⟩:=adL e1 (by simp only[lla,h.al,h.rl,k.al,k.rl]);obtain⟨e5,e6⟩:=adL e3 (by rw[h.al,k.al]);have e7:=M7 (h.bl.trans k.bl.symm) (λr hr x hx=>by
  obtain⟨b,_,rfl⟩:=CY hr;exact((h.b3 hp hi b).1 x hx).2) (λr hr x hx=>by
  obtain⟨b,_,rfl⟩:=CY hr;exact((k.b3 hp ki b).1 x hx).2) e2
 cases s;cases t
 simp only at e4 e5 e6 e7;subst e4 e5 e6 e7
 rfl
theorem IX{a b:LI}(h:a.length=b.length)(k:∀i,i<a.length->a.getD i aad=b.getD i aad):a=b:=by
 refine adm h λi h1 h2=>?_;have:=k i h1;rw[gdq,gdq,geq h1,geq h2] at this;exact this
theorem XA{t:ZZ}(h:IZ p sp s)(k:IZ p sp t)(e:AZ p sp s=AZ p sp t):s=t:=by
 have e1:s.at_=t.at_:=IX (h.al.trans k.al.symm) λi hi=>by
  have:=congrFun (congrArg TS.pc e) i;have h0:=h.a0 i;have k0:=k.a0 i;have : (s.at_.getD i aad).toNat=(t.at_.getD i aad).toNat:=this;omega
 have e2:s.regs=t.regs:=IX (h.rl.trans k.rl.symm) λi hi=>by
  rw[h.rl] at hi;have:=congrFun (congrFun (congrArg TS.rg e)<|i / 3) ((i % 3:Nat):Int);have q1:(AZ p sp s).rg (i / 3) ((i % 3:Nat):Int)=s.regs.getD (3*(i / 3)+((i % 3:Nat):Int).toNat) aad:=if_pos ⟨by omega,by omega,by omega⟩;have q2:(AZ p sp t).rg (i / 3) ((i % 3:Nat):Int)=t.regs.getD (3*(i / 3)+((i % 3:Nat):Int).toNat) aad:=if_pos ⟨by omega,by omega,by omega⟩;have q3:3*(i / 3)+((i % 3:Nat):Int).toNat=i:=by omega
  rw[q1,q2,q3] at this;exact this
 have e3:s.mem=t.mem:=IX (h.ml.trans k.ml.symm) λi hi=>by
  rw[h.ml] at hi;have:=congrFun (congrArg TS.mm e) (i:Int);have q1:(AZ p sp s).mm (i:Int)=s.mem.getD (i:Int).toNat aad:=if_pos ⟨by omega,by omega⟩;have q2:(AZ p sp t).mm (i:Int)=t.mem.getD (i:Int).toNat aad:=if_pos ⟨by omega,by omega⟩;rw[q1,q2] at this;exact this
 have e4:s.buf=t.buf:=by
  refine adm (h.bl.trans k.bl.symm) λb h1 h2=>?_;have hb:=h1;rw[h.bl] at hb;obtain⟨u,c,hu,hc,e5⟩:=M4 (sp:=sp) (n:=p.length) (b:=b) hb;have:=congrFun (congrFun (congrArg TS.bf e) u) c;rw[h.bf hu hc,k.bf hu hc,e5] at this;have:=QR (h.ev b) (k.ev b) this;rw[gdq,gdq,geq h1,geq h2] at this;exact this
 cases s;cases t
 simp only at e1 e2 e3 e4;subst e1 e2 e3 e4
 rfl
theorem TU(hp:PW p)(sp:Bool):Mok (UN p sp) (nT p sp) 549755813888:=
 (vI hp sp).mok (λs t hs ht rs rt h=>TT hp.pv hs ht (InT.of hp.pv.prg rs) (InT.of hp.pv.prg rt)<|IP (hs.key255 hp.pv<|InT.of hp.pv.prg rs) (ht.key255 hp.pv<|InT.of hp.pv.prg rt) h) (λs t hs ht h=>XA hs ht h) hp.cnl
theorem Fv{α:Type}[Inhabited α](f:α->Nat):∀(l:List α)(i:Nat)(v:α),i<l.length->((l.set i v).map f).sum+f (l.getD i aad)=(l.map f).sum+f v
 |[],i,v,h=>absurd h (adM i)
 |a::l,0,v,_=>by
  show f v+(l.map f).sum+f a=f a+(l.map f).sum+f v;omega
 |a::l,i+1,v,h=>by
  have ih:=Fv f l i v<|Nat.lt_of_succ_lt_succ h;show f a+((l.set i v).map f).sum+f (l.getD i aad)=f a+(l.map f).sum+f v;omega
theorem LB{α:Type}(f:α->Nat)(c:Nat):∀l:List α,(∀x∈l,f x<=c)->(l.map f).sum<=l.length*c
 |[],_=>by simp
 |a::l,h=>by
  have h1:=h a acS;have h2:=LB f c l λx hx=>h x<|ac8 _ hx;simp only[List.map_cons,List.sum_cons,llc,Nat.add_mul];omega
def kZ(s:ZZ):Nat:=3*(s.at_.map Int.toNat).sum+200-(s.buf.map List.length).sum
theorem IZ.sums(hp:PV p)(h:IZ p sp s){cl:Int->Int}(hi:InT (prg p) cl<|AZ p sp s):(s.at_.map Int.toNat).sum<=21/\(s.buf.map List.length).sum<=126:=by
 have hl:=hp.vs.1;have h1:=LB Int.toNat 7 s.at_ λx hx=>by
  obtain⟨i,_,rfl⟩:=CY hx;have:=h.at7 hp hi i;omega
 have h2:=LB List.length 14 s.buf λx hx=>by
  obtain⟨i,_,rfl⟩:=CY hx;exact(h.b3 hp hi i).2.2
 have h3:Z5 sp p.length<=9:=by unfold Z5;cases sp <;> simp only[cond_true,cond_false] <;> omega
 rw[h.al] at h1;rw[h.bl] at h2;have h4:Z5 sp p.length*14<=9*14:=adi _ h3;omega
theorem M8(hp:PW p)(sp:Bool):Lvs (UN p sp) (nT p sp) kZ where
 st:=λs m hs hm=>by
  have B:=vI hp sp;obtain⟨h,hr⟩:=B.rea hs;obtain⟨h',hr'⟩:=B.rea<|hs.step hm;have hi:=InT.of hp.pv.prg hr;have s1:=h.sums hp.pv hi;have s2:=h'.sums hp.pv<|InT.of hp.pv.prg hr';obtain⟨i,hlt,rfl,hc⟩:=CX.1 hm;have s2':((afZ p sp s i).at_.map Int.toNat).sum<=21/\((afZ p sp s i).buf.map List.length).sum<=126:=s2;show kZ s+1<=kZ (afZ p sp s i)
  revert s2'
  clear s2 hr' h' hm;unfold afZ kZ;unfold cbZ at hc
  by_cases g:i<p.length
  .rw[if_pos g];rw[if_pos g] at hc;have hc1:s.at_.getD i aad<((p.getD i aad).length:Int):=by
    unfold cnZ at hc;simp only[bae,dte] at hc;exact hc.1
   have hR:=hp.pv.prg _ _ _<|(BK h).1 hc1;have h0:=h.a0 i;have e1:=Fv Int.toNat s.at_ i (s.at_.getD i aad+1) (by rw[h.al];exact g);simp only[exZ];intro s2
   split
   .rename_i hst;rw[if_pos hst] at s2;have e2:=Fv List.length s.buf (plZ sp i (Be p s i).Loc) (s.buf.getD (plZ sp i (Be p s i).Loc) aad++[(Be p s i).Loc,TQ s i (Be p s i)])<|UO h g ⟨hR.1,hR.2.1⟩;simp only[lla,llc,ac3] at e2;omega
   omega
  rw[if_neg g];rw[if_neg g] at hc;have hb:i-p.length<s.buf.length:=by
   have : i<p.length+s.buf.length:=hlt;omega
  obtain⟨l,v,r,hrow⟩:=Fu h (b:=i-p.length) (by simpa using hc);have e2:=Fv List.length s.buf (i-p.length) ((s.buf.getD (i-p.length) aad).drop 2) hb;simp only[flZ];intro s2;rw[hrow] at e2 s2 ⊢;simp only[llc,List.drop_succ_cons,List.drop_zero] at e2 s2 ⊢;omega
 le:=λs hs=>by
  have B:=vI hp sp;obtain⟨h,hr⟩:=B.rea hs;have:=h.sums hp.pv<|InT.of hp.pv.prg hr;unfold kZ;omega
theorem VW(hp:PW p)(sp:Bool)(s:ZZ)(hs:Rea (UN p sp) (nT p sp) s):(UN p sp).dn s=aae\/∃m,m∈(UN p sp).mv s:=by
 obtain⟨h,hr⟩:=(vI hp sp).rea hs
 by_cases hb:s.buf.all List.isEmpty=aae
 .by_cases ht:((acN p.length).all λt=>!decide (s.at_.getD t aad<((p.getD t aad).length:Int)))=aae
  .left
   show dnZ p s=aae;unfold dnZ;rw[hb,ht];rfl
  right
  obtain⟨t,h1,h2⟩:∃t,t<p.length/\s.at_.getD t aad<((p.getD t aad).length:Int):=by
   refine Decidable.byContradiction λk=>ht<|adc.2 λt h1=>?_;rw[ac1] at h1;simp only[adJ,decide_eq_false_iff_not];exact λh2=>k ⟨t,h1,h2⟩
  refine⟨(t:Int),CX.2 ⟨t,by omega,rfl,?_⟩⟩;unfold cbZ cnZ;rw[if_pos h1];simp only[bae,dte,adw];refine⟨h2,.inr ?_⟩;unfold emZ;refine adc.2 λi hi=>?_;rcases adk (t*Z5 sp 1+i) s.buf.length with g|g
  .exact adc.1 hb _ (by rw[gdq,geq g];exact adp g)
  rw[gdq,gen g];rfl
 right
 obtain⟨b,h1,h2⟩:∃b,b<s.buf.length/\(s.buf.getD b aad).isEmpty=aaf:=by
  refine Decidable.byContradiction λk=>hb<|adc.2 λw hw=>?_;obtain⟨b,hb,rfl⟩:=CY hw;refine Decidable.byContradiction λe=>k ⟨b,hb,by simpa using e⟩
 refine⟨((p.length+b:Nat):Int),CX.2 ⟨p.length+b,by omega,rfl,?_⟩⟩;unfold cbZ;rw[if_neg (by omega),show p.length+b-p.length=b by omega,h2]
 rfl
end
theorem zQ{α:Type}[Inhabited α]{l:List α}{k:Nat}(h:k<l.length):l.take (k+1)=l.take k++[l.getD k aad]:=by
 simp_all
theorem M9{α:Type}[Inhabited α]{l:List α}{i:Nat}(h:i<l.length):l.getD i aad∈l:=by
 rw[gdq,geq h];exact adp _
theorem QV{a b:LI}(k:Nat)(ha:k<a.length)(hb:k<b.length):cmpL (a.drop k) (b.drop k)=if a.getD k aad<b.getD k aad then -1 else if b.getD k aad<a.getD k aad then 1 else cmpL (a.drop<|k+1) (b.drop<|k+1):=by
 have e1:a.getD k aad=a[k]:=by rw[gdq,geq ha];rfl
 have e2:b.getD k aad=b[k]:=by rw[gdq,geq hb];rfl
 rw[adq ha,adq hb,cmpL,e1,e2]
theorem IY{a b:LI}(h:a.length=b.length)(hl:a.length<=1000000):Z1 (jp a b) (· =cmpL a b):=by
 unfold jp;refine Z1.sum (PS:=λ_=>cmpL a b=0) (PW:=(· =cmpL a b)) ?_ λ_ h0=>.pure h0.symm;refine Z1.loop (λz=>∃k:Nat,k<=a.length/\z=(k:Int)/\cmpL a b=cmpL (a.drop k) (b.drop k)) (λz=>((a.length:Int)-z).toNat) ⟨0,by omega,rfl,rfl⟩ λz ⟨k,h1,h2,h3⟩=>?_;subst h2;unfold xS J;simp only[tnn];refine Z1.bind (P:=(· =aai (k<a.length))) (.bifD (λhk=>.pure ?_) λhk=>.pure ?_) λc hc=>?_
 .rw[decide_eq_true (show k<a.length by omega)];exact decide_eq_true (by omega)
 .rw[decide_eq_false (show ¬ k<a.length by omega)]
 subst hc;refine .bifD (λhk=>?_) λhk=>.pure ?_
 .rw[QV k hk (by omega)] at h3;refine .gdD ⟨by omega,by omega⟩<|.gdD ⟨by omega,by omega⟩<|.bifD (λhlt=>.pure ?_) λhge=>.bifD (λhlt=>.pure ?_) λhge2=>.gdI (by omega)<|.pure ⟨⟨k+1,by omega,rfl,?_⟩,by omega⟩
  .rw[if_pos hlt] at h3;exact h3.symm
  .rw[if_neg hge,if_pos hlt] at h3;exact h3.symm
  rw[if_neg hge,if_neg hge2] at h3;exact h3
 rw[h3,ads (by omega),ads (by omega)]
 rfl
theorem VX{l:LL}{o:LI}(hs:l.Pairwise ltL)(hn:l.length<=1099511627000)(hr:∀r∈l,r.length=o.length)(ho:o.length<=1000):Z1 (jg l o) λq=>q.Pairwise ltL/\(∀r,r∈q↔r∈l\/r=o)/\q.length<=l.length+1:=by
 have hrD:∀i,i<l.length->(l.getD i aad).length=o.length:=λi hi=>hr _<|M9 hi;unfold jg J;refine Z1.bind (P:=λz:Int=>∃k:Nat,k<=l.length/\z=(k:Int)/\(∀r∈l.take k,ltL r o)/\(k<l.length -> ¬ ltL (l.getD k aad) o)) ?_ λz ⟨k,h1,h2,h3,h4⟩=>?_
 .refine Z1.loop (λz=>∃k:Nat,k<=l.length/\z=(k:Int)/\∀r∈l.take k,ltL r o) (λz=>((l.length:Int)-z).toNat) ⟨0,by omega,rfl,by simp⟩ λz ⟨k,h1,h2,h3⟩=>?_;subst h2;unfold za J;simp only[tnn];refine Z1.bind (P:=λc:Bool=>c=aae↔k<l.length/\ltL (l.getD k aad) o) (.bifD (λhk=>.gdD ⟨by omega,hk⟩<|(IY (hrD k<|by omega)<|by rw[hrD k (by omega)];omega).bind λv hv=>.pure ?_) λhk=>.pure ⟨λe=>(by cases e),λe=>absurd e.1<|by omega⟩) λc hc=>?_
  .subst hv;rw[dte];exact⟨λe=>⟨by omega,e⟩,λe=>e.2⟩
  refine .bif (λh=>?_) λh=>.pure ⟨k,h1,rfl,h3,λhk hlt=>?_⟩
  .obtain⟨g1,g2⟩:=hc.1 h;refine .gdI (by omega)<|.pure ⟨⟨k+1,by omega,rfl,λr hr'=>?_⟩,by omega⟩;rw[zQ g1,acZ,acQ] at hr';rcases hr' with hr'|rfl
   .exact h3 r hr'
   exact g2
  rw[hc.2 ⟨hk,hlt⟩] at h
  cases h
 subst h2;simp only[tnn];refine Z1.bind (P:=λc:Bool=>c=aae↔k<l.length/\l.getD k aad=o) (.bifD (λhk=>.gdD ⟨by omega,hk⟩<|(IY (hrD k<|by omega)<|by rw[hrD k (by omega)];omega).bind λv hv=>.pure ?_) λhk=>.pure ⟨λe=>(by cases e),λe=>absurd e.1<|by omega⟩) λc hc=>?_
 .subst hv;rw[beq_iff_eq];exact⟨λe=>⟨by omega,cmpL_eq e⟩,λe=>by rw[e.2,uo]⟩
 refine .bif (λh=>.pure ?_) λh=>?_
 .obtain⟨g1,g2⟩:=hc.1 h;refine⟨hs,λr=>⟨.inl,λh=>?_⟩,by omega⟩;rcases h with h|rfl
  .exact h
  rw[<- g2];exact M9 g1
 have e1:((l.drop (0:Int).toNat).take<|k-(0:Int).toNat)=l.take k:=by simp
 have e2:((l.drop k).take<|l.length-k)=l.drop k:=List.take_of_length_le (by rw[ac7];exact ac2 _);rw[e1,e2];have g1:(l.take k).length<=l.length:=by rw[acY];omega
 have g2:(l.take k).length+(l.drop k).length=l.length:=by rw[acY,ac7];omega
 refine .gdD ⟨by omega,by omega,by omega⟩<|.gd (Yt (by simp only[ac3];omega) rfl)<|.gd (Yt (by simp only[acT];omega) rfl)<|.gdD ⟨by omega,by omega,by omega⟩<|.gd (Yt (by simp only[acT,lla,acR];omega) rfl)<|.pure ?_;rw[acT,ade];have hlt:∀r∈l.drop k,ltL o r:=λr hr'=>by
  have hk:k<l.length:=by
   rcases adk k l.length with h|h
   .exact h
   rw[ads h] at hr';cases hr'
  have hne:l.getD k aad≠o:=λe=>by rw[hc.2 ⟨hk,e⟩] at h;cases h
  have hko:ltL o (l.getD k aad):=by
   rcases xa (l.getD k aad) o with g|g|g
   .exact absurd g<|h4 hk
   .exact absurd g hne
   exact g
  have hdk:l.drop k=l.getD k aad::l.drop (k+1):=by
   rw[gdq,geq hk];exact adq hk
  have hsd:(l.drop k).Pairwise ltL:=hs.sublist<|List.drop_sublist k l;rw[hdk] at hr' hsd;rcases acU.1 hr' with rfl|hr'
  .exact hko
  exact tQ hko<|(adn.1 hsd).1 r hr'
 refine⟨?_,λr=>?_,?_⟩
 .refine List.pairwise_append.2 ⟨hs.sublist<|List.take_sublist k l,adn.2 ⟨hlt,hs.sublist<|List.drop_sublist k l⟩,λa ha b hb=>?_⟩;rcases acU.1 hb with rfl|hb
  .exact h3 a ha
  exact tQ (h3 a ha)<|hlt b hb
 .have : r∈l↔r∈l.take k\/r∈l.drop k:=by rw[<- acZ,adS]
  rw[this];simp only[acZ,acU,List.cons_append,acT]
  constructor
  .rintro (h|rfl|h)
   .exact .inl<|.inl h
   .exact .inr rfl
   exact .inl<|.inr h
  rintro ((h|h)|rfl)
  .exact .inl h
  .exact .inr<|.inr h
  exact .inr<|.inl rfl
 simp only[lla,acR,acY,ac7,llc,ac3];omega
section
variable{p:List (List ZW)}{x:XS}{F F':LI}
def GR(p:List<|List ZW):LI:=(acN (evs p).length).map λ(i:Nat)=>(i:Int)
theorem Cand.congr(C:Cand p x F)(h:∀n,n∈F'↔n∈F):Cand p x F':=
 ⟨λn=>(h n).trans<|C.mem n,C.flen,C.olen,λl hl=>⟨(C.ods l hl).nd,λn=>by rw[(C.ods l hl).mem,h]⟩,C.hd,λi hi hr=>C.rdc i ((h i).1 hi) hr,λi hi hr=>C.ne i ((h i).1 hi) hr,λi hi hr=>C.frN i ((h i).1 hi) hr⟩
theorem QW(l:Int):(Z3 p l).Nodup:=List.Pairwise.filter _ Xn
theorem nO{c:ZX}(hp:PV p)(h:c∈aY p):Cand p (c.From,c.Order) (GR p):=by
 unfold aY at h;simp only[ac0,adb] at h;obtain⟨f,hf,o,ho,rfl⟩:=h;obtain⟨f1,f2⟩:=rq.1 hf;obtain⟨o1,o2⟩:=rq.1 ho;have hfl:=Lr hf;have oget:∀l:Nat,l<3->∃r,o.getD l []=(l:Int)::r/\r.Perm (Z3 p (l:Int)).tail:=λl hl=>by
  obtain⟨y,hy,e⟩:=o2 l hl;have hy':y∈chL p l:=by
   match l,hl with
   |0,_=>exact hy
   |1,_=>exact hy
   |2,_=>exact hy
  unfold chL at hy';obtain⟨r,hr,rfl⟩:=adb.1 hy';exact⟨r,by rw[gdq,e];rfl,(AC rfl).1 hr⟩
 have operm:∀l:Nat,l<3->(o.getD l []).Perm (Z3 p (l:Int)):=λl hl=>by
  obtain⟨r,e,hr⟩:=oget l hl;obtain⟨t,ht⟩:=QE (p:=p) l hl;rw[e];rw[ht] at hr ⊢;exact hr.cons _
 have fget:∀i:Nat,i<(evs p).length->f.getD i aad∈chE p i:=λi hi=>by
  obtain⟨y,hy,e⟩:=f2 i (by simp[chF];exact hi);rw[gdq,e];simpa [chF] using hy
 have odn:∀l:Int,0<=l/\l<=2->(od (f,o) l).Perm (Z3 p l):=λl hl=>by
  have:=operm l.toNat (by omega);rw[adf hl.1] at this;exact this
 have rd:∀i:Int,i∈GR p->(ev p i).Reads=aae->f.getD i.toNat aad∈Z3 p (ev p i).Loc/\f.getD i.toNat aad≠i:=λi hi hr=>by
  obtain⟨i0,i1⟩:=(IV i).1 hi;have:=fget i.toNat (by omega);unfold chE at this;rw[adf i0,if_pos hr,adz] at this;exact⟨this.1,by simpa using this.2⟩
 refine⟨λn=>IV n,hfl,o1,λl hl=>⟨(odn l hl).nodup_iff.2<|QW l,λn=>?_⟩,λl hl=>?_,λi hi hr=>?_,λi hi hr=>(rd i hi hr).2,λi hi hr=>?_⟩
 .rw[(odn l hl).mem_iff];unfold Z3;rw[adz];unfold Wl;rw[bae,dte];exact Iff.rfl
 .obtain⟨r,e,_⟩:=oget l hl;exact⟨r,by unfold od;rw[tnn];exact e⟩
 .obtain⟨i0,i1⟩:=(IV i).1 hi;exact(odn _<|sO hp i0 i1).mem_iff.2 (rd i hi hr).1
 obtain⟨i0,i1⟩:=(IV i).1 hi;have:=fget i.toNat (by omega);unfold chE at this;rw[adf i0,if_neg (by rw[hr];decide)] at this;simpa using this
end
def tab(N:Nat)(g:Nat->Int):LI:=(acN N).map g
section
variable{N:Nat}{g h:Nat->Int}
theorem ze:(tab N g).length=N:=by simp[tab]
theorem LC{i:Nat}(hi:i<N):(tab N g).getD i aad=g i:=by
 unfold tab
 simp_all
theorem iV(e:∀i,i<N->g i=h i):tab N g=tab N h:=List.map_congr_left λi hi=>e i<|ac1.1 hi
theorem I0(i:Nat)(v:Int):(tab N g).set i v=tab N λj=>if j=i then v else g j:=by
 apply adm
 .simp[tab]
 intro j h1 h2;rw[List.getElem_set];simp only[tab,adK,List.getElem_range];omega
theorem Fw:acP N (aad:Int)=tab N λ_=>0:=by
 apply adm
 .simp[tab]
 intro j h1 h2;simp only[tab,adK,List.getElem_replicate]
 rfl
theorem Fx:tab (N+1) g=tab N g++[g N]:=by
 unfold tab;rw[adt,adD]
 rfl
end
theorem lw{f g:Nat->Bool}:∀{n:Nat},(∀k,k<n->f k=g k)->Z2 f n=Z2 g n
 |0,_=>rfl
 |n+1,h=>by
  unfold Z2;rw[h n (by omega),lw λk hk=>h k (by omega)]
theorem QX(f g:Nat->Bool)(n:Nat):Z2 f n&&&Z2 g n=Z2 (λj=>f j&&g j) n:=by
 apply adT;intro j;rw[Nat.testBit_and,rW,rW,rW]
 grind
theorem I1(n:Nat):Z2 (λ_=>aaf) n=0:=by
 induction n with
 |zero=>rfl
 |succ n ih=>unfold Z2;grind
def Z6(N:Nat)(f:Int->Int->Bool):LI:=tab N λi=>((Z2 (λk=>f (i:Int) (k:Int)) N:Nat):Int)
section
variable{N:Nat}{f g:Int->Int->Bool}
theorem bR:(Z6 N f).length=N:=ze
theorem kG{i:Nat}(h:i<N):(Z6 N f).getD i aad=((Z2 (λk=>f (i:Int) (k:Int)) N:Nat):Int):=LC h
theorem mO(h:∀i k:Nat,i<N->k<N->f i k=g i k):Z6 N f=Z6 N g:=iV λi hi=>by rw[lw λk hk=>h i k hi hk]
def P15(n:Int)(is:Int->Int->Option Bool)(s6:(LI)×Int):((LI)×Int)->Option (((LI)×Int) ⊕ (LI)):=λs14=>
 bif aai (s14.2<n) then
  acO (
   acO (is s6.2 s14.2) λv19=>
   bif v19 then
    gd (aai<|0<=s6.2/\s6.2<(s14.1.length:Int)) <|
    gd (aai<|0<=s14.2) <|
    aag (s14.1.set s6.2.toNat<|bOr .i64 (s14.1.getD s6.2.toNat aad)<|ME .i64 (1:Int) s14.2)
   else
    aag s14.1
  ) λs18=>
  gd (ZU .i64<|s14.2+(1:Int)) <|
  aag (.inl (s18,(s14.2+(1:Int))))
 else
  aag (.inr s14.1)
def P7(n:Int)(is:Int->Int->Option Bool):((LI)×Int)->Option (((LI)×Int) ⊕ (LI)):=λs6=>
 bif aai (s6.2<n) then
  acO (
   aA (P15 n is s6) (s6.1,(0:Int))
  ) λs10=>
  gd (ZU .i64<|s6.2+(1:Int)) <|
  aag (.inl (s10,(s6.2+(1:Int))))
 else
  aag (.inr s6.1)
def UQ(n:Int)(is:Int->Int->Option Bool):Option (LI):=
 gd (aai<|0<=n/\n<=n/\n*((8:Nat):Int)<=140737488355328/\n<=140737488355328) <|
 acO (
  aA (P7 n is) ((acP n.toNat (aad:Int)),(0:Int))
 ) λs2=>
 aag s2
def part(N:Nat)(f:Int->Int->Bool)(i k:Nat):LI:=tab N λj=>if j<i then ((Z2 (λk=>f (j:Int) (k:Int)) N:Nat):Int) else if j=i then ((Z2 (λk=>f (j:Int) (k:Int)) k:Nat):Int) else 0
theorem J6(hN:N<=60){is:Int->Int->Option Bool}(hi:∀i k:Nat,i<N->k<N->Z1 (is (i:Int) (k:Int)) (· =f i k)):Z1 (UQ (N:Int) is) (· =Z6 N f):=by
 unfold UQ;refine .gdD ⟨by omega,by omega,by omega,by omega⟩ (Z1.bind (P:=(· =Z6 N f)) ?_ λv hv=>.pure hv);have e0:acP (N:Int).toNat (aad:Int)=part N f 0 0:=by
  rw[tnn,Fw];refine iV λj _=>?_;rw[if_neg (by omega)]
  split <;> simp[Z2]
 rw[e0];refine Z1.loop (λz=>∃i:Nat,i<=N/\z=(part N f i 0,(i:Int))) (λz=>((N:Int)-z.2).toNat) ⟨0,by omega,rfl⟩ λz ⟨i,h1,h2⟩=>?_;subst h2;unfold P7;simp only[];refine .bifD (λhk=>?_) λhk=>.pure ?_
 .refine Z1.bind (P:=(· =part N f (i+1) 0)) ?_ λv hv=>.gdI (by omega)<|.pure ⟨⟨i+1,by omega,by simp_all⟩,by omega⟩;refine Z1.loop (λz=>∃k:Nat,k<=N/\z=(part N f i k,(k:Int))) (λz=>((N:Int)-z.2).toNat) ⟨0,by omega,rfl⟩ λz ⟨k,k1,k2⟩=>?_;subst k2;unfold P15;simp only[tnn];refine .bifD (λhkk=>?_) λhkk=>.pure ?_
  .refine Z1.bind (P:=(· =part N f i (k+1))) ((hi i k (by omega)<|by omega).bind λv hv=>.bif (λhb=>.gdD ⟨by omega,by unfold part;rw[ze];omega⟩<|.gdD (by omega)<|.pure ?_) λhb=>.pure ?_) λv hv=>.gdI (by omega) (.pure ⟨⟨k+1,by omega,by simp_all⟩,by omega⟩)
   .unfold part;rw[LC (by omega),if_neg (by omega),if_pos rfl,IR (by omega),xc (bU<|by omega) (by have:=adN (a:=2) (by omega) (show k<63 by omega);omega),I0];refine iV λj _=>?_
    by_cases e:j=i
    .subst e;rw[if_pos rfl,if_neg (by omega),if_pos rfl];rw[hv] at hb;rw[Z2,if_pos hb]
    omega
   unfold part;refine iV λj _=>?_
   by_cases e:j=i
   .subst e;rw[if_neg (by omega),if_pos rfl,if_neg (by omega),if_pos rfl];rw[hv] at hb;rw[Z2,if_neg (by rw[hb];decide)]
   omega
  have : k=N:=by omega
  subst this;unfold part;refine iV λj _=>?_
  by_cases e:j=i
  .omega
  by_cases e2:j<i
  .omega
  rw[if_neg e2,if_neg e,if_neg (by omega)]
  split <;> simp[Z2]
 have : i=N:=by omega
 subst this;exact iV λj hj=>by omega
theorem XB(i:Nat):(Z2 (λk=>f (i:Int) (k:Int)) N)<2 ^ N:=MU _ _
theorem VY{m n:Nat}(hm:m<2 ^ n)(hn:n<=62):mZ .i64 (m:Int) (n:Int)=0:=by
 show(m:Int).fdiv (2 ^ (min (n:Int).toNat 64))=_;have hq:min (n:Int).toNat 64=n:=by omega
 rw[hq,show(2:Int) ^ n=((2 ^ n:Nat):Int) by simp,Int.fdiv_eq_ediv_of_nonneg _ (Int.natCast_nonneg _)];have : m / 2 ^ n=0:=Nat.div_eq_of_lt hm;omega
theorem tV(hN:N<=16):Z1 (cV<|Z6 N f) (· =aae):=by
 unfold cV bB bJ;refine Z1.bind (P:=(· =aae)) (.bifD (λ_=>?_) λh=>absurd (show((Z6 N f).length:Int)<=16 by rw[bR];omega) h) λv hv=>.pure hv;refine Z1.bind (P:=(· =aaf)) (Z1.bind (P:=(· =-1)) (Z1.sum (PS:=λ_=>True) (PW:=(· =(-1:Int))) ?_ λ_ _=>.pure rfl) λv hv=>.pure<|by simp_all) λv hv=>.pure (by simp_all);refine Z1.loop (λz=>∃i:Nat,i<=N/\z=(i:Int)) (λz=>((N:Int)-z).toNat) ⟨0,by omega,rfl⟩ λz ⟨i,h1,h2⟩=>?_;subst h2;unfold cE p9 J;simp only[bR,tnn];refine .bifD (λhk=>?_) λhk=>.pure trivial;have hg:=kG (f:=f) (show i<N by omega);refine .gdD ⟨by omega,hk⟩ (Z1.bind (P:=(· =aaf)) (Z1.bind (P:=(· =aaf)) (.bifD (λh=>absurd h<|by omega) λ_=>.gdD (by omega)<|.pure<|decide_eq_false<|by rw[hg,VY (XB i) (by omega)];omega) λv hv=>.pure hv) λv hv=>.bif (λh=>by simp_all) λ_=>.gdI (by omega)<|.pure ⟨⟨i+1,by omega,rfl⟩,by omega⟩)
theorem QY(hN:N<=16):Z1 (dU (Z6 N f)<|Z6 N g) (· =aae):=by
 unfold dU;refine Z1.bind (P:=(· =aae)) (.bif (λ_=>(tV hN).bind λv hv=>.pure hv) λh=>?_) λv hv=>?_
 .rw[bR,bR] at h
  grind
 subst hv;exact Z1.bind (P:=(· =aae)) (.bif (λ_=>(tV hN).bind λv hv=>.pure hv) λh=>by cases h) λv hv=>.pure hv
theorem uK(hN:N<=60){i k:Nat}(hi:i<N)(hk:k<N):Z1 (fL (Z6 N f) (i:Int) (k:Int)) (· =f i k):=by
 unfold fL J;simp only[bR,tnn];rw[kG hi,Xm (bU<|by omega) (by omega),rW,decide_eq_true hk,acX];refine .gdD ⟨by omega,by omega⟩<|.gdD (by omega)<|.pure ?_
 grind
theorem I2{a b:Nat}(ha:a<9223372036854775808)(hb:b<9223372036854775808):jc .i64 (a:Int) (b:Int)=((a&&&b:Nat):Int):=by
 have hlt:(a&&&b)<2 ^ 63:=Nat.and_lt_two_pow a hb;show IntKind.wrap .i64 (((acW 64 (a:Int)&&&acW 64 (b:Int)).toNat:Nat):Int)=_;have h1:(acW 64 (a:Int)).toNat=a:=by rw[adA,adB];omega
 have h2:(acW 64 (b:Int)).toNat=b:=by rw[adA,adB];omega
 rw[BitVec.toNat_and,h1,h2];exact zO hlt
theorem J7(f g:Nat->Bool){n:Nat}(hn:n<=62):p5 .i64 ((Z2 f n:Nat):Int) ((Z2 g n:Nat):Int)=((Z2 (λj=>f j && !g j) n:Nat):Int):=by
 have ha:=bU (f:=f) hn;have hb:=bU (f:=g) hn;show IntKind.wrap .i64 (((acW 64 ((Z2 f n:Nat):Int) &&& ~~~ acW 64 ((Z2 g n:Nat):Int)).toNat:Nat):Int)=_;have key:(acW 64 ((Z2 f n:Nat):Int) &&& ~~~ acW 64 ((Z2 g n:Nat):Int)).toNat=Z2 (λj=>f j && !g j) n:=by
  apply adT;intro j;rw[rW];have h1:∀m:Nat,m<9223372036854775808->∀j,(acW 64 ((m:Nat):Int)).getLsbD j=m.testBit j:=λm hm j=>by
   grind
  show(acW 64 ((Z2 f n:Nat):Int) &&& ~~~ acW 64 ((Z2 g n:Nat):Int)).getLsbD j=_;rw[BitVec.getLsbD_and,BitVec.getLsbD_not,h1 _ ha,h1 _ hb,rW,rW]
  by_cases hj:j<n
  .grind
  grind
 rw[key];exact zO<|bU hn
theorem I3(hN:N<=16){by_:Int->Int->Option Int}{q:Int->Int->Bool}(step:((LI)×Int)->Option (((LI)×Int) ⊕ (LI)))
  (hs:∀s8:(LI)×Int,step s8=bif aai (s8.2<((Z6 N f).length:Int)) then
   gd (aai<|0<=s8.2/\s8.2<((Z6 N f).length:Int))<|gd (aai<|0<=s8.2/\s8.2<((Z6 N g).length:Int)) <|
   acO (by_ ((Z6 N f).getD s8.2.toNat aad)<|(Z6 N g).getD s8.2.toNat aad) λv14=>
   gd (aai (0<=s8.2/\s8.2<(s8.1.length:Int)))<|gd (ZU .i64 (s8.2+(1:Int)))<|aag (.inl ((s8.1.set s8.2.toNat v14),(s8.2+(1:Int)))) else aag (.inr s8.1))
  (hb:∀i:Nat,i<N->Z1 (by_ ((Z2 (λk=>f (i:Int) (k:Int)) N:Nat):Int) ((Z2 (λk=>g (i:Int) (k:Int)) N:Nat):Int)) (· =((Z2 (λk=>q (i:Int) (k:Int)) N:Nat):Int))) :
  Z1 (acO (dU (Z6 N f) (Z6 N g)) λv1=>bif !v1 then aag ([]:LI) else
   gd (aai<|0<=((Z6 N f).length:Int)/\((Z6 N f).length:Int)<=((Z6 N f).length:Int)/\((Z6 N f).length:Int)*((8:Nat):Int)<=140737488355328/\((Z6 N f).length:Int)<=140737488355328) <|
   acO (aA step ((acP ((Z6 N f).length:Int).toNat (aad:Int)),(0:Int))) λs4=>aag s4) (· =Z6 N q):=by
 refine(QY hN).bind λv hv=>?_;subst hv;refine .bif (λh=>by cases h) λ_=>?_;refine .gdD ⟨by omega,by omega,by rw[bR];omega,by rw[bR];omega⟩ (Z1.bind (P:=(· =Z6 N q)) ?_ λv hv=>.pure hv);rw[bR,tnn,Fw];refine Z1.loop (λz=>∃i:Nat,i<=N/\z=(tab N (λj=>if j<i then ((Z2 (λk=>q (j:Int) (k:Int)) N:Nat):Int) else 0),(i:Int))) (λz=>((N:Int)-z.2).toNat) ⟨0,by omega,rfl⟩ λz ⟨i,h1,h2⟩=>?_;subst h2;rw[hs];simp only[bR,tnn];refine .bifD (λhk=>?_) λhk=>.pure ?_
 .rw[kG (by omega),kG (by omega)];refine .gdD ⟨by omega,hk⟩<|.gdD ⟨by omega,hk⟩<|(hb i<|by omega).bind λv hv=>.gdD ⟨by omega,by rw[ze];omega⟩<|.gdI (by omega)<|.pure ⟨⟨i+1,by omega,?_⟩,by simp only[];omega⟩;rw[I0,hv]
  grind
 have : i=N:=by omega
 subst this;exact iV λj hj=>by omega
theorem VZ(hN:N<=16):Z1 (oD (Z6 N f)<|Z6 N g) (· =Z6 N λi k=>f i k||g i k):=by
 unfold oD;refine Z1.bind (P:=(· =Z6 N λi k=>f i k||g i k)) (I3 hN (by_:=qf) _ (λ_=>rfl) λi hi=>.pure ?_) λv hv=>.pure hv;rw[xc (bU<|by omega) (bU<|by omega),H5]
theorem XC(hN:N<=16):Z1 (qJ (Z6 N f)<|Z6 N g) (· =Z6 N λi k=>f i k&&g i k):=by
 unfold qJ;refine Z1.bind (P:=(· =Z6 N λi k=>f i k&&g i k)) (I3 hN (by_:=rT) _ (λ_=>rfl) λi hi=>.pure ?_) λv hv=>.pure hv;rw[I2 (bU<|by omega) (bU<|by omega),QX]
theorem V2(hN:N<=16):Z1 (oF (Z6 N f)<|Z6 N g) (· =Z6 N λi k=>f i k && !g i k):=by
 unfold oF;refine Z1.bind (P:=(· =Z6 N λi k=>f i k && !g i k)) (I3 hN (by_:=qg) _ (λ_=>rfl) λi hi=>.pure ?_) λv hv=>.pure hv;rw[J7 _ _ (by omega)]
end
section
variable{p:List (List ZW)}{x:XS}{F F':LI}
theorem QZ(l:Int):(Z3 p l).length<=(evs p).length:=by
 unfold Z3;have:=adQ (Wl p l)<|(acN (evs p).length).map λ(i:Nat)=>(i:Int);simpa using this
theorem Q0(l:Int):(Z3 p l).Pairwise (· <=·):=List.Pairwise.filter _<|List.pairwise_map.2 ((List.pairwise_lt_range).imp λh=>by omega)
structure Chk(p:List (List ZW))(x:XS):Prop where
 f:x.1.length=(evs p).length
 o:x.2.length=3
 r:∀n:Nat,n<(evs p).length->if (ev p (n:Int)).Reads=aae then x.1.getD n aad∈Z3 p (ev p (n:Int)).Loc/\x.1.getD n aad≠n else x.1.getD n aad=-1
 ords:∀l:Nat,l<3->(x.2.getD l aad).Perm (Z3 p (l:Int))/\(x.2.getD l aad).getD 0 aad=l
theorem Q3:∀{l k:LI},l.Perm k->l.Pairwise (· <=·)->k.Pairwise (· <=·)->l=k
 |[],k,h,_,_=>h.nil_eq
 |a::l,[],h,_,_=>absurd h.length_eq (by simp)
 |a::l,b::k,h,h1,h2=>by
  have hab:a=b:=by
   rcases acU.1 (h.subset<|acS) with e|e
   .exact e
   rcases acU.1 (h.symm.subset<|acS) with e2|e2
   .exact e2.symm
   have:=(adn.1 h1).1 b e2;have:=(adn.1 h2).1 a e;omega
  subst hab;rw[Q3 (List.perm_cons a |>.1 h) (adn.1 h1).2 (adn.1 h2).2]
theorem Q4{l w:LI}(hw:w.Pairwise (· <=·)):Tw l=w↔l.Perm w:=
 ⟨λe=>by rw[<- e];exact(um l).symm,λh=>Q3 ((um l).trans h) (Lf l) hw⟩
theorem Ie{l:LI}(h:l.length<=4000000):Z1 (aH l) (· =l):=by
 unfold aH
 cases l with
 |nil=>exact .of (v:=[]) (by show nilK aae (aag ([]:LI)) (aag [])=aag [];unfold nilK;exact if_pos rfl) rfl
 |cons a l=>exact(Z1.gd (aK (by simp at h ⊢;omega) rfl) (.pure<|by simp):Z1 (gd (aR (([]:LI).length+(a::l).length) 8)<|aag (([]:LI)++a::l)) (· =a::l))
theorem UR(hp:PV p)(hv:bh (p.map λr=>r.map cm)=aae)(hsz:p.length<=1048576/\total p<=1048576)(hx:∀r∈x.2,r.length<=1048576):Z1 (jX p ⟨x.1,x.2⟩) λb=>b=aae↔Chk p x:=by
 have hel:=kE hp.vs;have hS:aZ p=aag (bh<|p.map λr=>r.map cm):=gJ<|decide_eq_true hsz;unfold jX;refine(Z1.of (P:=(· =aae)) hS hv).bind λv1 h1=>?_;subst h1;refine .bif (λh=>by cases h) λ_=>(F4 hp.vs).bind λv3 h3=>?_;subst h3;refine Z1.bind (P:=λb:Bool=>b=aaf↔x.1.length=(evs p).length/\x.2.length=3) (.bif (λh=>.pure ⟨λe=>(by cases e),λe=>?_⟩) λh=>.pure ?_) λv4 h4=>.bif (λh=>.pure ⟨λe=>(by cases e),λe=>?_⟩) λh=>?_
 .have h : ¬ (x.1.length:Int)=((evs p).length:Int):=by simpa using h
  omega
 .have h:(x.1.length:Int)=((evs p).length:Int):=by simpa using h
  show((x.2.length:Int) != 3)=aaf↔_;rw[bne_eq_false_iff_eq];exact⟨λe=>⟨by omega,by omega⟩,λe=>by omega⟩
 .have:=h4.2 ⟨e.f,e.o⟩;rw[this] at h
  cases h
 obtain⟨hf,ho⟩:=h4.1 h;refine Z1.sum (PS:=λ_=>∀n:Nat,n<(evs p).length->if (ev p (n:Int)).Reads=aae then x.1.getD n aad∈Z3 p (ev p (n:Int)).Loc/\x.1.getD n aad≠n else x.1.getD n aad=-1) (PW:=λb=>b=aae↔Chk p x) ?_ λ_ hr=>?_
 .refine Z1.loop (λz=>∃n:Nat,n<=(evs p).length/\z=(n:Int)/\∀j:Nat,j<n->if (ev p (j:Int)).Reads=aae then x.1.getD j aad∈Z3 p (ev p (j:Int)).Loc/\x.1.getD j aad≠j else x.1.getD j aad=-1) (λz=>(((evs p).length:Int)-z).toNat) ⟨0,by omega,rfl,λj hj=>absurd hj<|by omega⟩ λz ⟨n,n1,n2,n3⟩=>?_;subst n2;unfold sM J;have en:(evs p).getD n aad=ev p (n:Int):=by unfold ev;rw[tnn]
  simp only[tnn,en];refine .bifD (λhk=>.gdD ⟨by omega,hk⟩<|.gdD ⟨by omega,by omega⟩ ?_) λhk=>.pure λm hm=>n3 m (by omega);have hl:=sO hp (n:=(n:Int)) (by omega) hk;refine Z1.bind (P:=λb:Bool=>b=aaf↔((ev p (n:Int)).Reads=aaf->x.1.getD n aad=-1)) (.bif (λhrd=>.pure ?_) λhrd=>.pure ⟨λ_ e=>(by simp[e] at hrd),λ_=>rfl⟩) λs15 h15=>?_
  .have hrd:(ev p (n:Int)).Reads=aaf:=by simpa using hrd
   show(x.1.getD n aad != -1)=aaf↔_;rw[bne_eq_false_iff_eq];exact⟨λe _=>e,λe=>e hrd⟩
  refine Z1.bind (P:=λb:Bool=>b=aaf↔if (ev p (n:Int)).Reads=aae then x.1.getD n aad∈Z3 p (ev p (n:Int)).Loc/\x.1.getD n aad≠n else x.1.getD n aad=-1) ?_ λs17 h17=>.bif (λh=>.pure ⟨λe=>(by cases e),λe=>?_⟩) λh=>.gdI (by omega)<|.pure ⟨⟨n+1,by omega,rfl,λj hj=>?_⟩,by omega⟩
  .refine .bif (λh=>.pure ⟨λe=>(by cases e),λe=>?_⟩) λh=>?_
   .have h0:s15=aaf:=h15.2 λhrd=>by
     rw[if_neg (by rw[hrd];decide)] at e;exact e
    rw[h0] at h
    cases h
   refine Z1.bind (P:=λb:Bool=>b=aaf↔if (ev p (n:Int)).Reads=aae then x.1.getD n aad∈Z3 p (ev p (n:Int)).Loc/\x.1.getD n aad≠n else x.1.getD n aad=-1) (.bif (λhrd=>?_) λhrd=>.pure ⟨λ_=>by rw[if_neg (by rw[hrd];decide)];exact h15.1 h hrd,λ_=>rfl⟩) λv hv=>.pure hv;refine Z1.bind (P:=λb:Bool=>b=aaf↔x.1.getD n aad∈Z3 p (ev p (n:Int)).Loc/\x.1.getD n aad≠n) (.bif (λhe=>.pure ⟨λe=>(by cases e),λe=>?_⟩) λhe=>(Ft hp _).bind λv23 h23=>(JV _ _ (by rw[h23];have:=QZ (p:=p) (ev p (n:Int)).Loc;omega)).bind λv24 h24=>.pure ?_) λv hv=>.pure (by rw[if_pos hrd];exact hv)
   .have he:x.1.getD n aad=n:=by simpa using he
    exact absurd he e.2
   have he:x.1.getD n aad≠n:=by simpa using he
   subst h23;rw[h24];show(!decide (x.1.getD n aad∈Z3 p (ev p (n:Int)).Loc))=aaf↔_;rw[Bool.not_eq_false',dte];exact⟨λe=>⟨e,he⟩,λe=>e.1⟩
  .have h0:s17=aaf:=h17.2<|e.r n (by omega);rw[h0] at h
   cases h
  by_cases ej:j=n
  .subst ej;exact h17.1 h
  exact n3 j (by omega)
 refine Z1.sum (PS:=λ_=>∀l:Nat,l<3->(x.2.getD l aad).Perm (Z3 p (l:Int))/\(x.2.getD l aad).getD 0 aad=l) (PW:=λb=>b=aae↔Chk p x) ?_ λ_ hod=>.pure ⟨λ_=>⟨hf,ho,hr,hod⟩,λ_=>rfl⟩;refine Z1.loop (λz=>∃n:Nat,n<=3/\z=(n:Int)/\∀l:Nat,l<n->(x.2.getD l aad).Perm (Z3 p (l:Int))/\(x.2.getD l aad).getD 0 aad=l) (λz=>(3-z).toNat) ⟨0,by omega,rfl,λl hl=>absurd hl<|by omega⟩ λz ⟨n,n1,n2,n3⟩=>?_;subst n2;unfold sN J;simp only[tnn];refine .bifD (λhk=>.gdD ⟨by omega,by omega⟩ ?_) λhk=>.pure λl hl=>n3 l (by omega);have hrl:=hx _<|getD_in (show n<x.2.length by omega);refine(Ie (l:=x.2.getD n aad)<|by omega).bind λv34 h34=>?_;subst h34;refine Z1.bind (P:=(· =Tw (x.2.getD n aad))) (.gdD (by omega)<|.pure rfl) λv38 h38=>(Ft hp _).bind λv39 h39=>?_;subst h38 h39;have hsl:(Tw<|x.2.getD n aad).length=(x.2.getD n aad).length:=(um _).length_eq;refine(zN<|by omega).bind λv40 h40=>?_;subst h40;obtain⟨t,ht⟩:=MV (p:=p) (l:=n) (by omega);refine Z1.bind (P:=λb:Bool=>b=aaf↔(x.2.getD n aad).Perm (Z3 p (n:Int))/\(x.2.getD n aad).getD 0 aad=n) (.bif (λh=>.pure ⟨λe=>(by cases e),λe=>?_⟩) λh=>?_) λs41 h41=>.bif (λh=>.pure ⟨λe=>(by cases e),λe=>?_⟩) λh=>.gdI (by omega)<|.pure ⟨⟨n+1,by omega,rfl,λl hl=>?_⟩,by omega⟩
 .rw[decide_eq_true ((Q4<|Q0 _).2 e.1)] at h
  cases h
 .have hp2:(x.2.getD n aad).Perm (Z3 p (n:Int)):=(Q4<|Q0 _).1 (by simpa using h);have hpos:0<(x.2.getD n aad).length:=by rw[hp2.length_eq,ht];simp
  refine .gdD ⟨by omega,by show(0:Int)<((x.2.getD n aad).length:Int);omega⟩ (.pure ?_);show((x.2.getD n aad).getD 0 aad != (n:Int))=aaf↔_;rw[bne_eq_false_iff_eq];exact⟨λe=>⟨hp2,e⟩,λe=>e.2⟩
 .have h0:s41=aaf:=h41.2<|e.ords n (by omega);rw[h0] at h
  cases h
 by_cases el:l=n
 .subst el;exact h41.1 h
 exact n3 l (by omega)
end
section
variable{N:Nat}{f g:Int->Int->Bool}
theorem LD(i:Nat)(h:Int->Int->Bool)(hi:∀j k:Nat,j<N->k<N->h j k=if j=i then g i k else f j k):(Z6 N f).set i ((Z2 (λk=>g (i:Int) (k:Int)) N:Nat):Int)=Z6 N h:=by
 unfold Z6;rw[I0];refine iV λj hj=>?_
 by_cases e:j=i
 .subst e;rw[if_pos rfl];exact congrArg (λn:Nat=>(n:Int))<|lw λk hk=>((hi j k hj hk).trans<|if_pos rfl).symm
 rw[if_neg e];exact congrArg (λn:Nat=>(n:Int))<|lw λk hk=>((hi j k hj hk).trans<|if_neg e).symm
theorem Q5(hN:N<=16):Z1 (lW<|Z6 N f) (· =Z6 N λi k=>f k i):=by
 unfold lW;refine(tV hN).bind λv hv=>?_;subst hv;refine .bif (λh=>by cases h) λ_=>?_;rw[bR];exact Z1.bind (P:=(· =Z6 N λi k=>f k i)) (J6 (by omega) (is:=λi k=>nI i k<|Z6 N f) λi k hi hk=>(uK (by omega) hk hi).bind λv hv=>.pure hv) λv hv=>.pure hv
def G7(f g:Int->Int->Bool)(M:Nat)(i k:Int):Bool:=(acN M).any λm=>f i (m:Int)&&g (m:Int) k
theorem BL(M:Nat)(i k:Int):G7 f g (M+1) i k=(G7 f g M i k||(f i (M:Int)&&g (M:Int) k)):=by
 unfold G7;rw[adt,List.any_append];simp
theorem Q6(hN:N<=16):Z1 (lY (Z6 N f)<|Z6 N g) (· =Z6 N (G7 f g N)):=by
 unfold lY;refine(QY hN).bind λv hv=>?_;subst hv;refine .bif (λh=>by cases h) λ_=>?_;refine .gdD ⟨by omega,by omega,by rw[bR];omega,by rw[bR];omega⟩ (Z1.bind (P:=(· =Z6 N (G7 f g N))) ?_ λv hv=>.pure hv);have e0:acP ((Z6 N f).length:Int).toNat (aad:Int)=Z6 N λi k=>aai (i<(0:Nat))&&G7 f g N i k:=by
  rw[bR,tnn,Fw];refine iV λi hi=>?_;rw[lw (g:=λ_=>aaf) λk hk=>by show(aai ((i:Int)<((0:Nat):Int))&&_)=aaf;rw[decide_eq_false (by omega)];rfl,I1]
  rfl
 rw[e0];refine Z1.loop (λz=>∃i:Nat,i<=N/\z=(Z6 N λj k=>aai (j<(i:Int))&&G7 f g N j k,(i:Int))) (λz=>((N:Int)-z.2).toNat) ⟨0,by omega,rfl⟩ λz ⟨i,h1,h2⟩=>?_;subst h2;unfold sG;simp only[bR];refine .bifD (λhk=>?_) λhk=>.pure ?_
 .refine Z1.bind (P:=(· =Z6 N (λj k=>aai (j<((i+1:Nat):Int))&&G7 f g N j k))) ?_ λv hv=>.gdI (by omega)<|.pure ⟨⟨i+1,by omega,by rw[hv];rfl⟩,by simp only[];omega⟩;refine Z1.loop (λz=>∃m:Nat,m<=N/\z=(Z6 N (λj k=>if j=(i:Int) then G7 f g m j k else aai (j<(i:Int))&&G7 f g N j k),(m:Int))) (λz=>((N:Int)-z.2).toNat) ⟨0,by omega,congrArg (λl=>(l,(0:Int)))<|mO λj k hj hk=>?_⟩ λz ⟨m,m1,m2⟩=>?_
  .by_cases e:(j:Int)=(i:Int)
   .rw[if_pos e,decide_eq_false (by omega)];rfl
   rw[if_neg e]
  subst m2;unfold rH J;simp only[bR];refine .bifD (λhkk=>?_) λhkk=>.pure<|mO λj k hj hk=>?_
  .refine Z1.bind (P:=(· =Z6 N (λj k=>if j=(i:Int) then G7 f g (m+1) j k else aai (j<(i:Int))&&G7 f g N j k))) ?_ λv hv=>.gdI (by omega)<|.pure ⟨⟨m+1,by omega,by rw[hv];rfl⟩,by simp only[];omega⟩;refine(uK (by omega) (i:=i) (k:=m) (by omega)<|by omega).bind λv hv=>.bif (λhb=>?_) λhb=>.pure<|mO λj k hj hk=>?_
   .simp only[tnn];refine .gdD ⟨by omega,by omega⟩<|.gdD ⟨by omega,by omega⟩<|.pure ?_;rw[kG (by omega),kG (by omega),xc (bU<|by omega) (bU<|by omega),H5];refine LD (g:=λj k=>(if j=(i:Int) then G7 f g m j k else aai (j<(i:Int))&&G7 f g N j k)||g (m:Int) k) i _ λj k hj hk=>?_;rw[hv] at hb
    by_cases e:j=i
    .subst e;rw[if_pos rfl,if_pos rfl,if_pos rfl,BL,hb,acX]
    rw[if_neg (by omega),if_neg (by omega),if_neg (by omega)]
   rw[hv] at hb
   by_cases e:(j:Int)=(i:Int)
   .rw[if_pos e,if_pos e,BL,e,hb];simp
   rw[if_neg e,if_neg e]
  have : m=N:=by omega
  subst this
  by_cases e:(j:Int)=(i:Int)
  .rw[if_pos e,decide_eq_true (by omega)];rfl
  rw[if_neg e]
  congr 1
  exact decide_eq_decide.2 (by omega)
 have : i=N:=by omega
 subst this;exact mO λj k hj hk=>by rw[decide_eq_true (by omega)];rfl
def Z7(f:Int->Int->Bool):Nat->Int->Int->Bool
 |0=>f
 |m+1=>λi k=>Z7 f m i k||(Z7 f m i (m:Int)&&Z7 f m (m:Int) k)
theorem Q7(m:Nat)(k:Int):Z7 f (m+1) (m:Int) k=Z7 f m (m:Int) k:=by
 show(Z7 f m (m:Int) k||(Z7 f m (m:Int) (m:Int)&&Z7 f m (m:Int) k))=_
 cases Z7 f m (m:Int) k <;> simp
theorem TV(hN:N<=16){m:Nat}(hk:m<N):Z1 (aA (lg (Z6 N<|Z7 f m,(m:Int))) (Z6 N<|Z7 f m,(0:Int))) (· =Z6 N (Z7 f<|m+1)):=by
 refine Z1.loop (λz=>∃i:Nat,i<=N/\z=(Z6 N (λj k=>if j<(i:Int) then Z7 f (m+1) j k else Z7 f m j k),(i:Int))) (λz=>((N:Int)-z.2).toNat) ⟨0,by omega,congrArg (λl=>(l,(0:Int)))<|mO (g:=λj k=>if j<((0:Nat):Int) then Z7 f (m+1) j k else Z7 f m j k) λj k _ _=>(if_neg<|by omega).symm⟩ λz ⟨i,i1,i2⟩=>?_;subst i2;unfold lg J;simp only[bR];refine .bifD (λhkk=>?_) λhkk=>.pure (mO λj k hj _=>by rw[if_pos (by omega)]);refine Z1.bind (P:=(· =Z6 N (λj k=>if j<((i+1:Nat):Int) then Z7 f (m+1) j k else Z7 f m j k))) ?_ λv hv=>.gdI (by omega)<|.pure ⟨⟨i+1,by omega,by rw[hv];rfl⟩,by simp only[];omega⟩;refine(uK (by omega) (i:=i) (k:=m) (by omega)<|by omega).bind λv hv=>?_;rw[if_neg (by omega)] at hv;refine .bif (λhb=>?_) λhb=>.pure<|mO λj k hj hk=>?_
 .simp only[tnn];refine .gdD ⟨by omega,by omega⟩<|.gdD ⟨by omega,by omega⟩<|.pure ?_;rw[kG (by omega),kG (by omega),xc (bU<|by omega) (bU<|by omega),H5];have e1:Z2 (λj=>(if (i:Int)<(i:Int) then Z7 f (m+1) (i:Int) (j:Int) else Z7 f m (i:Int) (j:Int))||(if (m:Int)<(i:Int) then Z7 f (m+1) (m:Int) (j:Int) else Z7 f m (m:Int) (j:Int))) N=Z2 (λk=>Z7 f (m+1) (i:Int) (k:Int)) N:=lw λk hk=>by
   rw[if_neg (by omega),Q7];rw[hv] at hb;show _=(Z7 f m (i:Int) (k:Int)||(Z7 f m (i:Int) (m:Int)&&Z7 f m (m:Int) (k:Int)));rw[hb];simp
  rw[e1];refine LD (g:=Z7 f<|m+1) i _ λj k hj hk=>?_
  by_cases e:j=i
  .subst e;rw[if_pos (by omega),if_pos rfl]
  rw[if_neg e]
  by_cases e2:(j:Int)<(i:Int)
  .rw[if_pos e2,if_pos (by omega)]
  rw[if_neg e2,if_neg (by omega)]
 by_cases e:(j:Int)<(i:Int)
 .rw[if_pos e,if_pos (by omega)]
 rw[if_neg e]
 by_cases e2:j=i
 .subst e2;rw[if_pos (by omega)];rw[hv] at hb;show _=(Z7 f m (j:Int) (k:Int)||(Z7 f m (j:Int) (m:Int)&&Z7 f m (m:Int) (k:Int)));rw[hb];simp
 rw[if_neg (by omega)]
theorem J8(hN:N<=16):Z1 (iR<|Z6 N f) (· =Z6 N (Z7 f N)):=by
 unfold iR;refine(tV hN).bind λv hv=>?_;subst hv;refine .bif (λh=>by cases h) λ_=>(Ie<|by rw[bR];omega).bind λv3 h3=>?_;subst h3;refine Z1.bind (P:=(· =Z6 N (Z7 f N))) ?_ λv hv=>.pure hv;refine Z1.loop (λz=>∃m:Nat,m<=N/\z=(Z6 N<|Z7 f m,(m:Int))) (λz=>((N:Int)-z.2).toNat) ⟨0,by omega,rfl⟩ λz ⟨m,h1,h2⟩=>?_;subst h2;unfold rG;simp only[bR];refine .bifD (λhk=>?_) λhk=>.pure ?_
 .exact Z1.bind (P:=(· =Z6 N (Z7 f<|m+1))) (TV hN<|by omega) λv hv=>.gdI (by omega)<|.pure ⟨⟨m+1,by omega,by rw[hv];rfl⟩,by simp only[];omega⟩
 have : m=N:=by omega
 subst this
 rfl
def Al(N:Nat)(f:Int->Int->Bool):Bool:=(acN N).all λi=>!f (i:Int) (i:Int)
theorem J9:Al N f=aae↔∀i:Nat,i<N->f i i=aaf:=by
 unfold Al;rw[adc];exact⟨λh i hi=>by simpa using h i (ac1.2 hi),λh i hi=>by simp[h i (ac1.1 hi)]⟩
theorem LF(hN:N<=16):Z1 (fq<|Z6 N f) (· =Al N f):=by
 unfold fq;refine Z1.sum (PS:=λ_=>∀i:Nat,i<N->f i i=aaf) (PW:=(· =Al N f)) ?_ λ_ h=>.pure (J9.2 h).symm;refine Z1.loop (λz=>∃i:Nat,i<=N/\z=(i:Int)/\∀j:Nat,j<i->f j j=aaf) (λz=>((N:Int)-z).toNat) ⟨0,by omega,rfl,λj hj=>absurd hj<|by omega⟩ λz ⟨i,h1,h2,h3⟩=>?_;subst h2;unfold oH;simp only[bR];refine .bifD (λhk=>(uK (by omega) (i:=i) (k:=i) (by omega)<|by omega).bind λv hv=>.bif (λhb=>.pure ?_) λhb=>.gdI (by omega)<|.pure ⟨⟨i+1,by omega,rfl,λj hj=>?_⟩,by omega⟩) λhk=>.pure λj hj=>h3 j (by omega)
 .show aaf=_
  symm
  rw[Bool.eq_false_iff];intro hl;have:=J9.1 hl i (by omega);rw[<- hv,hb] at this
  cases this
 by_cases e:j=i
 .subst e;rw[<- hv];exact hb
 exact h3 j (by omega)
theorem Q8(hN:N<=16):Z1 (lZ<|Z6 N f) (· =Al N (Z7 f N)):=by
 unfold lZ;refine(tV hN).bind λv hv=>?_;subst hv;exact Z1.bind (P:=(· =Al N (Z7 f N))) (.bif (λ_=>(J8 hN).bind λv hv=>by subst hv;exact(LF hN).bind λw hw=>.pure hw) λh=>by cases h) λv hv=>.pure hv
end
def LG(base:BA->Int->Int->Bool)(N:Nat)(op:Int)(nm:BA)(rs:List<|Int->Int->Bool):Int->Int->Bool:=
 if op=1 then base nm else
 let a:=rs.getD 0 λ_ _=>aaf;let b:=rs.getD 1 λ_ _=>aaf
 if op=6 then λi k=>a k i else if op=7 then Z7 a N else
 if op=2 then λi k=>a i k||b i k else if op=3 then λi k=>a i k&&b i k else if op=4 then λi k=>a i k && !b i k else G7 a b N
mutual
def GU(base:BA->Int->Int->Bool)(N:Nat):ZTE->Int->Int->Bool
 | .mk op nm ks=>LG base N op nm (zR base N ks)
def zR(base:BA->Int->Int->Bool)(N:Nat):List ZTE->List (Int->Int->Bool)
 |[]=>[]
 |t::l=>GU base N t::zR base N l
end
mutual
def VT:ZTE->Prop
 | .mk op nm ks=>(op=1/\nm∈Fq)\/((op=6\/op=7)/\ks.length=1/\VL ks)\/((op=2\/op=3\/op=4\/op=5)/\ks.length=2/\VL ks)
def VL:List ZTE->Prop
 |[]=>True
 |t::l=>VT t/\VL l
end
theorem UT{α:Type}{l:List α}(h:l.length=1):∃a,l=[a]:=by
 match l,h with
 |[a],_=>exact⟨a,rfl⟩
theorem UU{α:Type}{l:List α}(h:l.length=2):∃a b,l=[a,b]:=by
 match l,h with
 |[a,b],_=>exact⟨a,b,rfl⟩
section
variable{p:List (List ZW)}{x:ZX}{N:Nat}{base:BA->Int->Int->Bool}
def EvT(p:List<|List ZW)(x:ZX)(N:Nat)(base:BA->Int->Int->Bool)(d:Nat)(t:ZTE):Prop:=∀m,d<m->Z1 (dh m p x t.out) (· =Z6 N (GU base N t))
mutual
theorem XD(hN:N<=16)(hb:∀nm∈Fq,Z1 (ib p x nm) (· =Z6 N (base nm))):∀t:ZTE,VT t->∃d,EvT p x N base d t
 | .mk op nm ks,h=>by
  rw[VT] at h;rcases h with⟨h1,h2⟩|⟨h1,h2,h3⟩|⟨h1,h2,h3⟩
  .refine⟨0,λm hm=>?_⟩;obtain⟨m,rfl⟩:∃q,m=q+1:=⟨m-1,by omega⟩;show Z1 (df (dh m) p x ⟨op,nm,ks⟩) _;unfold df J;simp only[];subst h1;refine .bif (λ_=>(hb nm h2).bind λv hv=>.pure ?_) λh=>absurd h (by decide);rw[hv,GU,LG,if_pos rfl]
  .obtain⟨d,hd⟩:=V3 hN hb ks h3;obtain⟨a,rfl⟩:=UT h2;refine⟨d+1,λm hm=>?_⟩;obtain⟨m,rfl⟩:∃q,m=q+1:=⟨m-1,by omega⟩;have ha:=hd a (by simp) m (by omega);show Z1 (df (dh m) p x ⟨op,nm,[a]⟩) _;unfold df J;simp only[];refine .bif (λh=>absurd (eq_of_beq h)<|by omega) λ_=>.gdD ⟨by decide,by simp⟩<|ha.bind λv hv=>?_;subst hv;rcases h1 with rfl|rfl
   .refine .bif (λ_=>(Q5 hN).bind λv hv=>.pure ?_) λh=>absurd h (by decide);rw[hv,GU,zR,zR,LG,if_neg (by decide),if_pos rfl]
    rfl
   refine .bif (λh=>absurd h<|by decide) λ_=>.bif (λ_=>(J8 hN).bind λv hv=>.pure ?_) λh=>absurd h (by decide);rw[hv,GU,zR,zR,LG,if_neg (by decide),if_neg (by decide),if_pos rfl]
   rfl
  obtain⟨d,hd⟩:=V3 hN hb ks h3;obtain⟨a,b,rfl⟩:=UU h2;refine⟨d+1,λm hm=>?_⟩;obtain⟨m,rfl⟩:∃q,m=q+1:=⟨m-1,by omega⟩;have ha:=hd a (by simp) m (by omega);have hbb:=hd b (by simp) m (by omega);show Z1 (df (dh m) p x ⟨op,nm,[a,b]⟩) _;unfold df J;simp only[];refine .bif (λh=>absurd (eq_of_beq h)<|by omega) λ_=>.gdD ⟨by decide,by simp⟩<|ha.bind λv hv=>?_;subst hv;refine .bif (λh=>absurd (eq_of_beq h)<|by omega) λ_=>.bif (λh=>absurd (eq_of_beq h)<|by omega) λ_=>.gdD ⟨by decide,by simp⟩<|hbb.bind λw hw=>?_;subst hw;rcases h1 with rfl|rfl|rfl|rfl
  .refine .bif (λ_=>(VZ hN).bind λv hv=>.pure ?_) λh=>absurd h (by decide);rw[hv,GU,zR,zR,zR,LG,if_neg (by decide),if_neg (by decide),if_neg (by decide),if_pos rfl]
   rfl
  .refine .bif (λh=>absurd h<|by decide) λ_=>.bif (λ_=>(XC hN).bind λv hv=>.pure ?_) λh=>absurd h (by decide);rw[hv,GU,zR,zR,zR,LG,if_neg (by decide),if_neg (by decide),if_neg (by decide),if_neg (by decide),if_pos rfl]
   rfl
  .refine .bif (λh=>absurd h<|by decide) λ_=>.bif (λh=>absurd h<|by decide) λ_=>.bif (λ_=>(V2 hN).bind λv hv=>.pure ?_) λh=>absurd h (by decide);rw[hv,GU,zR,zR,zR,LG,if_neg (by decide),if_neg (by decide),if_neg (by decide),if_neg (by decide),if_neg (by decide),if_pos rfl]
   rfl
  refine .bif (λh=>absurd h<|by decide) λ_=>.bif (λh=>absurd h<|by decide) λ_=>.bif (λh=>absurd h<|by decide) λ_=>(Q6 hN).bind λv hv=>.pure ?_;rw[hv,GU,zR,zR,zR,LG,if_neg (by decide),if_neg (by decide),if_neg (by decide),if_neg (by decide),if_neg (by decide),if_neg (by decide)]
  rfl
theorem V3(hN:N<=16)(hb:∀nm∈Fq,Z1 (ib p x nm) (· =Z6 N (base nm))):∀l:List ZTE,VL l->∃d,∀t∈l,EvT p x N base d t
 |[],_=>⟨0,λt h=>by cases h⟩
 |t::l,h=>by
  rw[VL] at h;obtain⟨d1,h1⟩:=XD hN hb t h.1;obtain⟨d2,h2⟩:=V3 hN hb l h.2;refine⟨max d1 d2,λu hu=>?_⟩;rcases acU.1 hu with rfl|hu
  .exact λm hm=>h1 m (by omega)
  exact λm hm=>h2 u hu m (by omega)
end
theorem XE(hN:N<=16)(hb:∀nm∈Fq,Z1 (ib p x nm) (· =Z6 N (base nm))){t:ZTE}(h:VT t):Z1 (qK p x t.out) (· =Z6 N (GU base N t)):=by
 obtain⟨d,hd⟩:=XD hN hb t h;exact ru d hd
end
theorem Q9{l:LI}(hl:l.length<=4000000)(n:Int):Z1 (bQ l n) (· =plc l n):=by
 unfold bQ;refine Z1.sum (PS:=λ_=>n∉l) (PW:=(· =plc l n)) ?_ λ_ hn=>.pure (by unfold plc;simp_all);refine Z1.loop (λz=>∃i:Nat,i<=l.length/\z=(i:Int)/\∀j,j<i->l.getD j aad≠n) (λz=>((l.length:Int)-z).toNat) ⟨0,by omega,rfl,λj hj=>by omega⟩ λz ⟨i,h1,h2,h3⟩=>?_;subst h2;unfold iA J;refine .bifD (λhk=>.gdD ⟨by omega,hk⟩<|.bif (λhe=>.pure ?_) λhe=>.gdI (by omega)<|.pure ⟨⟨i+1,by omega,rfl,λj hj=>?_⟩,by omega⟩) λhk=>.pure ?_
 .simp only[tnn,beq_iff_eq] at he;have hi:i<l.length:=by omega
  have hm:n∈l:=by rw[he];exact F5 hi
  show(i:Int)=plc l n;unfold plc;rw[if_pos hm]
  congr 1
  have h4:=adO hm;rcases Nat.lt_trichotomy i (l.idxOf n) with h5|h5|h5
  .exfalso;have : l.idxOf n<=i:=by
    have e:l=l.take i++l.drop i:=(adS i l).symm;rw[e,List.idxOf_append]
    split
    .have:=adO (by assumption:n∈l.take i);rw[acY] at this;omega
    rw[adq hi,show l[i]=n by rw[he,gdq,geq hi];rfl,List.idxOf_cons_self,acY];omega
   omega
  .exact h5
  grind
 .grind
 intro hm;have h4:=adO hm
 grind
def pU(e:ZY)(w:Bool):Bool:=(e.aP==w) && !(e.Reads==w)
theorem Na(e:ZY)(w:Bool):Z1 (dL e w) (· =pU e w):=by
 unfold dL;exact Z1.bind (P:=(· =pU e w)) (.bif (λh=>.pure<|by unfold pU;simp_all) λh=>.pure<|by unfold pU;simp_all) λv hv=>.pure hv
def Oo(l:List ZW):Bool:=l.any λy=>y.Op==4
theorem XF{l:List ZW}(hl:l.length<=4000000):Z1 (aB l) (· =Oo l):=by
 unfold aB aT;refine Z1.bind (P:=λv:Int=>(0<=v↔Oo l=aae)) ?_ λv hv=>.pure ?_
 .refine Z1.sum (PS:=λ_=>Oo l=aaf) (PW:=λv:Int=>(0<=v↔Oo l=aae)) ?_ λ_ hn=>.pure (by rw[hn];simp);refine Z1.loop (λz=>∃i:Nat,i<=l.length/\z=(i:Int)/\∀j,j<i->((l.getD j aad).Op==4)=aaf) (λz=>((l.length:Int)-z).toNat) ⟨0,by omega,rfl,λj hj=>by omega⟩ λz ⟨i,h1,h2,h3⟩=>?_;subst h2;unfold bG uz J;simp only[tnn];refine .bifD (λhk=>.gdD ⟨by omega,hk⟩ (Z1.bind (P:=(· =((l.getD i aad).Op==4))) (.pure rfl) λv hv=>.bif (λhe=>.pure ⟨λ_=>?_,λ_=>by omega⟩) λhe=>.gdI (by omega)<|.pure ⟨⟨i+1,by omega,rfl,λj hj=>?_⟩,by omega⟩)) λhk=>.pure ?_
  .unfold Oo;rw[List.any_eq_true];exact⟨l.getD i aad,getD_in (by omega),by rw[<- hv];exact he⟩
  .by_cases e:j=i
   .subst e;rw[<- hv];exact he
   exact h3 j (by omega)
  show Oo l=aaf;unfold Oo;rw[List.any_eq_false];intro y hy;obtain⟨j,hj,rfl⟩:=adl hy;have:=h3 j (by omega);rw[gdq,geq hj] at this;rw[show l[j]=(aag l[j]).getD aad from rfl,this]
  decide
 simp_all
section
variable{p:List (List ZW)}{x:XS}{F:LI}
def TW(p:List<|List ZW)(i k:Int):Bool:=poB p i k&&Oo (((p.getD (ev p i).Thread.toNat aad).drop (ev p i).Index.toNat).take<|(ev p k).Index.toNat-(ev p i).Index.toNat)
def Zg(p:List<|List ZW)(i k:Int):Bool:=aai<|(ev p i).Loc=(ev p k).Loc
def WR(p:List<|List ZW)(i k:Int):Bool:=aai ((ev p i).Thread≠(ev p k).Thread)||aai ((ev p i).Thread<0)
def nmR(p:List<|List ZW)(x:XS)(nm:BA):Int->Int->Bool:=
 if nm=⟨#[112,111]⟩ then poB p else if nm=⟨#[108,111,99]⟩ then Zg p else if nm=⟨#[101,120,116]⟩ then WR p else if nm=⟨#[114,102]⟩ then rfB p x else
 if nm=⟨#[99,111]⟩ then coB p x else if nm=⟨#[102,114]⟩ then frB p x else if nm=⟨#[102,101,110,99,101]⟩ then TW p else
 if nm=⟨#[119,114]⟩ then (λi k=>pU (ev p i) aae&&pU (ev p k) aaf) else if nm=⟨#[119,119]⟩ then (λi k=>pU (ev p i) aae&&pU (ev p k) aae) else λi k=>aai (i=k)
theorem Ra{l:LI}{n:Int}:0<=plc l n↔n∈l:=by
 unfold plc
 grind
theorem Nb(hX:XOk p x){l:Int}(hl:0<=l/\l<=2)(i k:Int):Z1 (da ⟨x.1,x.2⟩ l i k) (· =(aai (i∈od x l)&&aai (k∈od x l)&&aai (plc (od x l) i<plc (od x l) k))):=by
 unfold da J;refine .gdD ⟨hl.1,by simp only[];rw[hX.o];omega⟩ ((Q9 (hX.r _) i).bind λv hv=>(Q9 (hX.r _) k).bind λw hw=>?_);change v=plc (od x l) i at hv;change w=plc (od x l) k at hw;subst hv hw;refine Z1.bind (P:=(· =(aai (i∈od x l)&&aai (k∈od x l)))) (.bifD (λh=>.pure ?_) λh=>.pure ?_) λv hv=>Z1.bind (P:=(· =(aai (i∈od x l)&&aai (k∈od x l)&&aai (plc (od x l) i<plc (od x l) k)))) (.bif (λh=>.pure ?_) λh=>.pure ?_) λv hv=>.pure hv
 .rw[decide_eq_true (Ra.1 h),acX];exact decide_eq_decide.2 Ra
 .rw[decide_eq_false λe=>h (Ra.2 e)]
  rfl
 .rw[<- hv,h,acX]
 simp_all
theorem XG(hp:PV p)(C:Cand p x F){i k:Nat}(hi:i<(evs p).length)(hk:k<(evs p).length)(nm:BA)(hn:nm∈Fq):Z1 (sV p ⟨x.1,x.2⟩ (evs p) nm (i:Int) (k:Int)) (· =nmR p x nm i k):=by
 have ei:(evs p).getD i aad=ev p (i:Int):=by unfold ev;rw[tnn]
 have ek:(evs p).getD k aad=ev p (k:Int):=by unfold ev;rw[tnn]
 have hl:=sO hp (n:=(i:Int)) (by omega) (by omega);have hX:=YF hp C;have hiF:(i:Int)∈F:=(C.mem _).2 ⟨by omega,by omega⟩;have hkF:(k:Int)∈F:=(C.mem _).2 ⟨by omega,by omega⟩;unfold sV J;simp only[tnn,ei,ek];refine .gdD ⟨by omega,by omega⟩ (.gdD ⟨by omega,by omega⟩ (Z1.bind (P:=(· =(aai (0<=(ev p i).Thread)&&aai ((ev p i).Thread=(ev p k).Thread)))) (.bifD (λh=>.pure ?_) λh=>.pure ?_) λsame hs=>Z1.bind (P:=(· =poB p i k)) (.bif (λh=>.pure ?_) λh=>.pure ?_) λpo hpo=>?_))
 .rw[decide_eq_true h,acX];exact Og _ _
 .rw[decide_eq_false h];rfl
 .unfold poB;rw[Bool.and_comm (aai<|(ev p i).Thread=(ev p k).Thread),<- hs,h,acX]
 .unfold poB;rw[Bool.and_comm (aai<|(ev p i).Thread=(ev p k).Thread),<- hs,h,ady]
 subst hpo;clear hs;have hn':nm=⟨#[112,111]⟩\/nm=⟨#[108,111,99]⟩\/nm=⟨#[101,120,116]⟩\/nm=⟨#[114,102]⟩\/nm=⟨#[99,111]⟩\/nm=⟨#[102,114]⟩\/nm=⟨#[102,101,110,99,101]⟩\/nm=⟨#[119,114]⟩\/nm=⟨#[119,119]⟩\/nm=⟨#[105,100]⟩:=by
  simpa [Fq] using hn
 rcases hn' with rfl|rfl|rfl|rfl|rfl|rfl|rfl|rfl|rfl|rfl
 .exact Z1.sumR<|.bif (λ_=>.pure rfl) λh=>absurd h (by decide)
 .exact Z1.sumR<|.bif (λh=>absurd h<|by decide) λ_=>.bif (λ_=>.pure<|congrArg Sum.inr<|Og _ _) λh=>absurd h (by decide)
 .refine Z1.sumR<|.bif (λh=>absurd h<|by decide) λ_=>.bif (λh=>absurd h<|by decide) λ_=>.bif (λ_=>?_) λh=>absurd h (by decide);refine Z1.bind (P:=(· =WR p i k)) (.bif (λh=>.pure ?_) λh=>.pure ?_) λv hv=>.pure<|congrArg Sum.inr hv
  .unfold WR;rw[decide_eq_true (show(ev p i).Thread≠(ev p k).Thread by simpa using h)]
   rfl
  unfold WR;rw[decide_eq_false (show ¬ (ev p i).Thread≠(ev p k).Thread by simpa using h)]
  rfl
 .refine Z1.sumR<|.bif (λh=>absurd h<|by decide) λ_=>.bif (λh=>absurd h<|by decide) λ_=>.bif (λh=>absurd h<|by decide) λ_=>.bif (λ_=>?_) λh=>absurd h (by decide);refine .gdD ⟨by omega,by show _<((x.1.length:Nat):Int);rw[C.flen];omega⟩ (.pure<|congrArg Sum.inr ?_);show(x.1.getD k aad==(i:Int))=rfB p x i k;unfold rfB;rw[tnn,Og]
  cases hr:(ev p (k:Int)).Reads with
  |true=>rw[acX]
  |false=>
   have:=C.frN _ hkF hr;rw[tnn] at this;rw[this,ady];exact decide_eq_false (by omega)
 .refine Z1.sumR<|.bif (λh=>absurd h<|by decide) λ_=>.bif (λh=>absurd h<|by decide) λ_=>.bif (λh=>absurd h<|by decide) λ_=>.bif (λh=>absurd h<|by decide) λ_=>.bif (λ_=>?_) λh=>absurd h (by decide);refine(Nb hX hl i k).bind λv hv=>.pure<|congrArg Sum.inr ?_;show v=coB p x i k;rw[hv];unfold coB
  congr 1
  have O:=C.ods _ hl;rw[adP];simp only[bae,dte]
  constructor
  .rintro⟨h1,h2⟩;exact⟨⟨((O.mem _).1 h1).2.1,((O.mem _).1 h2).2.1⟩,((O.mem _).1 h2).2.2.symm⟩
  rintro⟨⟨h1,h2⟩,h3⟩;exact⟨(O.mem _).2 ⟨hiF,h1,rfl⟩,(O.mem _).2 ⟨hkF,h2,h3.symm⟩⟩
 .refine Z1.sumR<|.bif (λh=>absurd h<|by decide) λ_=>.bif (λh=>absurd h<|by decide) λ_=>.bif (λh=>absurd h<|by decide) λ_=>.bif (λh=>absurd h<|by decide) λ_=>.bif (λh=>absurd h<|by decide) λ_=>.bif (λ_=>?_) λh=>absurd h (by decide);refine Z1.bind (P:=(· =frB p x i k)) (.bif (λh1=>.bif (λh2=>.bif (λh3=>.gdD ⟨by omega,by show _<((x.1.length:Nat):Int);rw[C.flen];omega⟩<|(Nb hX hl _ _).bind λv hv=>.pure ?_) λh3=>.pure ?_) λh2=>.pure ?_) λh1=>.pure ?_) λv hv=>.pure (congrArg Sum.inr hv)
  .have h3 : ¬ (i:Int)=(k:Int):=by simpa using h3
   have O:=C.ods _ hl;rw[hv];unfold frB;have hrd:=C.rdc _ hiF h1;rw[tnn] at hrd ⊢;rw[h1,h2,decide_eq_false h3,decide_eq_true hrd];simp only[Bool.and_self,acX,adG,Bool.and_true]
   congr 1
   refine decide_eq_decide.2 ⟨λh=>((O.mem _).1 h).2.2.symm,λh=>(O.mem _).2 ⟨hkF,h2,h.symm⟩⟩
  .have h3:(i:Int)=(k:Int):=by simpa using h3
   unfold frB;rw[decide_eq_true h3];simp
  .unfold frB;rw[h2];simp
  unfold frB;rw[h1];simp
 .refine Z1.sumR<|.bif (λh=>absurd h<|by decide) λ_=>.bif (λh=>absurd h<|by decide) λ_=>.bif (λh=>absurd h<|by decide) λ_=>.bif (λh=>absurd h<|by decide) λ_=>.bif (λh=>absurd h<|by decide) λ_=>.bif (λh=>absurd h<|by decide) λ_=>.bif (λ_=>?_) λh=>absurd h (by decide);refine Z1.bind (P:=(· =TW p i k)) (.bif (λh=>?_) λh=>.pure<|by unfold TW;rw[h];rfl) λv hv=>.pure (congrArg Sum.inr hv);have hpo:=h;unfold poB at h;simp only[bae,dte] at h;obtain⟨⟨h1,h2⟩,h3⟩:=h;rcases BG (p:=p) (n:=(k:Int)) (by omega) (by omega) with hc|⟨t,q,hI,e⟩
  .exfalso;have : (ev p (k:Int)).Thread=-1:=by
    rw[show(k:Int)=((k:Nat):Int) from rfl,(CV (p:=p) (l:=k)<|by omega).1]
   omega
  rcases BG (p:=p) (n:=(i:Int)) (by omega) (by omega) with hc|⟨t',q',hI',e'⟩
  .exfalso;have : (ev p (i:Int)).Thread=-1:=by
    rw[(CV (p:=p) (l:=i)<|by omega).1]
   omega
  have a1:=(hI.ev (p:=p)).1;have a2:=(hI'.ev (p:=p)).1;rw[<- e] at a1;rw[<- e'] at a2;rw[a1,a2] at h1 h3;simp only at h1 h3;have ht:t'=t:=by omega
  subst ht;have hlen:=hI.k;refine .gdD ⟨by rw[a2];simp only[];omega,by rw[a2];simp only[];have:=hI'.t;omega⟩ (.gdD ⟨by rw[a2];simp only[];omega,by rw[a1,a2];simp only[];omega,by rw[a1,a2];simp only[];rw[tnn];omega⟩<|(XF ?_).bind λv hv=>.pure ?_)
  .have:=hp.vs.2 t';rw[a2];simp only[acY,ac7,tnn];omega
  rw[hv];unfold TW;rw[hpo,acX]
 .refine Z1.sumR<|.bif (λh=>absurd h<|by decide) λ_=>.bif (λh=>absurd h<|by decide) λ_=>.bif (λh=>absurd h<|by decide) λ_=>.bif (λh=>absurd h<|by decide) λ_=>.bif (λh=>absurd h<|by decide) λ_=>.bif (λh=>absurd h<|by decide) λ_=>.bif (λh=>absurd h<|by decide) λ_=>.bif (λ_=>?_) λh=>absurd h (by decide);refine(Na _ _).bind λv hv=>Z1.bind (P:=(· =(pU (ev p i) aae&&pU (ev p k) aaf))) (.bif (λh=>(Na _ _).bind λw hw=>.pure ?_) λh=>.pure ?_) λv hv=>.pure<|congrArg Sum.inr hv
  .have e:pU (ev p i) aae=aae:=hv.symm.trans h;show w=(pU (ev p i) aae&&pU (ev p k) aaf);rw[e];exact hw
  have e:pU (ev p i) aae=aaf:=hv.symm.trans h;show aaf=(pU (ev p i) aae&&pU (ev p k) aaf);rw[e]
  rfl
 .refine Z1.sumR<|.bif (λh=>absurd h<|by decide) λ_=>.bif (λh=>absurd h<|by decide) λ_=>.bif (λh=>absurd h<|by decide) λ_=>.bif (λh=>absurd h<|by decide) λ_=>.bif (λh=>absurd h<|by decide) λ_=>.bif (λh=>absurd h<|by decide) λ_=>.bif (λh=>absurd h<|by decide) λ_=>.bif (λh=>absurd h<|by decide) λ_=>.bif (λ_=>?_) λh=>absurd h (by decide);refine(Na _ _).bind λv hv=>Z1.bind (P:=(· =(pU (ev p i) aae&&pU (ev p k) aae))) (.bif (λh=>(Na _ _).bind λw hw=>.pure ?_) λh=>.pure ?_) λv hv=>.pure<|congrArg Sum.inr hv
  .have e:pU (ev p i) aae=aae:=hv.symm.trans h;show w=(pU (ev p i) aae&&pU (ev p k) aae);rw[e];exact hw
  have e:pU (ev p i) aae=aaf:=hv.symm.trans h;show aaf=(pU (ev p i) aae&&pU (ev p k) aae);rw[e]
  rfl
 refine Z1.sum (PS:=λ_=>True) (PW:=(· =nmR p x ⟨#[105,100]⟩ i k)) (.bif (λh=>absurd h<|by decide) λ_=>.bif (λh=>absurd h<|by decide) λ_=>.bif (λh=>absurd h<|by decide) λ_=>.bif (λh=>absurd h<|by decide) λ_=>.bif (λh=>absurd h<|by decide) λ_=>.bif (λh=>absurd h<|by decide) λ_=>.bif (λh=>absurd h<|by decide) λ_=>.bif (λh=>absurd h<|by decide) λ_=>.bif (λh=>absurd h<|by decide) λ_=>.pure trivial) λ_ _=>.pure<|Og _ _
theorem YI(hp:PV p)(C:Cand p x F){nm:BA}(hn:nm∈Fq):Z1 (ib p ⟨x.1,x.2⟩ nm) (· =Z6 (evs p).length (nmR p x nm)):=by
 have hel:=kE hp.vs;unfold ib;refine(F4 hp.vs).bind λv1 h1=>?_;subst h1;exact Z1.bind (P:=(· =Z6 (evs p).length (nmR p x nm))) (J6 (by omega) (is:=λi k=>vR i k p ⟨x.1,x.2⟩ (evs p) nm) λi k hi hk=>(XG hp C hi hk nm hn).bind λv hv=>.pure hv) λv hv=>.pure hv
theorem UV(hv:bh (Z4 p)=aae):(evs p).length<=15:=by
 have h1:=F6 (p:=p) (λe=>aai (0<=e.Thread)||aae) BF (λt k x ho=>by simp[BF,cm,ho]) (λx ho=>by simp[BF,cm,ho]);rw[show(ev0.filter λe=>aai (0<=e.Thread)||aae).length=3 from rfl,adE.2 (λa _=>by simp)] at h1;simp only[bh,uk,bae,dte] at hv;omega
end
section
variable{N:Nat}{f g:Int->Int->Bool}
theorem TY(hN:N<=60){i k:Nat}(hi:i<N)(hk:k<N):Z1 (jd (Z6 N f) (i:Int) (k:Int)) (· =f i k):=uK (f:=f) hN hi hk
theorem Fy{q:Nat->Int}{step:List Int×Int->Option ((List Int×Int) ⊕ LI)}(hs:∀i:Nat,i<N->Z1 (step (tab i q,(i:Int))) (· = .inl (tab (i+1) q,((i+1:Nat):Int))))
  (he:Z1 (step (tab N q,(N:Int))) (· = .inr (tab N q))):Z1 (aA step (([]:LI),(0:Int))) (· =tab N q):=by
 refine Z1.loop (λz=>∃i:Nat,i<=N/\z=(tab i q,(i:Int))) (λz=>((N:Int)-z.2).toNat) ⟨0,by omega,rfl⟩ λz ⟨i,h1,h2⟩=>?_;subst h2
 by_cases h:i<N
 .refine(hs i h).mono λv hv=>?_;subst hv;exact⟨⟨i+1,by omega,rfl⟩,by simp only[];omega⟩
 obtain rfl:i=N:=by omega
 exact he.mono λv hv=>by subst hv;rfl
theorem V4(hN:N<=16):Z1 (qQ (Z6 N f)<|Z6 N g) (· =Z6 N λi k=>f i k||g i k):=by
 unfold qQ;refine Z1.bind (P:=(· =Z6 N λi k=>f i k||g i k)) (Fy (λi hi=>?_) ?_) λv hv=>.pure hv
 .unfold qi J;simp only[bR,tnn];refine .bifD (λ_=>.gdD ⟨by omega,by omega⟩<|.gdD ⟨by omega,by omega⟩<|.gd (aK (by rw[ze];omega) rfl)<|.gdI (by omega)<|.pure ?_) λh=>absurd (show(i:Int)<(N:Int) by omega) h;rw[kG hi,kG hi,xc (bU<|by omega) (bU<|by omega),H5,Fx]
  rfl
 unfold qi J;simp only[bR];exact .bifD (λh=>absurd h<|adC _) λ_=>.pure rfl
theorem XH(hN:N<=16):Z1 (sZ (Z6 N f)<|Z6 N g) (· =Z6 N λi k=>f i k&&g i k):=by
 unfold sZ;refine Z1.bind (P:=(· =Z6 N λi k=>f i k&&g i k)) (Fy (λi hi=>?_) ?_) λv hv=>.pure hv
 .unfold rV J;simp only[bR,tnn];refine .bifD (λ_=>.gdD ⟨by omega,by omega⟩<|.gdD ⟨by omega,by omega⟩<|.gd (aK (by rw[ze];omega) rfl)<|.gdI (by omega)<|.pure ?_) λh=>absurd (show(i:Int)<(N:Int) by omega) h;rw[kG hi,kG hi,I2 (bU<|by omega) (bU<|by omega),QX,Fx]
  rfl
 unfold rV J;simp only[bR];exact .bifD (λh=>absurd h<|adC _) λ_=>.pure rfl
theorem V5(hN:N<=16):Z1 (mM (Z6 N f)<|Z6 N g) (· =Z6 N λi k=>f i k && !g i k):=by
 unfold mM;refine Z1.bind (P:=(· =Z6 N λi k=>f i k && !g i k)) (Fy (λi hi=>?_) ?_) λv hv=>.pure hv
 .unfold l6 J;simp only[bR,tnn];refine .bifD (λ_=>.gdD ⟨by omega,by omega⟩<|.gdD ⟨by omega,by omega⟩<|.gd (aK (by rw[ze];omega) rfl)<|.gdI (by omega)<|.pure ?_) λh=>absurd (show(i:Int)<(N:Int) by omega) h;rw[kG hi,kG hi,J7 _ _ (by omega),Fx]
  rfl
 unfold l6 J;simp only[bR];exact .bifD (λh=>absurd h<|adC _) λ_=>.pure rfl
theorem Rb(hN:N<=16):Z1 (m9 (Z6 N f)<|Z6 N g) (· =Z6 N (G7 f g N)):=by
 unfold m9;refine Z1.bind (P:=(· =Z6 N (G7 f g N))) (Fy (λi hi=>?_) ?_) λv hv=>.pure hv
 .unfold nM;simp only[bR];refine .bifD (λ_=>Z1.bind (P:=(· =tab (i+1) λi=>((Z2 (λk=>G7 f g N (i:Int) (k:Int)) N:Nat):Int))) (Z1.bind (P:=(· =((Z2 (λk=>G7 f g N (i:Int) (k:Int)) N:Nat):Int))) ?_ λv hv=>.gd (aK (by rw[ze];omega) rfl)<|.pure<|by rw[Fx,hv]) λv hv=>.gdI (by omega)<|.pure<|by rw[hv];rfl) λh=>absurd (show(i:Int)<(N:Int) by omega) h;refine Z1.loop (λz=>∃m:Nat,m<=N/\z=((m:Int),((Z2 (λk=>G7 f g m (i:Int) (k:Int)) N:Nat):Int))) (λz=>((N:Int)-z.1).toNat) ⟨0,by omega,?_⟩ λz ⟨m,m1,m2⟩=>?_
  .exact congrArg (λn:Nat=>((0:Int),(n:Int))) ((lw (g:=λ_=>aaf) λk hk=>rfl).trans<|I1 N).symm
  subst m2;unfold sK J;simp only[bR];refine .bifD (λhk=>?_) λhk=>.pure (by rw[show m=N by omega]);refine Z1.bind (P:=(· =((Z2 (λk=>G7 f g (m+1) (i:Int) (k:Int)) N:Nat):Int))) ((TY (by omega) hi<|show m<N by omega).bind λv hv=>.bif (λhb=>.gdD ⟨by omega,by omega⟩<|.pure ?_) λhb=>.pure ?_) λv hv=>.gdI (by omega)<|.pure ⟨⟨m+1,by omega,by rw[hv];rfl⟩,by simp only[];omega⟩
  .rw[tnn,kG (by omega),xc (bU<|by omega) (bU<|by omega),H5];refine congrArg (λn:Nat=>(n:Int))<|lw λk _=>?_;rw[BL,<- hv,hb,acX]
  refine congrArg (λn:Nat=>(n:Int))<|lw λk _=>?_;rw[BL,<- hv,hb,ady,Bool.or_false]
 unfold nM;simp only[bR];exact .bifD (λh=>absurd h<|adC _) λ_=>.pure rfl
theorem Re(hN:N<=16):Z1 (m8<|Z6 N f) (· =Z6 N λi k=>f k i):=by
 unfold m8;rw[bR];refine .gdD ⟨by omega,by omega,by omega,by omega⟩ (Z1.bind (P:=(· =Z6 N λi k=>f k i)) ?_ λv hv=>.pure hv);rw[tnn,Fw];refine Z1.loop (λz=>∃i:Nat,i<=N/\z=(tab N λj=>((Z2 (λm=>f (m:Int) (j:Int)) i:Nat):Int),(i:Int))) (λz=>((N:Int)-z.2).toNat) ⟨0,by omega,rfl⟩ λz ⟨i,h1,h2⟩=>?_;subst h2;unfold uG;simp only[bR];refine .bifD (λhk=>?_) λhk=>.pure (by rw[show i=N by omega];rfl);refine Z1.bind (P:=(· =tab N (λj=>((Z2 (λm=>f (m:Int) (j:Int)) (i+1):Nat):Int)))) ?_ λv hv=>.gdI (by omega)<|.pure ⟨⟨i+1,by omega,by rw[hv];rfl⟩,by simp only[];omega⟩;refine Z1.loop (λz=>∃k:Nat,k<=N/\z=(tab N λj=>((Z2 (λm=>f (m:Int) (j:Int)) (if j<k then i+1 else i):Nat):Int),(k:Int))) (λz=>((N:Int)-z.2).toNat) ⟨0,by omega,congrArg (λl=>(l,(0:Int)))<|iV λj _=>by rw[if_neg (by omega)]⟩ λz ⟨k,k1,k2⟩=>?_;subst k2;unfold sJ J;simp only[bR,ze];refine .bifD (λhkk=>?_) λhkk=>.pure (iV λj hj=>by rw[if_pos (by omega)]);refine Z1.bind (P:=(· =tab N (λj=>((Z2 (λm=>f (m:Int) (j:Int)) (if j<k+1 then i+1 else i):Nat):Int)))) ((TY (by omega) (show i<N by omega)<|show k<N by omega).bind λv hv=>.bif (λhb=>.gdD ⟨by omega,by omega⟩<|.gdD (by omega)<|.pure ?_) λhb=>.pure ?_) λv hv=>.gdI (by omega)<|.pure ⟨⟨k+1,by omega,by rw[hv];rfl⟩,by simp only[];omega⟩
 .rw[tnn,LC (by omega),if_neg (by omega),IR (by omega),xc (bU<|by omega) (by have:=adN (a:=2) (by omega) (show i<63 by omega);omega),I0];refine iV λj _=>?_
  by_cases e:j=k
  .subst e;rw[if_pos rfl,if_pos (by omega),Z2,if_pos (by rw[<- hv];exact hb)]
  rw[if_neg e]
  by_cases e2:j<k
  .rw[if_pos e2,if_pos (by omega)]
  rw[if_neg e2,if_neg (by omega)]
 refine iV λj _=>?_
 by_cases e:j=k
 .subst e;rw[if_neg (by omega),if_pos (by omega),Z2,if_neg (by rw[<- hv,hb];decide)]
 by_cases e2:j<k
 .rw[if_pos e2,if_pos (by omega)]
 rw[if_neg e2,if_neg (by omega)]
theorem Rf(hN:N<=16){m:Nat}(hk:m<N):Z1 (aA (mf (Z6 N<|Z7 f m,(m:Int))) (Z6 N<|Z7 f m,(0:Int))) (· =Z6 N (Z7 f<|m+1)):=by
 refine Z1.loop (λz=>∃i:Nat,i<=N/\z=(Z6 N (λj k=>if j<(i:Int) then Z7 f (m+1) j k else Z7 f m j k),(i:Int))) (λz=>((N:Int)-z.2).toNat) ⟨0,by omega,congrArg (λl=>(l,(0:Int)))<|mO (g:=λj k=>if j<((0:Nat):Int) then Z7 f (m+1) j k else Z7 f m j k) λj k _ _=>(if_neg<|by omega).symm⟩ λz ⟨i,i1,i2⟩=>?_;subst i2;unfold mf J;simp only[bR];refine .bifD (λhkk=>?_) λhkk=>.pure (mO λj k hj _=>by rw[if_pos (by omega)]);refine Z1.bind (P:=(· =Z6 N (λj k=>if j<((i+1:Nat):Int) then Z7 f (m+1) j k else Z7 f m j k))) ?_ λv hv=>.gdI (by omega)<|.pure ⟨⟨i+1,by omega,by rw[hv];rfl⟩,by simp only[];omega⟩;refine(TY (by omega) (i:=i) (k:=m) (by omega)<|by omega).bind λv hv=>?_;rw[if_neg (by omega)] at hv;refine .bif (λhb=>?_) λhb=>.pure<|mO λj k hj hk=>?_
 .simp only[tnn];refine .gdD ⟨by omega,by omega⟩<|.gdD ⟨by omega,by omega⟩<|.pure ?_;rw[kG (by omega),kG (by omega),xc (bU<|by omega) (bU<|by omega),H5];have e1:Z2 (λj=>(if (i:Int)<(i:Int) then Z7 f (m+1) (i:Int) (j:Int) else Z7 f m (i:Int) (j:Int))||(if (m:Int)<(i:Int) then Z7 f (m+1) (m:Int) (j:Int) else Z7 f m (m:Int) (j:Int))) N=Z2 (λk=>Z7 f (m+1) (i:Int) (k:Int)) N:=lw λk hk=>by
   rw[if_neg (by omega),Q7];rw[hv] at hb;show _=(Z7 f m (i:Int) (k:Int)||(Z7 f m (i:Int) (m:Int)&&Z7 f m (m:Int) (k:Int)));rw[hb];simp
  rw[e1];refine LD (g:=Z7 f<|m+1) i _ λj k hj hk=>?_
  by_cases e:j=i
  .subst e;rw[if_pos (by omega),if_pos rfl]
  rw[if_neg e]
  by_cases e2:(j:Int)<(i:Int)
  .rw[if_pos e2,if_pos (by omega)]
  rw[if_neg e2,if_neg (by omega)]
 by_cases e:(j:Int)<(i:Int)
 .rw[if_pos e,if_pos (by omega)]
 rw[if_neg e]
 by_cases e2:j=i
 .subst e2;rw[if_pos (by omega)];rw[hv] at hb;show _=(Z7 f m (j:Int) (k:Int)||(Z7 f m (j:Int) (m:Int)&&Z7 f m (m:Int) (k:Int)));rw[hb];simp
 rw[if_neg (by omega)]
theorem Ka(hN:N<=16):Z1 (jS<|Z6 N f) (· =Z6 N (Z7 f N)):=by
 unfold jS;refine .gd (aK (by rw[bR];simp;omega) rfl) (Z1.bind (P:=(· =Z6 N (Z7 f N))) ?_ λv hv=>.pure hv);rw[acT];refine Z1.loop (λz=>∃m:Nat,m<=N/\z=(Z6 N<|Z7 f m,(m:Int))) (λz=>((N:Int)-z.2).toNat) ⟨0,by omega,rfl⟩ λz ⟨m,h1,h2⟩=>?_;subst h2;unfold uH;simp only[bR];refine .bifD (λhk=>?_) λhk=>.pure (by rw[show m=N by omega]);refine Z1.bind (P:=(· =Z6 N (Z7 f<|m+1))) (Rf hN<|by omega) λv hv=>.gdI (by omega)<|.pure ⟨⟨m+1,by omega,by rw[hv];rfl⟩,by simp only[];omega⟩
theorem Rh(hN:N<=16):Z1 (qR<|Z6 N f) (· =Al N f):=LF hN
theorem Ri(hN:N<=16):Z1 (ng<|Z6 N f) (· =Al N (Z7 f N)):=by
 unfold ng;exact(Ka hN).bind λv hv=>by subst hv;exact(Rh hN).bind λw hw=>.pure hw
def Rj(N:Nat)(f:Int->Int->Bool):Bool:=(acN N).all λi=>(acN N).all λk=>!f (i:Int) (k:Int)
theorem Nc:Rj N f=aae↔∀i:Nat,i<N->∀k:Nat,k<N->f i k=aaf:=by
 unfold Rj;simp only[adc,ac1,adJ]
theorem V6(hN:N<=16):Z1 (qW<|Z6 N f) λn=>(n==0)=Rj N f:=by
 unfold qW;refine Z1.bind (P:=λn:Int=>n=0↔∀i:Nat,i<N->∀k:Nat,k<N->f i k=aaf) ?_ λv hv=>.pure (by rw[adP,Nc,beq_iff_eq];exact hv);refine Z1.loop (λz=>∃i:Nat,i<=N/\z.1=(i:Int)/\0<=z.2/\z.2<=(i:Int)*16/\(z.2=0↔∀j:Nat,j<i->∀k:Nat,k<N->f j k=aaf)) (λz=>((N:Int)-z.1).toNat) ⟨0,by omega,rfl,by simp,by simp,by simp⟩ λz ⟨i,h1,h2,h3,h4,h5⟩=>?_;obtain⟨zi,zn⟩:=z;simp only at h2 h3 h4 h5;subst h2;unfold wJ;simp only[bR];refine .bifD (λhk=>?_) λhk=>.pure (show(zn=0↔_) from (show i=N by omega) ▸ h5);refine Z1.bind (P:=λn:Int=>0<=n/\n<=((i:Int)+1)*16/\(n=0↔(zn=0/\∀k:Nat,k<N->f i k=aaf))) ?_ λv ⟨v1,v2,v3⟩=>.gdI (by omega)<|.pure ⟨⟨i+1,by omega,by simp,v1,by simp only[];omega,?_⟩,by simp only[];omega⟩
 .refine Z1.loop (λz=>∃k:Nat,k<=N/\z.1=(k:Int)/\zn<=z.2/\z.2<=zn+(k:Int)/\(z.2=0↔(zn=0/\∀q:Nat,q<k->f i q=aaf))) (λz=>((N:Int)-z.1).toNat) ⟨0,by omega,rfl,by simp,by simp,by simp⟩ λz ⟨k,k1,k2,k3,k4,k5⟩=>?_;obtain⟨zk,zm⟩:=z;simp only at k2 k3 k4 k5;subst k2;unfold vF;simp only[bR];refine .bifD (λhkk=>?_) λhkk=>.pure ⟨by omega,by omega,show(zm=0↔_) from (show k=N by omega) ▸ k5⟩;refine Z1.bind (P:=λm:Int=>zn<=m/\m<=zn+(k:Int)+1/\(m=0↔(zn=0/\∀q:Nat,q<k+1->f i q=aaf))) ((TY (by omega) (show i<N by omega)<|show k<N by omega).bind λv hv=>.bif (λhb=>.gdI (by omega)<|.pure ⟨by omega,by omega,λh=>by omega,λ⟨_,h⟩=>?_⟩) λhb=>.pure ⟨by omega,by omega,λh=>⟨(k5.1 h).1,λq hq=>?_⟩,λ⟨g1,g2⟩=>k5.2 ⟨g1,λq hq=>g2 q<|by omega⟩⟩) λv ⟨v1,v2,v3⟩=>.gdI (by omega)<|.pure ⟨⟨k+1,by omega,by simp,v1,by simp only[];omega,v3⟩,by simp only[];omega⟩
  .have:=h k (by omega);rw[<- hv,hb] at this
   cases this
  by_cases e:q=k
  .subst e;rw[<- hv];exact hb
  exact(k5.1 h).2 q (by omega)
 simp only[];rw[v3,h5]
 constructor
 .rintro⟨g1,g2⟩ j hj k hkn
  by_cases e:j=i
  .subst e;exact g2 k hkn
  exact g1 j (by omega) k hkn
 exact λg=>⟨λj hj=>g j (by omega),λk hk=>g i (by omega) k hk⟩
end
theorem Kb{a b:Nat}(ha:a<4294967296)(hb:b<18446744073709551616):jc .u64 (a:Int) (b:Int)=((a&&&b:Nat):Int):=by
 have hle:(a&&&b)<=a:=ado;show IntKind.wrap .u64 (((acW 64 (a:Int)&&&acW 64 (b:Int)).toNat:Nat):Int)=_;have h1:(acW 64 (a:Int)).toNat=a:=by rw[adA,adB];omega
 have h2:(acW 64 (b:Int)).toNat=b:=by rw[adA,adB];omega
 rw[BitVec.toNat_and,h1,h2];show((a&&&b:Nat):Int) % 18446744073709551616=_;omega
theorem Ig(a k:Nat)(hk:k<=64):mZ .u64 (a:Int) (k:Int)=((a / 2 ^ k:Nat):Int):=by
 show(a:Int).fdiv (2 ^ (min (k:Int).toNat 64))=_
 grind
def pcA(x:Nat):Nat:=(x / 2&&&6148914691236517205)+(x&&&6148914691236517205)
def pcB(a:Nat):Nat:=(a / 4&&&3689348814741910323)+(a&&&3689348814741910323)
def pcC(b:Nat):Nat:=b / 16+b&&&1085102592571150095
def pcD(c:Nat):Nat:=let d:=c+c / 256;let e:=d+d / 65536;e+e / 4294967296&&&127
def pc(x:Nat):Nat:=pcD<|pcC<|pcB<|pcA x
def YJ(x:Nat):Bool:=Nat.ble (pc x) 16&&((pc x==0)==(x==0))
def XI:Nat->Nat->Bool
 |0,b=>YJ b
 |n+1,b=>XI n b&&XI n (b+2 ^ n)
theorem F8:∀(n b:Nat),XI n b=aae->∀x,b<=x->x<b+2 ^ n->YJ x=aae
 |0,b,h,x,h1,h2=>by
  rw[show x=b by omega];exact h
 |n+1,b,h,x,h1,h2=>by
  rw[XI,bae] at h;rw[Nat.pow_succ] at h2
  by_cases e:x<b+2 ^ n
  .exact F8 n b h.1 x h1 e
  exact F8 n _ h.2 x (by omega) (by omega)
theorem TZ:XI 16 0=aae:=by decide +kernel
theorem YK{x:Nat}(h:x<65536):pc x<=16/\(pc x=0↔x=0):=by
 have:=F8 16 0 TZ x (ac5 _) (by omega);unfold YJ at this;rw[bae] at this;refine⟨nlb this.1,?_⟩
 grind
theorem inU{n:Nat}(h:n<4294967296):ZU .u64 (n:Int)=aae:=W9 ⟨by omega,by omega⟩
theorem T9{x:Nat}(h:x<65536):Z1 (ig (x:Int)) (· =(pc x:Int)):=by
 unfold ig jl;refine Z1.bind (P:=(· =(pc x:Int))) ?_ λv hv=>.pure hv;have a1:jc .u64 (mZ .u64 (x:Int) (1:Int)) (6148914691236517205:Int)+jc .u64 (x:Int) (6148914691236517205:Int)=((pcA x:Nat):Int):=by
  rw[show mZ .u64 (x:Int) (1:Int)=((x / 2:Nat):Int) from Ig x 1 (by omega),show(6148914691236517205:Int)=((6148914691236517205:Nat):Int) from rfl,Kb (by omega) (by omega),Kb (by omega) (by omega)]
  rfl
 have a2:pcA x<131072:=by
  have h1:(x / 2&&&6148914691236517205)<=x / 2:=ado;have h2:(x&&&6148914691236517205)<=x:=ado;unfold pcA;omega
 generalize hA:pcA x=A at a1 a2;have b1:jc .u64 (mZ .u64 (A:Int) (2:Int)) (3689348814741910323:Int)+jc .u64 (A:Int) (3689348814741910323:Int)=((pcB A:Nat):Int):=by
  rw[show mZ .u64 (A:Int) (2:Int)=((A / 4:Nat):Int) from Ig A 2 (by omega),show(3689348814741910323:Int)=((3689348814741910323:Nat):Int) from rfl,Kb (by omega) (by omega),Kb (by omega) (by omega)]
  rfl
 have b2:pcB A<262144:=by
  have h1:(A / 4&&&3689348814741910323)<=A / 4:=ado;have h2:(A&&&3689348814741910323)<=A:=ado;unfold pcB;omega
 generalize hB:pcB A=B at b1 b2;have c1:mZ .u64 (B:Int) (4:Int)+(B:Int)=((B / 16+B:Nat):Int):=by
  rw[show mZ .u64 (B:Int) (4:Int)=((B / 16:Nat):Int) from Ig B 4 (by omega)];omega
 have c2:jc .u64 ((B / 16+B:Nat):Int) (1085102592571150095:Int)=((pcC B:Nat):Int):=by
  rw[show(1085102592571150095:Int)=((1085102592571150095:Nat):Int) from rfl,Kb (by omega) (by omega)]
  rfl
 have c3:pcC B<524288:=by
  have h1:(B / 16+B&&&1085102592571150095)<=B / 16+B:=ado;unfold pcC;omega
 generalize hC:pcC B=C at c2 c3;have d1:(C:Int)+mZ .u64 (C:Int) (8:Int)=((C+C / 256:Nat):Int):=by
  rw[show mZ .u64 (C:Int) (8:Int)=((C / 256:Nat):Int) from Ig C 8 (by omega)];omega
 have hp:pc x=pcD C:=by unfold pc;simp_all
 have e0:∀D:Nat,(D:Int)+mZ .u64 (D:Int) (16:Int)=((D+D / 65536:Nat):Int):=λD=>by
  rw[show mZ .u64 (D:Int) (16:Int)=((D / 65536:Nat):Int) from Ig D 16 (by omega)];omega
 have e1:∀D:Nat,(D:Int)+mZ .u64 (D:Int) (32:Int)=((D+D / 4294967296:Nat):Int):=λD=>by
  rw[show mZ .u64 (D:Int) (32:Int)=((D / 4294967296:Nat):Int) from Ig D 32 (by omega)];omega
 rw[a1,b1,c1];refine .gdD (by omega) (.gd (inU<|by omega) (.gdD (by omega) (.gd (inU<|by omega) (.gdD (by omega) (.gd (inU<|by omega) (Z1.bind (P:=(· =((B / 16+B:Nat):Int))) (.pure rfl) λw hw=>?_))))));subst hw;rw[c2,d1,e0,e1];refine .gdD (by omega)<|.gd (inU<|by omega)<|.gdD (by omega)<|.gd (inU<|by omega)<|.gdD (by omega)<|.gd (inU<|by omega)<|.gdI (by omega)<|.pure ?_;rw[show(127:Int)=((127:Nat):Int) from rfl,I2 (by omega) (by omega),hp]
 rfl
section
variable{N:Nat}{f g:Int->Int->Bool}
theorem Ua{q:Nat->Bool}{n:Nat}:Z2 q n=0↔∀k,k<n->q k=aaf:=by
 constructor
 .intro h k hk;have:=rW q n k
  simp_all
 intro h;rw[lw (g:=λ_=>aaf) h,I1]
theorem V7(hN:N<=16):Z1 (oI<|Z6 N f) λn=>(n==0)=Rj N f:=by
 unfold oI;refine(tV hN).bind λv hv=>?_;subst hv;refine .bif (λh=>by cases h) λ_=>?_;refine Z1.bind (P:=λn:Int=>n=0↔∀i:Nat,i<N->∀k:Nat,k<N->f i k=aaf) ?_ λv hv=>.pure (by rw[adP,Nc,beq_iff_eq];exact hv);refine Z1.loop (λz=>∃i:Nat,i<=N/\z.1=(i:Int)/\0<=z.2/\z.2<=(i:Int)*16/\(z.2=0↔∀j:Nat,j<i->∀k:Nat,k<N->f j k=aaf)) (λz=>((N:Int)-z.1).toNat) ⟨0,by omega,rfl,by simp,by simp,by simp⟩ λz ⟨i,h1,h2,h3,h4,h5⟩=>?_;obtain⟨zi,zn⟩:=z;simp only at h2 h3 h4 h5;subst h2;unfold vz J;simp only[bR,tnn];refine .bifD (λhk=>?_) λhk=>.pure (show(zn=0↔_) from (show i=N by omega) ▸ h5);rw[kG (by omega)];have hlt:Z2 (λk=>f (i:Int) (k:Int)) N<65536:=Nat.lt_of_lt_of_le (MU _ _) (by have:=adH (n:=2) (by omega) hN;omega);obtain⟨p1,p2⟩:=YK hlt;refine .gdD ⟨by omega,hk⟩<|.gd (inU<|by omega)<|(T9 hlt).bind λv hv=>?_;subst hv;refine .gdI (by omega)<|.gdI (by omega)<|.pure ⟨⟨i+1,by omega,by simp,by simp only[];omega,by simp only[];omega,?_⟩,by simp only[];omega⟩;simp only[];have e:zn+(pc (Z2 (λk=>f (i:Int) (k:Int)) N):Int)=0↔zn=0/\Z2 (λk=>f (i:Int) (k:Int)) N=0:=by rw[<- p2];omega
 rw[e,h5,Ua]
 grind
def okK(kind:Int)(N:Nat)(f:Int->Int->Bool):Bool:=if kind=1 then Al N (Z7 f N) else if kind=2 then Al N f else Rj N f
theorem Zy(hN:N<=16)(kind:Int):Z1 (m6 kind<|Z6 N f) (· =okK kind N f):=by
 unfold m6 okK;refine .bif (λh=>(Q8 hN).bind λv hv=>.pure<|by simp_all) λh=>?_;rw[if_neg (λe=>by simp_all)];refine .bif (λh=>(LF hN).bind λv hv=>.pure<|by simp_all) λh=>?_;rw[if_neg (λe=>by simp_all)];exact(V7 hN).bind λv hv=>.pure hv
theorem Zz(hN:N<=16)(kind:Int):Z1 (qX kind<|Z6 N f) (· =okK kind N f):=by
 unfold qX okK;refine .bif (λh=>(Ri hN).bind λv hv=>.pure<|by simp_all) λh=>?_;rw[if_neg (λe=>by simp_all)];refine .bif (λh=>(Rh hN).bind λv hv=>.pure<|by simp_all) λh=>?_;rw[if_neg (λe=>by simp_all)];exact(V6 hN).bind λv hv=>.pure hv
end
section
variable{p:List (List ZW)}{x:ZX}{N:Nat}{base:BA->Int->Int->Bool}
def Zh(p:List<|List ZW)(x:ZX)(N:Nat)(base:BA->Int->Int->Bool)(d:Nat)(t:ZTE):Prop:=∀m,d<m->Z1 (eu m p x t.out) (· =Z6 N (GU base N t))
mutual
theorem UW(hN:N<=16)(hb:∀nm∈Fq,Z1 (ik p x nm) (· =Z6 N (base nm))):∀t:ZTE,VT t->∃d,Zh p x N base d t
 | .mk op nm ks,h=>by
  rw[VT] at h;rcases h with⟨h1,h2⟩|⟨h1,h2,h3⟩|⟨h1,h2,h3⟩
  .refine⟨0,λm hm=>?_⟩;obtain⟨m,rfl⟩:∃q,m=q+1:=⟨m-1,by omega⟩;show Z1 (d9 (eu m) p x ⟨op,nm,ks⟩) _;unfold d9 J;simp only[];subst h1;refine .bif (λ_=>(hb nm h2).bind λv hv=>.pure ?_) λh=>absurd h (by decide);rw[hv,GU,LG,if_pos rfl]
  .obtain⟨d,hd⟩:=Rk hN hb ks h3;obtain⟨a,rfl⟩:=UT h2;refine⟨d+1,λm hm=>?_⟩;obtain⟨m,rfl⟩:∃q,m=q+1:=⟨m-1,by omega⟩;have ha:=hd a (by simp) m (by omega);show Z1 (d9 (eu m) p x ⟨op,nm,[a]⟩) _;unfold d9 J;simp only[];refine .bif (λh=>absurd (eq_of_beq h)<|by omega) λ_=>.gdD ⟨by decide,by simp⟩<|ha.bind λv hv=>?_;subst hv;rcases h1 with rfl|rfl
   .refine .bif (λ_=>(Re hN).bind λv hv=>.pure ?_) λh=>absurd h (by decide);rw[hv,GU,zR,zR,LG,if_neg (by decide),if_pos rfl]
    rfl
   refine .bif (λh=>absurd h<|by decide) λ_=>.bif (λ_=>(Ka hN).bind λv hv=>.pure ?_) λh=>absurd h (by decide);rw[hv,GU,zR,zR,LG,if_neg (by decide),if_neg (by decide),if_pos rfl]
   rfl
  obtain⟨d,hd⟩:=Rk hN hb ks h3;obtain⟨a,b,rfl⟩:=UU h2;refine⟨d+1,λm hm=>?_⟩;obtain⟨m,rfl⟩:∃q,m=q+1:=⟨m-1,by omega⟩;have ha:=hd a (by simp) m (by omega);have hbb:=hd b (by simp) m (by omega);show Z1 (d9 (eu m) p x ⟨op,nm,[a,b]⟩) _;unfold d9 J;simp only[];refine .bif (λh=>absurd (eq_of_beq h)<|by omega) λ_=>.gdD ⟨by decide,by simp⟩<|ha.bind λv hv=>?_;subst hv;refine .bif (λh=>absurd (eq_of_beq h)<|by omega) λ_=>.bif (λh=>absurd (eq_of_beq h)<|by omega) λ_=>.gdD ⟨by decide,by simp⟩<|hbb.bind λw hw=>?_;subst hw;rcases h1 with rfl|rfl|rfl|rfl
  .refine .bif (λ_=>(V4 hN).bind λv hv=>.pure ?_) λh=>absurd h (by decide);rw[hv,GU,zR,zR,zR,LG,if_neg (by decide),if_neg (by decide),if_neg (by decide),if_pos rfl]
   rfl
  .refine .bif (λh=>absurd h<|by decide) λ_=>.bif (λ_=>(XH hN).bind λv hv=>.pure ?_) λh=>absurd h (by decide);rw[hv,GU,zR,zR,zR,LG,if_neg (by decide),if_neg (by decide),if_neg (by decide),if_neg (by decide),if_pos rfl]
   rfl
  .refine .bif (λh=>absurd h<|by decide) λ_=>.bif (λh=>absurd h<|by decide) λ_=>.bif (λ_=>(V5 hN).bind λv hv=>.pure ?_) λh=>absurd h (by decide);rw[hv,GU,zR,zR,zR,LG,if_neg (by decide),if_neg (by decide),if_neg (by decide),if_neg (by decide),if_neg (by decide),if_pos rfl]
   rfl
  refine .bif (λh=>absurd h<|by decide) λ_=>.bif (λh=>absurd h<|by decide) λ_=>.bif (λh=>absurd h<|by decide) λ_=>(Rb hN).bind λv hv=>.pure ?_;rw[hv,GU,zR,zR,zR,LG,if_neg (by decide),if_neg (by decide),if_neg (by decide),if_neg (by decide),if_neg (by decide),if_neg (by decide)]
  rfl
theorem Rk(hN:N<=16)(hb:∀nm∈Fq,Z1 (ik p x nm) (· =Z6 N (base nm))):∀l:List ZTE,VL l->∃d,∀t∈l,Zh p x N base d t
 |[],_=>⟨0,λt h=>by cases h⟩
 |t::l,h=>by
  rw[VL] at h;obtain⟨d1,h1⟩:=UW hN hb t h.1;obtain⟨d2,h2⟩:=Rk hN hb l h.2;refine⟨max d1 d2,λu hu=>?_⟩;rcases acU.1 hu with rfl|hu
  .exact λm hm=>h1 m (by omega)
  exact λm hm=>h2 u hu m (by omega)
end
theorem XJ(hN:N<=16)(hb:∀nm∈Fq,Z1 (ik p x nm) (· =Z6 N (base nm))){t:ZTE}(h:VT t):Z1 (tj p x t.out) (· =Z6 N (GU base N t)):=by
 obtain⟨d,hd⟩:=UW hN hb t h;exact ru d hd
def okM(base:BA->Int->Int->Bool)(N:Nat)(r:ah):Bool:=okK r.Kind N<|GU base N r.Expr.inn
def LH(base:BA->Int->Int->Bool)(N:Nat)(m:List ah)(k:Int):Prop:=
 (k=-1/\∀r∈m,okM base N r=aae)\/∃i:Nat,k=(i:Int)/\i<m.length/\okM base N (m.getD i aad)=aaf/\∀j:Nat,j<i->okM base N (m.getD j aad)=aae
theorem LH.uniq{m:List ah}{k l:Int}(h:LH base N m k)(h':LH base N m l):k=l:=by
 rcases h with⟨h1,h2⟩|⟨i,h1,h2,h3,h4⟩ <;> rcases h' with⟨g1,g2⟩|⟨j,g1,g2,g3,g4⟩
 .omega
 .rw[h2 _ (getD_in g2)] at g3;cases g3
 .rw[g2 _ (getD_in h2)] at h3;cases h3
 grind
theorem YL(hN:N<=16)(hb:∀nm∈Fq,Z1 (ib p x nm) (· =Z6 N (base nm))){m:List ah}(hm:∀r∈m,VT r.Expr.inn)(hl:m.length<=1000):Z1 (fT p x m) λv=>LH base N m v.1/\(0<=v.1->v.2=Z6 N (GU base N (m.getD v.1.toNat aad).Expr.inn)):=by
 unfold fT;refine Z1.sum (PS:=λ_=>∀r∈m,okM base N r=aae) (PW:=λv:Int×LI=>LH base N m v.1/\(0<=v.1->v.2=Z6 N (GU base N (m.getD v.1.toNat aad).Expr.inn))) ?_ λ_ h=>.pure ⟨.inl ⟨rfl,h⟩,λh=>absurd h<|by decide⟩;refine Z1.loop (λz=>∃i:Nat,i<=m.length/\z=(i:Int)/\∀j:Nat,j<i->okM base N (m.getD j aad)=aae) (λz=>((m.length:Int)-z).toNat) ⟨0,by omega,rfl,λj hj=>absurd hj<|by omega⟩ λz ⟨i,h1,h2,h3⟩=>?_;subst h2;unfold sH J;simp only[tnn];refine .bifD (λhk=>?_) λhk=>.pure λr hr=>?_
 .refine .gdD ⟨by omega,hk⟩<|(XE hN hb (t:=(m.getD i aad).Expr.inn)<|hm _<|getD_in<|by omega).bind λv hv=>?_;subst hv;refine(Zy hN _).bind λw hw=>.bif (λhf=>.pure ⟨.inr ⟨i,rfl,by omega,?_,h3⟩,λ_=>by simp only[];rw[tnn]⟩) λh=>.gdI (by omega) (.pure ⟨⟨i+1,by omega,rfl,λj hj=>?_⟩,by omega⟩)
  .show okK _ _ _=aaf;rw[<- hw];simpa using hf
  by_cases e:j=i
  .subst e;show okK _ _ _=aae;rw[<- hw];simpa using h
  exact h3 j (by omega)
 obtain⟨j,hj,rfl⟩:=adl hr;have:=h3 j (by omega);rw[gdq,geq hj] at this;exact this
theorem YM(hN:N<=16)(hb:∀nm∈Fq,Z1 (ik p x nm) (· =Z6 N (base nm))){m:List ah}(hm:∀r∈m,VT r.Expr.inn)(hl:m.length<=1000):Z1 (lj p x m) (LH base N m):=by
 unfold lj;refine Z1.sum (PS:=λ_=>∀r∈m,okM base N r=aae) (PW:=LH base N m) ?_ λ_ h=>.pure<|.inl ⟨rfl,h⟩;refine Z1.loop (λz=>∃i:Nat,i<=m.length/\z=(i:Int)/\∀j:Nat,j<i->okM base N (m.getD j aad)=aae) (λz=>((m.length:Int)-z).toNat) ⟨0,by omega,rfl,λj hj=>absurd hj<|by omega⟩ λz ⟨i,h1,h2,h3⟩=>?_;subst h2;unfold vG J;simp only[tnn];refine .bifD (λhk=>?_) λhk=>.pure λr hr=>?_
 .refine .gdD ⟨by omega,hk⟩<|(XJ hN hb (t:=(m.getD i aad).Expr.inn)<|hm _<|getD_in<|by omega).bind λv hv=>?_;subst hv;refine(Zz hN _).bind λw hw=>.bif (λhf=>.pure<|.inr ⟨i,rfl,by omega,?_,h3⟩) λh=>.gdI (by omega)<|.pure ⟨⟨i+1,by omega,rfl,λj hj=>?_⟩,by omega⟩
  .show okK _ _ _=aaf;rw[<- hw];simpa using hf
  by_cases e:j=i
  .subst e;show okK _ _ _=aae;rw[<- hw];simpa using h
  exact h3 j (by omega)
 obtain⟨j,hj,rfl⟩:=adl hr;have:=h3 j (by omega);rw[gdq,geq hj] at this;exact this
end


section
variable{p:List (List ZW)}{x:XS}{F:LI}
def lrC(p:List<|List ZW)(t idx reg:Int)(e:ZY):Bool:=aai (e.Thread=t)&&aai (e.Index<idx)&&e.Reads&&(((p.getD t.toNat aad).getD e.Index.toNat aad).Reg==reg)
def lrN(p:List<|List ZW)(t idx reg:Int):Nat->Int
 |0=>-1
 |n+1=>if lrC p t idx reg (ev p (n:Int))=aae then (n:Int) else lrN p t idx reg n
def lrd(p:List<|List ZW)(t idx reg:Int):Int:=lrN p t idx reg (evs p).length
theorem UX{t idx reg:Int}:∀(n:Nat),(lrN p t idx reg n=-1/\∀i:Nat,i<n->lrC p t idx reg (ev p (i:Int))=aaf)\/∃r:Nat,r<n/\lrN p t idx reg n=(r:Int)/\lrC p t idx reg (ev p (r:Int))=aae/\∀i:Nat,i<n->r<i->lrC p t idx reg (ev p (i:Int))=aaf
 |0=>.inl ⟨rfl,λi h=>absurd h<|adM _⟩
 |n+1=>by
  by_cases h:lrC p t idx reg (ev p (n:Int))=aae
  .exact .inr ⟨n,by omega,if_pos h,h,λi h1 h2=>by omega⟩
  have e:lrN p t idx reg (n+1)=lrN p t idx reg n:=if_neg h;have hf:lrC p t idx reg (ev p (n:Int))=aaf:=by simpa using h
  rcases UX n with⟨h1,h2⟩|⟨r,h1,h2,h3,h4⟩
  .refine .inl ⟨e.trans h1,λi hi=>?_⟩
   by_cases ei:i=n
   .subst ei;exact hf
   exact h2 i (by omega)
  grind
theorem Kc(t idx reg:Int):(lrd p t idx reg=-1/\∀i:Nat,i<(evs p).length->lrC p t idx reg (ev p (i:Int))=aaf)\/∃r:Nat,r<(evs p).length/\lrd p t idx reg=(r:Int)/\lrC p t idx reg (ev p (r:Int))=aae/\∀i:Nat,i<(evs p).length->r<i->lrC p t idx reg (ev p (i:Int))=aaf:=UX _
theorem CZ{t idx reg:Int}{e:ZY}:lrC p t idx reg e=aae↔e.Thread=t/\e.Index<idx/\e.Reads=aae/\((p.getD t.toNat aad).getD e.Index.toNat aad).Reg=reg:=by
 unfold lrC
 grind
theorem F9(hp:PV p){n:Int}(h0:0<=n)(h:n<((evs p).length:Int))(ht : ¬ (ev p n).Thread<0):∃t k:Nat,Isn p t k/\n=(base p t k:Int)/\(ev p n).Thread=(t:Int)/\(ev p n).Index=(k:Int):=by
 rcases BG h0 h with hc|⟨t,k,hI,rfl⟩
 .exfalso;have:=(CV (p:=p) (l:=n.toNat)<|by omega).1
  grind
 exact⟨t,k,hI,rfl,by rw[hI.ev.1],by rw[hI.ev.1]⟩
def VB(p:List<|List ZW)(x:XS)(vals:LI)(B:List Bool):aG:=⟨p,⟨x.1,x.2⟩,evs p,vals,B⟩
theorem Oq(hp:PV p){vals:LI}{B:List Bool}{t:Nat}(ht:t<p.length)(idx reg:Int):Z1 (gu (VB p x vals B) (t:Int) idx reg) (· =(VB p x vals B,lrd p (t:Int) idx reg)):=by
 have hel:=kE hp.vs;unfold gu;refine Z1.bind (P:=(· =lrd p (t:Int) idx reg)) ?_ λv hv=>.pure (by rw[hv]);refine Z1.loop (λz=>∃n:Nat,n<=(evs p).length/\z=((n:Int),lrN p (t:Int) idx reg n)) (λz=>(((evs p).length:Int)-z.1).toNat) ⟨0,by omega,rfl⟩ λz ⟨n,h1,h2⟩=>?_;subst h2;unfold mI J;have en:(evs p).getD n aad=ev p (n:Int):=by unfold ev;simp_all
 simp only[VB,tnn,en];refine .bifD (λhk=>?_) λhk=>.pure (by rw[show n=(evs p).length by omega];rfl);refine Z1.bind (P:=(· =lrN p (t:Int) idx reg (n+1))) (.gdD ⟨by omega,hk⟩ (Z1.bind (P:=(· =lrC p (t:Int) idx reg (ev p (n:Int)))) (.bif (λh1=>.bifD (λh2=>.bif (λh3=>?_) λh3=>.pure ?_) λh2=>.pure ?_) λh1=>.pure ?_) λv hv=>.bif (λh=>.pure ?_) λh=>.pure ?_)) λv hv=>.gdI (by omega)<|.pure ⟨⟨n+1,by omega,by simp_all⟩,by omega⟩
 .have h1:(ev p (n:Int)).Thread=(t:Int):=eq_of_beq h1;obtain⟨t',k,hI,e,e1,e2⟩:=F9 hp (n:=(n:Int)) (by omega) (by omega) (by omega);have : t'=t:=by omega
  subst this;have:=hI.k;refine .gdD ⟨by omega,by omega⟩<|.gdD ⟨by omega,by rw[e2];omega⟩<|.pure ?_;unfold lrC
  simp_all
 .unfold lrC;simp_all
 .unfold lrC;grind
 .unfold lrC
  simp_all
 .show(n:Int)=lrN p (t:Int) idx reg (n+1);rw[lrN,if_pos (by simp_all)]
 show lrN p (t:Int) idx reg n=lrN p (t:Int) idx reg (n+1);rw[lrN,if_neg (by simp_all)]
def FA(p:List<|List ZW)(i:Int):ZW:=(p.getD (ev p i).Thread.toNat aad).getD (ev p i).Index.toNat aad
def lrE(p:List<|List ZW)(i:Int):Int:=lrd p (ev p i).Thread (ev p i).Index (FA p i).Reg
def Stp(p:List<|List ZW)(x:XS)(i j:Int):Prop:=¬ (ev p i).Thread<0/\(FA p i).Op=3 /\ ¬ lrE p i<0/\j=x.1.getD (lrE p i).toNat aad
inductive Chn(p:List (List ZW))(x:XS):Int->Int->Prop
 |ini {i:Int} (h:(ev p i).Thread<0):Chn p x i 0
 |val {i:Int} (h : ¬ (ev p i).Thread<0) (h3:(FA p i).Op≠3):Chn p x i (FA p i).Val
 |zer {i:Int} (h : ¬ (ev p i).Thread<0) (h3:(FA p i).Op=3) (hr:lrE p i<0):Chn p x i 0
 |nxt {i j v:Int} (h:Stp p x i j) (c:Chn p x j v):Chn p x i v
inductive Rc(p:List (List ZW))(x:XS):Int->Int->Prop
 |refl (i:Int):Rc p x i i
 |step {i j k:Int} (h:Stp p x i j) (c:Rc p x j k):Rc p x i k
def Cyc(p:List<|List ZW)(x:XS)(i:Int):Prop:=∃j k,Rc p x i j/\Stp p x j k/\Rc p x k j
theorem Stp.det{i j k:Int}(h:Stp p x i j)(h':Stp p x i k):j=k:=h.2.2.2.trans h'.2.2.2.symm
theorem Chn.det{i v w:Int}(h:Chn p x i v):Chn p x i w->v=w:=by
 induction h with
 |ini h=>intro h';cases h' with
  |ini _=>rfl
  |val h1 _=>omega
  |zer h1 _ _=>omega
  |nxt h1 _=>exact absurd h h1.1
 |val h h3=>intro h';cases h' with
  |ini h1=>omega
  |val _ _=>rfl
  |zer _ h1 _=>omega
  |nxt h1 _=>exact absurd h1.2.1 h3
 |zer h h3 hr=>intro h';cases h' with
  |ini h1=>omega
  |val _ h1=>omega
  |zer _ _ _=>rfl
  |nxt h1 _=>exact absurd hr h1.2.2.1
 |nxt h c ih=>intro h';cases h' with
  |ini h1=>exact absurd h1 h.1
  |val _ h1=>exact absurd h.2.1 h1
  |zer _ _ h1=>exact absurd h1 h.2.2.1
  |nxt h1 c1=>obtain rfl:=h.det h1;simp_all
theorem Chn.not_cyc{i v:Int}(h:Chn p x i v) : ¬ Cyc p x i:=by
 have nost:∀{i},(∀j,¬ Stp p x i j) -> ¬ Cyc p x i:=λ{i}hn ⟨j,k,h1,h2,h3⟩=>by
  cases h1 with
  |refl _=>simp_all
  |step h _=>simp_all
 induction h with
 |ini h=>exact nost λj hj=>hj.1 h
 |val h h3=>exact nost λj hj=>h3 hj.2.1
 |zer h h3 hr=>exact nost λj hj=>hj.2.2.1 hr
 |nxt h c ih=>
  rintro⟨j,k,h1,h2,h3⟩
  cases h1 with
  |refl _=>
   obtain rfl:=h.det h2;exact ih ⟨_,_,h3,h2,h3⟩
  |step h' c'=>
   obtain rfl:=h.det h';exact ih ⟨j,k,c',h2,h3⟩
theorem Cyc.step{i j:Int}(h:Stp p x i j)(c:Cyc p x j):Cyc p x i:=by
 obtain⟨a,b,h1,h2,h3⟩:=c;exact⟨a,b,.step h h1,h2,h3⟩
theorem G8{B:List Bool}{i:Nat}(hi:i<B.length)(hb:B.getD i aad=aaf):(B.set i aae).count aaf+1=B.count aaf:=by
 grind
theorem Ub{B:List Bool}{i:Nat}(hi:i<B.length)(hb:B.getD i aad=aaf):(B.set i aae).set i aaf=B:=by
 rw[List.set_set];apply adm
 .simp
 grind
def YN(p:List<|List ZW)(x:XS)(vals:LI)(B:List Bool)(i:Int)(q:aG×Int×Bool):Prop:=
 q.1=VB p x vals B/\(q.2.2=aae->Chn p x i q.2.1)/\(q.2.2=aaf->q.2.1=0/\((∃j:Nat,B.getD j aad=aae/\Rc p x i (j:Int))\/Cyc p x i))
theorem Rl(hp:PV p)(C:Cand p x F):∀(m:Nat)(vals:LI)(B:List Bool)(i:Nat),B.count aaf<m->B.length=(evs p).length->i<(evs p).length->Z1 (bS m (VB p x vals B) (i:Int)) (YN p x vals B (i:Int))
 |0,_,_,_,h,_,_=>absurd h (adM _)
 |m+1,vals,B,i,hm,hB,hi=>by
  have hel:=kE hp.vs;have ei:(evs p).getD i aad=ev p (i:Int):=by unfold ev;simp_all
  show Z1 (ia (bS m) (VB p x vals B) (i:Int)) _;unfold ia J;simp only[VB,tnn,ei];refine .gdD ⟨by omega,by omega⟩<|.bifD (λh0=>.pure ⟨rfl,λ_=>.ini h0,λe=>(by cases e)⟩) λh0=>?_;obtain⟨t,k,hI,e,e1,e2⟩:=F9 hp (n:=(i:Int)) (by omega) (by omega) h0;have hins:((p.getD (ev p (i:Int)).Thread.toNat aad).getD (ev p (i:Int)).Index.toNat aad)=FA p (i:Int):=rfl;simp only[hins];have ht:=hI.t;have hk:=hI.k;refine .gdD ⟨by omega,by omega⟩<|.gdD ⟨by omega,by simp_all⟩<|.bif (λh3=>.pure ⟨rfl,λ_=>.val h0 (by simp_all),λe=>(by cases e)⟩) λh3=>?_;have h3:(FA p (i:Int)).Op=3:=by simpa using h3
  refine .gdD ⟨by omega,by omega⟩<|.bif (λhb=>.pure ⟨rfl,λe=>(by cases e),λ_=>⟨rfl,.inl ⟨i,hb,.refl _⟩⟩⟩) λhb=>?_;have hlr:=Oq (x:=x) (vals:=vals) (B:=B) hp ht (ev p (i:Int)).Index (FA p (i:Int)).Reg;rw[<- e1] at hlr;refine hlr.bind λv8 h8=>?_;subst h8;have hlE:lrd p (ev p (i:Int)).Thread (ev p (i:Int)).Index (FA p (i:Int)).Reg=lrE p (i:Int):=rfl;simp only[VB,hlE];refine .bifD (λhr=>.pure ⟨rfl,λ_=>.zer h0 h3 hr,λe=>(by cases e)⟩) λhr=>?_;rcases Kc (p:=p) (ev p (i:Int)).Thread (ev p (i:Int)).Index (FA p (i:Int)).Reg with⟨g1,_⟩|⟨r,g1,g2,g3,_⟩
  .omega
  rw[hlE] at g2;have hrd:=(CZ.1 g3).2.2.1;have hrF:(r:Int)∈F:=(C.mem _).2 ⟨by omega,by omega⟩;have hfr:=C.rdc _ hrF hrd;rw[tnn] at hfr;obtain⟨j0,j1⟩:=(C.mem _).1 (((C.ods _<|sO hp (n:=(r:Int)) (by omega)<|by omega).mem _).1 hfr).1;generalize hj:x.1.getD r aad=j at hfr j0 j1;have hst:Stp p x (i:Int) j:=⟨h0,h3,hr,by simp_all⟩;refine .gdD ⟨by omega,by omega⟩<|.gdD ⟨by omega,by rw[g2,C.flen];omega⟩ ?_;rw[g2,tnn,hj];have hc:=G8 (show i<B.length by omega) hb;have hrec:=Rl hp C m vals (B.set i aae) j.toNat (by omega) (by simp_all) (by omega);rw[adf j0] at hrec;refine hrec.bind λq ⟨q1,q2,q3⟩=>?_;rw[q1];simp only[VB,ac4];refine .gdD ⟨by omega,by omega⟩<|.pure ⟨?_,λh=>.nxt hst<|q2 h,λh=>?_⟩
  .simp only[VB,Ub (show i<B.length by omega) hb]
  obtain⟨q4,q3⟩:=q3 h;refine⟨q4,?_⟩;rcases q3 with⟨a,a1,a2⟩|hcy
  .by_cases ea:a=i
   .subst ea;exact .inr ⟨_,_,.refl _,hst,a2⟩
   refine .inl ⟨a,?_,.step hst a2⟩
   grind
  exact .inr<|.step hst hcy
theorem Rm(hp:PV p)(C:Cand p x F)(vals:LI){i:Nat}(hi:i<(evs p).length):Z1 (nH (VB p x vals<|acP (evs p).length aaf) (i:Int)) λq=>q.1=VB p x vals (acP (evs p).length aaf)/\(q.2.2=aae->Chn p x (i:Int) q.2.1)/\(q.2.2=aaf->Cyc p x (i:Int)):=by
 have nob:∀{q:aG×Int×Bool},YN p x vals (acP (evs p).length aaf) (i:Int) q->q.1=VB p x vals (acP (evs p).length aaf)/\(q.2.2=aae->Chn p x (i:Int) q.2.1)/\(q.2.2=aaf->q.2.1=0/\Cyc p x (i:Int)):=λ{q} ⟨h1,h2,h3⟩=>⟨h1,h2,λh=>⟨(h3 h).1,by
  rcases (h3 h).2 with⟨j,hj,_⟩|hc
  .exfalso;rw[gdq,ac9] at hj
   split at hj <;> cases hj
  omega⟩⟩
 have key:∀m,(evs p).length<m->Z1 (bS m (VB p x vals<|acP (evs p).length aaf) (i:Int)) (YN p x vals (acP (evs p).length aaf) (i:Int)):=λm hm=>Rl hp C m vals _ i (by simp_all) (by simp) hi;obtain⟨q,hq,hP⟩:=key ((evs p).length+1) (by omega);obtain⟨p1,p2,p3⟩:=nob hP;refine .of (ru (v:=q) (evs p).length λm hm=>?_).eq ⟨p1,p2,λh=>(p3 h).2⟩;obtain⟨q',hq',hP'⟩:=key m hm;obtain⟨r1,r2,r3⟩:=nob hP';refine .of hq' ?_;obtain⟨qa,qb,qc⟩:=q;obtain⟨ra,rb,rc⟩:=q';simp only at p1 p2 p3 r1 r2 r3;subst p1 r1
 cases qc <;> cases rc
 .simp_all
 .exact absurd (p3 rfl).2 (r2 rfl).not_cyc
 .exact absurd (r3 rfl).2 (p2 rfl).not_cyc
 rw[(p2 rfl).det (r2 rfl)]
theorem Uc(hp:PV p)(C:Cand p x F):Z1 (bT p ⟨x.1,x.2⟩) λq=>(q.2=aae->q.1.length=(evs p).length/\∀i:Nat,i<(evs p).length->(ev p (i:Int)).aP=aae->Chn p x (i:Int) (q.1.getD i aad))/\(q.2=aaf->∃i:Nat,i<(evs p).length/\(ev p (i:Int)).aP=aae/\Cyc p x (i:Int)):=by
 have hel:=kE hp.vs;unfold bT;refine(F4 hp.vs).bind λv1 h1=>?_;subst h1;refine .gdD ⟨by omega,by omega,by omega,by omega⟩ ?_;refine Z1.sum (PS:=λz=>z.1.length=(evs p).length/\∀i:Nat,i<(evs p).length->(ev p (i:Int)).aP=aae->Chn p x (i:Int) (z.1.getD i aad)) (PW:=λq:List Int×Bool=>(q.2=aae->q.1.length=(evs p).length/\∀i:Nat,i<(evs p).length->(ev p (i:Int)).aP=aae->Chn p x (i:Int) (q.1.getD i aad))/\(q.2=aaf->∃i:Nat,i<(evs p).length/\(ev p (i:Int)).aP=aae/\Cyc p x (i:Int))) ?_ λz hz=>.pure ⟨λ_=>hz,λe=>(by cases e)⟩;have e0:acP ((evs p).length:Int).toNat (aad:Bool)=acP (evs p).length aaf:=by rw[tnn];rfl
 rw[e0];refine Z1.loop (λz=>∃n:Nat,n<=(evs p).length/\z.2=(p,x.1,x.2,evs p,acP (evs p).length aaf,(n:Int))/\z.1.length=n/\∀i:Nat,i<n->(ev p (i:Int)).aP=aae->Chn p x (i:Int) (z.1.getD i aad)) (λz=>(((evs p).length:Int)-z.2.2.2.2.2.2).toNat) ⟨0,by omega,rfl,rfl,λi hi=>absurd hi<|by omega⟩ λz ⟨n,n1,n2,n3,n4⟩=>?_;obtain⟨vals,z2⟩:=z;simp only at n2 n3 n4;subst n2;unfold uy J;have en:(evs p).getD n aad=ev p (n:Int):=by unfold ev;rw[tnn]
 simp only[tnn,en];refine .bifD (λhk=>.gdD ⟨by omega,hk⟩ ?_) λhk=>.pure ⟨by simp only[];omega,λi hi=>n4 i<|by omega⟩;refine Z1.sum (PS:=λs=>s.1=p/\s.2.1=x.1/\s.2.2.1=x.2/\s.2.2.2.1=evs p/\s.2.2.2.2.1=acP (evs p).length aaf/\((ev p (n:Int)).aP=aae->Chn p x (n:Int) s.2.2.2.2.2)) ?_ λs ⟨s1,s2,s3,s4,s5,s6⟩=>.gd (aK (by omega) rfl)<|.gdI (by omega)<|.pure ⟨⟨n+1,by omega,?_,by simp[n3],λi hi hw=>?_⟩,by simp only[];omega⟩
 .refine .bif (λhw=>?_) λhw=>.pure ⟨rfl,rfl,rfl,rfl,rfl,λh=>by rw[hw] at h;cases h⟩;refine(Rm hp C vals (i:=n)<|by omega).bind λq ⟨q1,q2,q3⟩=>.bif (λhq=>.pure ?_) λhq=>.pure ⟨by rw[q1];rfl,by rw[q1];rfl,by rw[q1];rfl,by rw[q1];rfl,by rw[q1];rfl,λ_=>q2<|by simpa using hq⟩;exact⟨λe=>(by cases e),λ_=>⟨n,by omega,hw,q3<|by simpa using hq⟩⟩
 .rw[s1,s2,s3,s4,s5]
  rfl
 grind
end
section
variable{p:List (List ZW)}{x:XS}{F:LI}
inductive HC(p:List (List ZW))(x:XS):Int->Int->Nat->Prop
 |ini {i:Int} (h:(ev p i).Thread<0):HC p x i 0 0
 |val {i:Int} (h : ¬ (ev p i).Thread<0) (h3:(FA p i).Op≠3):HC p x i (FA p i).Val 0
 |zer {i:Int} (h : ¬ (ev p i).Thread<0) (h3:(FA p i).Op=3) (hr:lrE p i<0):HC p x i 0 0
 |nxt {i j v:Int} {n:Nat} (h:Stp p x i j) (c:HC p x j v n):HC p x i v (n+1)
theorem Stp.dom(hp:PV p)(C:Cand p x F){i j:Int}(hi:0<=i/\i<((evs p).length:Int))(h:Stp p x i j):(0<=j/\j<((evs p).length:Int))/\(ev p j).aP=aae:=by
 obtain⟨_,_,hr,e⟩:=h;rcases Kc (p:=p) (ev p i).Thread (ev p i).Index (FA p i).Reg with⟨g1,_⟩|⟨r,g1,g2,g3,_⟩
 .exact absurd (show lrE p i<0 by unfold lrE;omega) hr
 have hrd:=(CZ.1 g3).2.2.1;have hrF:(r:Int)∈F:=(C.mem _).2 ⟨by omega,by omega⟩;have hfr:=((C.ods _<|sO hp (n:=(r:Int)) (by omega)<|by omega).mem _).1<|C.rdc _ hrF hrd;rw[show(r:Int)=lrE p i from g2.symm,<- e] at hfr;exact⟨(C.mem _).1 hfr.1,hfr.2.1⟩
theorem Chn.hc(hp:PV p)(C:Cand p x F){i v:Int}(h:Chn p x i v):0<=i/\i<((evs p).length:Int)->∃n:Nat,n<(evs p).length/\HC p x i v n:=by
 have key:∀{i v:Int},Chn p x i v->0<=i/\i<((evs p).length:Int)->∃(n:Nat)(l:LI),HC p x i v n/\l.length=n+1/\l.Nodup/\(∀j∈l,Rc p x i j)/\∀j∈l,0<=j/\j<((evs p).length:Int):=by
  intro i v h
  induction h with
  |@ini i h=>exact λhi=>⟨0,[i],.ini h,rfl,by simp,λj hj=>by rw[acQ.1 hj];exact .refl _,λj hj=>by rw[acQ.1 hj];exact hi⟩
  |@val i h h3=>exact λhi=>⟨0,[i],.val h h3,rfl,by simp,λj hj=>by rw[acQ.1 hj];exact .refl _,λj hj=>by rw[acQ.1 hj];exact hi⟩
  |@zer i h h3 hr=>exact λhi=>⟨0,[i],.zer h h3 hr,rfl,by simp,λj hj=>by rw[acQ.1 hj];exact .refl _,λj hj=>by rw[acQ.1 hj];exact hi⟩
  |@nxt i j v h c ih=>
   intro hi;obtain⟨n,l,k1,k2,k3,k4,k5⟩:=ih (h.dom hp C hi).1;refine⟨n+1,i::l,.nxt h k1,by rw[llc,k2],List.nodup_cons.2 ⟨λhm=>?_,k3⟩,λq hq=>?_,λq hq=>?_⟩
   .exact(Chn.nxt h c).not_cyc ⟨i,j,.refl _,h,k4 i hm⟩
   .rcases acU.1 hq with rfl|hq
    .exact .refl _
    exact .step h<|k4 q hq
   rcases acU.1 hq with rfl|hq
   .exact hi
   exact k5 q hq
 intro hi;obtain⟨n,l,k1,k2,k3,_,k5⟩:=key h hi;have:=Ty Int.toNat (evs p).length l k3 (λj hj=>by have:=k5 j hj;omega) λa ha b hb e=>by have:=k5 a ha;have:=k5 b hb;omega
 exact⟨n,by omega,k1⟩
theorem Chn.rng(hp:PV p)(C:Cand p x F){i v:Int}(h:Chn p x i v):(0<=i/\i<((evs p).length:Int))->0<=v/\v<=3:=by
 induction h with
 |ini h=>intro _;omega
 |@val i h h3=>
  intro hi;obtain⟨t,k,hI,_,e1,e2⟩:=F9 hp hi.1 hi.2 h;have hR:InR (FA p i):=by
   unfold FA;rw[e1,e2];exact hp.ins t k hI.t hI.k
  obtain⟨_,_,_,_,a,b⟩:=hR;exact⟨a,b⟩
 |zer h h3 hr=>intro _;omega
 |nxt h c ih=>intro hi;exact ih (h.dom hp C hi).1
end
theorem V8{l:List ZW}(hl:l.length<=1000){a b:Nat}(hab:a<b)(hb:b<l.length)(ha : ¬ (l.getD a aad).Op=4):Z1 (ko l (a:Int) (b:Int)) (· =Oo ((l.drop a).take<|b-a)):=by
 have key:Oo ((l.drop a).take<|b-a)=aae↔∃j,a<j/\j<b/\(l.getD j aad).Op=4:=by
  unfold Oo;rw[List.any_eq_true]
  constructor
  .rintro⟨y,hy,h4⟩;obtain⟨i,hi,rfl⟩:=adl hy;rw[acY,ac7] at hi;have e:((l.drop a).take<|b-a)[i]=l.getD (a+i) aad:=by
    rw[List.getElem_take,List.getElem_drop,gdq,geq (by omega)]
    rfl
   rw[e,beq_iff_eq] at h4
   by_cases h0:i=0
   .subst h0;exact absurd h4 ha
   exact⟨a+i,by omega,by omega,h4⟩
  rintro⟨j,h1,h2,h3⟩;refine⟨l.getD j aad,?_,by rw[h3];rfl⟩;have : j-a<((l.drop a).take<|b-a).length:=by rw[acY,ac7];omega
  have e:((l.drop a).take<|b-a)[j-a]=l.getD j aad:=by
   rw[List.getElem_take,List.getElem_drop,gdq,geq (by omega)];simp only[show a+(j-a)=j by omega]
   rfl
  rw[<- e];exact adp _
 unfold ko;refine Z1.sum (PS:=λ_=>Oo ((l.drop a).take<|b-a)=aaf) (PW:=(· =Oo ((l.drop a).take<|b-a))) (.gdI (by omega) ?_) λ_ hn=>.pure hn.symm;refine Z1.loop (λz=>∃i:Nat,a<i/\i<=b/\z=(i:Int)/\∀j,a<j->j<i -> ¬ (l.getD j aad).Op=4) (λz=>((b:Int)-z).toNat) ⟨a+1,by omega,by omega,by simp,λj _ _=>by omega⟩ λz ⟨i,h0,h1,h2,h3⟩=>?_;subst h2;unfold wI J;simp only[tnn];refine .bifD (λhk=>.gdD ⟨by omega,by omega⟩<|.bif (λhe=>.pure ?_) λhe=>.gdI (by omega)<|.pure ⟨⟨i+1,by omega,by omega,rfl,λj j1 j2=>?_⟩,by omega⟩) λhk=>.pure ?_
 .exact(key.2 ⟨i,by omega,by omega,eq_of_beq he⟩).symm
 .by_cases e:j=i
  .subst e;exact λh=>by rw[h] at he;simp at he
  exact h3 j j1 (by omega)
 grind
section
variable{p:List (List ZW)}{x:XS}{F:LI}
theorem XK(hp:PV p)(C:Cand p x F){i k:Nat}(hi:i<(evs p).length)(hk:k<(evs p).length)(nm:BA)(hn:nm∈Fq):Z1 (fG p ⟨x.1,x.2⟩ (evs p) nm (i:Int) (k:Int)) (· =nmR p x nm i k):=by
 have hX:=YF hp C;have hn':nm=⟨#[112,111]⟩\/nm=⟨#[108,111,99]⟩\/nm=⟨#[101,120,116]⟩\/nm=⟨#[114,102]⟩\/nm=⟨#[99,111]⟩\/nm=⟨#[102,114]⟩\/nm=⟨#[102,101,110,99,101]⟩\/nm=⟨#[119,114]⟩\/nm=⟨#[119,119]⟩\/nm=⟨#[105,100]⟩:=by
  simpa [Fq] using hn
 have four:∀f,((nm=⟨#[112,111]⟩/\f=poB p)\/(nm=⟨#[114,102]⟩/\f=rfB p x)\/(nm=⟨#[99,111]⟩/\f=coB p x)\/(nm=⟨#[102,114]⟩/\f=frB p x))->nmR p x nm=f->Z1 (fG p ⟨x.1,x.2⟩ (evs p) nm (i:Int) (k:Int)) (· =nmR p x nm i k):=λf h e=>by
  rw[e];exact TC hp hX hi hk nm f h
 have ei:(evs p).getD i aad=ev p (i:Int):=by unfold ev;rw[tnn]
 have ek:(evs p).getD k aad=ev p (k:Int):=by unfold ev;rw[tnn]
 have go:∀{f:Int->Int->Bool},nmR p x nm=f->(∀same:Bool,same=(aai ((ev p i).Thread=(ev p k).Thread)&&aai (0<=(ev p i).Thread))->Z1 ( sumK (
  bif aai (nm=(⟨#[112,111]⟩:BA)) then
   acO (bif same then
    aag (aai<|((ev p (i:Int)).Index)<((ev p (k:Int)).Index))
   else
    aag aaf
   ) λs7=>
   aag (.inr s7)
  else
   bif aai (nm=(⟨#[108,111,99]⟩:BA)) then
    aag (.inr<|((ev p (i:Int)).Loc)==((ev p (k:Int)).Loc))
   else
    bif aai (nm=(⟨#[101,120,116]⟩:BA)) then
     aag (.inr<|!same)
    else
     bif aai (nm=(⟨#[114,102]⟩:BA)) then
      acO (bif (ev p (k:Int)).Reads then
       gd (aai<|0<=(k:Int)/\(k:Int)<(x.1.length:Int)) <|
       aag ((x.1.getD k aad)==(i:Int))
      else
       aag aaf
      ) λs12=>
      aag (.inr s12)
     else
      bif aai (nm=(⟨#[99,111]⟩:BA)) then
       acO (bif (ev p (i:Int)).aP then
        aag ((ev p (k:Int)).aP)
       else
        aag aaf
       ) λs16=>
       acO (bif s16 then
        aag (((ev p (i:Int)).Loc)==((ev p (k:Int)).Loc))
       else
        aag aaf
       ) λs18=>
       acO (bif s18 then
        acO (dZ ⟨x.1,x.2⟩ ((ev p (i:Int)).Loc) (i:Int) (k:Int)) λv22=>
        aag v22
       else
        aag aaf
       ) λs20=>
       aag (.inr s20)
      else
       bif aai (nm=(⟨#[102,114]⟩:BA)) then
        acO (
         bif (ev p (i:Int)).Reads then
          bif (ev p (k:Int)).aP then
           bif (((ev p (i:Int)).Loc)==((ev p (k:Int)).Loc)) then
            bif ((i:Int) != (k:Int)) then
             gd (aai<|0<=(i:Int)/\(i:Int)<(x.1.length:Int)) <|
             acO (dZ ⟨x.1,x.2⟩ ((ev p (i:Int)).Loc) (x.1.getD i aad) (k:Int)) λv30=>
             aag v30
            else
             aag aaf
           else
            aag aaf
          else
           aag aaf
         else
          aag aaf
        ) λs24=>
        aag (.inr s24)
       else
        bif aai (nm=(⟨#[102,101,110,99,101]⟩:BA)) then
         acO (
          bif same then
           bif aai (((ev p (i:Int)).Index)<((ev p (k:Int)).Index)) then
            gd (aai<|0<=(ev p (i:Int)).Thread/\(ev p (i:Int)).Thread<(p.length:Int)) <|
            acO (ko (p.getD ((ev p (i:Int)).Thread).toNat aad) ((ev p (i:Int)).Index)<|(ev p (k:Int)).Index) λv36=>
            aag v36
           else
            aag aaf
          else
           aag aaf
         ) λsame2=>
         aag (.inr same2)
        else
         bif aai (nm=(⟨#[119,114]⟩:BA)) then
          acO (bif (ev p (i:Int)).aP then
           aag (!((ev p (i:Int)).Reads))
          else
           aag aaf
          ) λsame8=>
          acO (bif same8 then
           aag ((ev p (k:Int)).Reads)
          else
           aag aaf
          ) λs40=>
          acO (bif s40 then
           aag (!((ev p (k:Int)).aP))
          else
           aag aaf
          ) λs42=>
          aag (.inr s42)
         else
          bif aai (nm=(⟨#[119,119]⟩:BA)) then
           acO (bif (ev p (i:Int)).aP then
            aag (!((ev p (i:Int)).Reads))
           else
            aag aaf
           ) λs45=>
           acO (bif s45 then
            aag ((ev p (k:Int)).aP)
           else
            aag aaf
           ) λs47=>
           acO (bif s47 then
            aag (!((ev p (k:Int)).Reads))
           else
            aag aaf
           ) λs49=>
           aag (.inr s49)
          else
           aag (.inl ())
 ) λs5=>
 acO (bif aai (nm=(⟨#[105,100]⟩:BA)) then
  aag ((i:Int)==(k:Int))
 else
  aag aaf
 ) λs51=>
 aag s51) (· =f i k))->Z1 (fG p ⟨x.1,x.2⟩ (evs p) nm (i:Int) (k:Int)) (· =nmR p x nm i k):=λ{f}e h=>by
  rw[e];unfold fG J;simp only[tnn,ei,ek];refine .gdD ⟨by omega,by omega⟩ (.gdD ⟨by omega,by omega⟩ (Z1.bind (P:=(· =(aai ((ev p i).Thread=(ev p k).Thread)&&aai (0<=(ev p i).Thread)))) (.bif (λh=>.pure ?_) λh=>.pure ?_) h))
  .rw[eq_of_beq h];simp
  rw[decide_eq_false (λe=>by rw[e] at h;simp at h)];rfl
 rcases hn' with rfl|rfl|rfl|rfl|rfl|rfl|rfl|rfl|rfl|rfl
 .exact four _ (.inl ⟨rfl,rfl⟩) rfl
 .refine go (f:=Zg p) rfl λsame hs=>Z1.sumR<|.bif (λh=>absurd h<|by decide) λ_=>.bif (λ_=>.pure<|congrArg Sum.inr<|Og _ _) λh=>absurd h (by decide)
 .refine go (f:=WR p) rfl λsame hs=>Z1.sumR<|.bif (λh=>absurd h<|by decide) λ_=>.bif (λh=>absurd h<|by decide) λ_=>.bif (λ_=>.pure<|congrArg Sum.inr ?_) λh=>absurd h (by decide);subst hs;unfold WR
  by_cases h1:(ev p i).Thread=(ev p k).Thread <;> by_cases h2:0<=(ev p i).Thread
  .rw[decide_eq_true h1,decide_eq_true h2,decide_eq_false (λh=>h h1),decide_eq_false (show ¬ (ev p i).Thread<0 by omega)];rfl
  .rw[decide_eq_true h1,decide_eq_false h2,decide_eq_false (λh=>h h1),decide_eq_true (show(ev p i).Thread<0 by omega)];rfl
  .rw[decide_eq_false h1,decide_eq_true (show(ev p i).Thread≠(ev p k).Thread from h1)];rfl
  rw[decide_eq_false h1,decide_eq_true (show(ev p i).Thread≠(ev p k).Thread from h1)];rfl
 .exact four _ (.inr<|.inl ⟨rfl,rfl⟩) rfl
 .exact four _ (.inr<|.inr<|.inl ⟨rfl,rfl⟩) rfl
 .exact four _ (.inr<|.inr<|.inr ⟨rfl,rfl⟩) rfl
 .refine go (f:=TW p) rfl λsame hs=>Z1.sumR<|.bif (λh=>absurd h<|by decide) λ_=>.bif (λh=>absurd h<|by decide) λ_=>.bif (λh=>absurd h<|by decide) λ_=>.bif (λh=>absurd h<|by decide) λ_=>.bif (λh=>absurd h<|by decide) λ_=>.bif (λh=>absurd h<|by decide) λ_=>.bif (λ_=>?_) λh=>absurd h (by decide);refine Z1.bind (P:=(· =TW p i k)) (.bif (λh1=>.bifD (λh2=>?_) λh2=>.pure ?_) λh1=>.pure ?_) λv hv=>.pure<|congrArg Sum.inr hv
  .rw[hs,bae,dte,dte] at h1;obtain⟨t',q',hI',e',ht',hq'⟩:=F9 hp (n:=(i:Int)) (by omega) (by omega) (by omega);obtain⟨t,q,hI,e,ht,hq⟩:=F9 hp (n:=(k:Int)) (by omega) (by omega) (by omega);have htt:t'=t:=by omega
   subst htt;have hlen:=hI.k;have hlt:=hI.t;have hr:=hp.vs.2 t';have hnf:=hI'.o;have hpo:poB p i k=aae:=by unfold poB;rw[decide_eq_true h1.1,decide_eq_true h1.2,decide_eq_true h2];rfl
   unfold TW;rw[hpo,acX,ht',hq',hq,tnn,tnn,tnn];exact .gdD ⟨by omega,by omega⟩<|(V8 (by omega) (by omega) hlen hnf).bind λv hv=>.pure hv
  .unfold TW poB;rw[decide_eq_false h2,Bool.and_false]
   rfl
  unfold TW poB;rw[<- hs,h1]
  rfl
 .refine go (f:=λi k=>pU (ev p i) aae&&pU (ev p k) aaf) rfl λsame hs=>Z1.sumR<|.bif (λh=>absurd h<|by decide) λ_=>.bif (λh=>absurd h<|by decide) λ_=>.bif (λh=>absurd h<|by decide) λ_=>.bif (λh=>absurd h<|by decide) λ_=>.bif (λh=>absurd h<|by decide) λ_=>.bif (λh=>absurd h<|by decide) λ_=>.bif (λh=>absurd h<|by decide) λ_=>.bif (λ_=>?_) λh=>absurd h (by decide);generalize ev p (i:Int)=a;generalize ev p (k:Int)=b;obtain⟨_,_,_,r,w⟩:=a;obtain⟨_,_,_,r',w'⟩:=b
  cases r <;> cases w <;> cases r' <;> cases w' <;> exact .pure rfl
 .refine go (f:=λi k=>pU (ev p i) aae&&pU (ev p k) aae) rfl λsame hs=>Z1.sumR<|.bif (λh=>absurd h<|by decide) λ_=>.bif (λh=>absurd h<|by decide) λ_=>.bif (λh=>absurd h<|by decide) λ_=>.bif (λh=>absurd h<|by decide) λ_=>.bif (λh=>absurd h<|by decide) λ_=>.bif (λh=>absurd h<|by decide) λ_=>.bif (λh=>absurd h<|by decide) λ_=>.bif (λh=>absurd h<|by decide) λ_=>.bif (λ_=>?_) λh=>absurd h (by decide);generalize ev p (i:Int)=a;generalize ev p (k:Int)=b;obtain⟨_,_,_,r,w⟩:=a;obtain⟨_,_,_,r',w'⟩:=b
  cases r <;> cases w <;> cases r' <;> cases w' <;> exact .pure rfl
 refine go (f:=λi k=>aai<|i=k) rfl λsame hs=>Z1.sum (PS:=λ_=>True) (PW:=(· =aai ((i:Int)=(k:Int)))) (.bif (λh=>absurd h<|by decide) λ_=>.bif (λh=>absurd h<|by decide) λ_=>.bif (λh=>absurd h<|by decide) λ_=>.bif (λh=>absurd h<|by decide) λ_=>.bif (λh=>absurd h<|by decide) λ_=>.bif (λh=>absurd h<|by decide) λ_=>.bif (λh=>absurd h<|by decide) λ_=>.bif (λh=>absurd h<|by decide) λ_=>.bif (λh=>absurd h<|by decide) λ_=>.pure trivial) λ_ _=>Z1.bind (P:=(· =aai ((i:Int)=(k:Int)))) (.bif (λ_=>.pure<|Og _ _) λh=>absurd h<|by decide) λv hv=>.pure hv
theorem XL(hp:PV p)(name:BA)(f:Int->Int->Bool)(h:∀i k:Nat,i<(evs p).length->k<(evs p).length->Z1 (fG p ⟨x.1,x.2⟩ (evs p) name (i:Int) (k:Int)) (· =f i k)):Z1 (ik p ⟨x.1,x.2⟩ name) (· =IU p f (evs p).length):=by
 have hel:=kE hp.vs;unfold ik;refine(IQ hp.vs).bind λv1 h1=>?_;subst h1;refine Z1.bind (P:=(· =IU p f (evs p).length)) ?_ λv hv=>.pure hv;refine Z1.loop (λz=>∃n:Nat,n<=(evs p).length/\z=(IU p f n,(n:Int))) (λz=>(((evs p).length:Int)-z.2).toNat) ⟨0,by omega,rfl⟩ λz ⟨n,h1,h2⟩=>?_;subst h2;unfold yZ;refine .bifD (λhk=>?_) λhk=>.pure ?_
 .simp only[] at hk;refine Z1.bind (P:=(· =IU p f (n+1))) (Z1.bind (P:=(· =((Z2 (λk=>f n k) (evs p).length:Nat):Int))) ?_ λv hv=>.gd (aK (by simp only[];rw[QC];omega) rfl)<|.pure<|by simp only[];rw[hv,Oh]) λv hv=>.gdI (by simp only[];omega) (.pure ⟨⟨n+1,by omega,by rw[hv];rfl⟩,by simp only[];omega⟩);refine Z1.loop (λz=>∃k:Nat,k<=(evs p).length/\z=((k:Int),((Z2 (λk=>f n k) k:Nat):Int))) (λz=>(((evs p).length:Int)-z.1).toNat) ⟨0,by omega,rfl⟩ λz ⟨k,k1,k2⟩=>?_;subst k2;unfold xQ;refine .bifD (λhkk=>?_) λhkk=>.pure ?_
  .simp only[] at hkk;refine Z1.bind (P:=(· =((Z2 (λk=>f n k) (k+1):Nat):Int))) ((h n k (by omega)<|by omega).bind λv hv=>.bif (λhb=>.gdD (by simp only[];omega)<|.pure ?_) λhb=>.pure ?_) λv hv=>.gdI (by simp only[];omega) (.pure ⟨⟨k+1,by omega,by rw[hv];rfl⟩,by simp only[];omega⟩)
   .simp only[];rw[IR (by omega),xc (bU<|by omega) (by have:=adN (a:=2) (by omega) (show k<63 by omega);omega)];rw[hv] at hb;simp only[Z2,hb,if_true]
   rw[hv] at hb;simp only[Z2,hb]
   rfl
  have : k=(evs p).length:=by simp only[] at hkk;omega
  rw[<- this]
 grind
theorem YO(hp:PV p)(C:Cand p x F){nm:BA}(hn:nm∈Fq):Z1 (ik p ⟨x.1,x.2⟩ nm) (· =Z6 (evs p).length (nmR p x nm)):=XL hp nm _ λi k hi hk=>XK hp C hi hk nm hn
end
section
variable{p:List (List ZW)}{x:XS}{F:LI}
theorem XM(hp:PV p){t:Nat}(ht:t<p.length)(idx reg:Int):Z1 (rI p (evs p) (t:Int) idx reg) (· =lrd p (t:Int) idx reg):=by
 have hel:=kE hp.vs;unfold rI;refine Z1.bind (P:=(· =lrd p (t:Int) idx reg)) ?_ λv hv=>.pure hv;refine Z1.loop (λz=>∃n:Nat,n<=(evs p).length/\z=((n:Int),lrN p (t:Int) idx reg n)) (λz=>(((evs p).length:Int)-z.1).toNat) ⟨0,by omega,rfl⟩ λz ⟨n,h1,h2⟩=>?_;subst h2;unfold yY J;have en:(evs p).getD n aad=ev p (n:Int):=by unfold ev;simp_all
 simp only[tnn,en];refine .bifD (λhk=>?_) λhk=>.pure (by rw[show n=(evs p).length by omega];rfl);refine Z1.bind (P:=(· =lrN p (t:Int) idx reg (n+1))) (.gdD ⟨by omega,hk⟩ (Z1.bind (P:=(· =lrC p (t:Int) idx reg (ev p (n:Int)))) (.bif (λh1=>.bifD (λh2=>.bif (λh3=>?_) λh3=>.pure ?_) λh2=>.pure ?_) λh1=>.pure ?_) λv hv=>.bif (λh=>.pure ?_) λh=>.pure ?_)) λv hv=>.gdI (by omega)<|.pure ⟨⟨n+1,by omega,by simp_all⟩,by omega⟩
 .have h1:(ev p (n:Int)).Thread=(t:Int):=eq_of_beq h1;obtain⟨t',k,hI,e,e1,e2⟩:=F9 hp (n:=(n:Int)) (by omega) (by omega) (by omega);have : t'=t:=by omega
  subst this;have:=hI.k;refine .gdD ⟨by omega,by omega⟩<|.gdD ⟨by omega,by rw[e2];omega⟩<|.pure ?_;unfold lrC
  simp_all
 .unfold lrC;simp_all
 .unfold lrC;grind
 .unfold lrC
  simp_all
 .show(n:Int)=lrN p (t:Int) idx reg (n+1);rw[lrN,if_pos (by simp_all)]
 show lrN p (t:Int) idx reg n=lrN p (t:Int) idx reg (n+1);rw[lrN,if_neg (by simp_all)]
def wv(p:List<|List ZW)(x:XS)(K:LI)(i:Int):Int:=
 if (ev p i).Thread<0 then 0 else if (FA p i).Op≠3 then (FA p i).Val else if lrE p i<0 then 0 else K.getD (x.1.getD (lrE p i).toNat aad).toNat aad
theorem V9(hp:PV p)(C:Cand p x F){K:LI}(hK:K.length=(evs p).length){i:Nat}(hi:i<(evs p).length):Z1 (mK p (evs p) ⟨x.1,x.2⟩ (i:Int) K) (· =wv p x K (i:Int)):=by
 have ei:(evs p).getD i aad=ev p (i:Int):=by unfold ev;simp_all
 unfold mK wv J;simp only[tnn,ei];refine .gdD ⟨by omega,by omega⟩<|.bifD (λh0=>.pure<|by omega) λh0=>?_;rw[if_neg h0];obtain⟨t,k,hI,e,e1,e2⟩:=F9 hp (n:=(i:Int)) (by omega) (by omega) h0;have hins:((p.getD (ev p (i:Int)).Thread.toNat aad).getD (ev p (i:Int)).Index.toNat aad)=FA p (i:Int):=rfl;simp only[hins];have ht:=hI.t;have hk:=hI.k;refine .gdD ⟨by omega,by omega⟩<|.gdD ⟨by omega,by simp_all⟩<|.bif (λh3=>.pure<|by simp_all) λh3=>?_;have h3:(FA p (i:Int)).Op=3:=by simpa using h3
 rw[if_neg (λh=>h h3)];have hlr:=XM (p:=p) hp ht (ev p (i:Int)).Index (FA p (i:Int)).Reg;rw[<- e1] at hlr;refine hlr.bind λv6 h6=>?_;have hlE:lrd p (ev p (i:Int)).Thread (ev p (i:Int)).Index (FA p (i:Int)).Reg=lrE p (i:Int):=rfl;rw[hlE] at h6;subst h6;refine .bifD (λhr=>.pure<|by omega) λhr=>?_;rw[if_neg hr];have hst:Stp p x (i:Int) (x.1.getD (lrE p (i:Int)).toNat aad):=⟨h0,h3,hr,rfl⟩;have hd:=(hst.dom hp C ⟨by omega,by omega⟩).1;rcases Kc (p:=p) (ev p (i:Int)).Thread (ev p (i:Int)).Index (FA p (i:Int)).Reg with⟨g1,_⟩|⟨r,g1,g2,_,_⟩
 .omega
 rw[hlE] at g2;exact .gdD ⟨by omega,by rw[C.flen];omega⟩ (.gdD ⟨hd.1,by omega⟩<|.pure rfl)
def Kn(p:List<|List ZW)(x:XS)(K:LI):Prop:=K.length=(evs p).length/\∀i:Nat,i<(evs p).length->K.getD i aad=-1\/Chn p x (i:Int) (K.getD i aad)
def Dn(p:List<|List ZW)(x:XS)(K:LI)(n:Nat):Prop:=∀(i:Nat)(v:Int)(h:Nat),i<(evs p).length->(ev p (i:Int)).aP=aae->HC p x (i:Int) v h->h<n->K.getD i aad=v
theorem XN(hp:PV p)(C:Cand p x F){K:LI}(hK:Kn p x K){i:Nat}(hi:i<(evs p).length):wv p x K (i:Int)=-1\/Chn p x (i:Int) (wv p x K (i:Int)):=by
 unfold wv
 split
 .rename_i h;exact .inr<|.ini h
 rename_i h
 split
 .rename_i h3;exact .inr<|.val h h3
 rename_i h3;have h3:(FA p (i:Int)).Op=3:=Decidable.not_not.1 h3
 split
 .rename_i hr;exact .inr<|.zer h h3 hr
 rename_i hr;have hst:Stp p x (i:Int) (x.1.getD (lrE p (i:Int)).toNat aad):=⟨h,h3,hr,rfl⟩;have hd:=(hst.dom hp C ⟨by omega,by omega⟩).1;rcases hK.2 (x.1.getD (lrE p (i:Int)).toNat aad).toNat (by omega) with e|e
 .omega
 rw[adf hd.1] at e;exact .inr<|.nxt hst e
theorem Rn(hp:PV p)(C:Cand p x F){K:LI}{n:Nat}(hD:Dn p x K n){i:Nat}(hi:i<(evs p).length){v:Int}{h:Nat}(hc:HC p x (i:Int) v h)(hn:h<n+1):wv p x K (i:Int)=v:=by
 unfold wv
 cases hc with
 |ini h=>omega
 |val h h3=>omega
 |zer h h3 hr=>omega
 |@nxt _ j v m h c=>
  have hd:=h.dom hp C ⟨by omega,by omega⟩;obtain⟨g1,g2,g3,g4⟩:=h;rw[if_neg g1,if_neg (λe=>e g2),if_neg g3,<- g4];refine hD _ _ m (by omega) ?_ (show HC p x _ v m from ?_) (by omega)
  .rw[adf hd.1.1];exact hd.2
  grind
theorem XO(hp:PV p)(C:Cand p x F){K:LI}{n:Nat}(hK:Kn p x K)(hD:Dn p x K n):Z1 (aA (nL p ⟨x.1,x.2⟩<|evs p) (K,(0:Int))) λq=>Kn p x q/\Dn p x q (n+1):=by
 have hel:=kE hp.vs;refine Z1.loop (λz=>∃k:Nat,k<=(evs p).length/\z.2=(k:Int)/\Kn p x z.1/\Dn p x z.1 n/\∀(i:Nat)(v:Int)(h:Nat),i<k->(ev p (i:Int)).aP=aae->HC p x (i:Int) v h->h<n+1->z.1.getD i aad=v) (λz=>(((evs p).length:Int)-z.2).toNat) ⟨0,by omega,rfl,hK,hD,λi v h hi=>absurd hi<|by omega⟩ λz ⟨k,k1,k2,k3,k4,k5⟩=>?_;obtain⟨L,zk⟩:=z;simp only at k2 k3 k4 k5;subst k2;unfold nL J;have ek:(evs p).getD k aad=ev p (k:Int):=by unfold ev;rw[tnn]
 simp only[tnn,ek];refine .bifD (λhk=>?_) λhk=>.pure ⟨k3,λi v h hi hw hc hn=>k5 i v h (by omega) hw hc hn⟩;refine Z1.bind (P:=λq=>Kn p x q/\Dn p x q n/\∀(i:Nat)(v:Int)(h:Nat),i<k+1->(ev p (i:Int)).aP=aae->HC p x (i:Int) v h->h<n+1->q.getD i aad=v) (.gdD ⟨by omega,hk⟩<|.bif (λhw=>?_) λhw=>.pure ⟨k3,k4,λi v h hi hwi hc hn=>?_⟩) λq ⟨q1,q2,q3⟩=>.gdI (by omega)<|.pure ⟨⟨k+1,by omega,rfl,q1,q2,q3⟩,by simp only[];omega⟩
 .refine(V9 hp C k3.1 (i:=k)<|by omega).bind λw hw'=>.gdD ⟨by omega,by rw[k3.1];exact hk⟩<|.pure ?_;subst hw';have hget:∀i:Nat,(L.set k<|wv p x L (k:Int)).getD i aad=if i=k then wv p x L (k:Int) else L.getD i aad:=λi=>by
   rw[gdq,List.getElem?_set,gdq]
   by_cases e:i=k
   .subst e;rw[if_pos rfl,if_pos (by rw[k3.1];omega),if_pos rfl]
    rfl
   rw[if_neg (Ne.symm e),if_neg e]
  refine⟨⟨by rw[ac4];exact k3.1,λi hi=>?_⟩,λi v h hi hwi hc hn=>?_,λi v h hi hwi hc hn=>?_⟩
  .rw[hget]
   split
   .rename_i e;subst e;exact XN hp C k3 hi
   exact k3.2 i hi
  .rw[hget]
   split
   .rename_i e;subst e;exact Rn hp C k4 hi hc (by omega)
   exact k4 i v h hi hwi hc hn
  rw[hget]
  split
  .rename_i e;subst e;exact Rn hp C k4 (by omega) hc hn
  exact k5 i v h (by omega) hwi hc hn
 grind
theorem Ud(hp:PV p)(C:Cand p x F):Z1 (dY p ⟨x.1,x.2⟩) λq=>(q.2=aae->q.1.length=(evs p).length/\∀i:Nat,i<(evs p).length->(ev p (i:Int)).aP=aae->Chn p x (i:Int) (q.1.getD i aad))/\(q.2=aaf->∃i:Nat,i<(evs p).length/\(ev p (i:Int)).aP=aae/\∀v,¬ Chn p x (i:Int) v):=by
 have hel:=kE hp.vs;unfold dY;refine(IQ hp.vs).bind λv1 h1=>?_;subst h1;refine Z1.bind (P:=(· =acP (evs p).length (-1:Int))) ?_ λK0 hK0=>Z1.bind (P:=λK=>Kn p x K/\Dn p x K (evs p).length) ?_ λK ⟨hK,hD⟩=>?_
 .refine Z1.loop (λz=>∃n:Nat,n<=(evs p).length/\z=(acP n (-1:Int),(n:Int))) (λz=>(((evs p).length:Int)-z.2).toNat) ⟨0,by omega,rfl⟩ λz ⟨n,n1,n2⟩=>?_;subst n2;unfold vE;simp only[];refine .bifD (λhk=>.gd (aK (by grind) rfl)<|.gdI (by omega)<|.pure ⟨⟨n+1,by omega,?_⟩,by omega⟩) λhk=>.pure (by grind);rw[List.replicate_succ']
  rfl
 .subst hK0;refine Z1.loop (λz=>∃n:Nat,n<=(evs p).length/\z.2=(n:Int)/\Kn p x z.1/\Dn p x z.1 n) (λz=>(((evs p).length:Int)-z.2).toNat) ⟨0,by omega,rfl,⟨by simp,λi hi=>.inl ?_⟩,λi v h _ _ _ hn=>absurd hn<|by omega⟩ λz ⟨n,n1,n2,n3,n4⟩=>?_
  .simp_all
  obtain⟨L,zn⟩:=z;simp only at n2 n3 n4;subst n2;unfold uE;simp only[];exact .bifD (λhk=>(XO hp C n3 n4).bind λq ⟨q1,q2⟩=>.gdI (by omega)<|.pure ⟨⟨n+1,by omega,by simp,q1,q2⟩,by omega⟩) λhk=>.pure ⟨n3,by grind⟩
 refine Z1.sum (PS:=λ_=>∀i:Nat,i<(evs p).length->(ev p (i:Int)).aP=aae -> ¬ K.getD i aad<0) (PW:=λq:List Int×Bool=>(q.2=aae->q.1.length=(evs p).length/\∀i:Nat,i<(evs p).length->(ev p (i:Int)).aP=aae->Chn p x (i:Int) (q.1.getD i aad))/\(q.2=aaf->∃i:Nat,i<(evs p).length/\(ev p (i:Int)).aP=aae/\∀v,¬ Chn p x (i:Int) v)) ?_ λ_ h=>.pure ⟨λ_=>⟨hK.1,λi hi hw=>?_⟩,λe=>by cases e⟩
 .refine Z1.loop (λz=>∃n:Nat,n<=(evs p).length/\z=(n:Int)/\∀i:Nat,i<n->(ev p (i:Int)).aP=aae -> ¬ K.getD i aad<0) (λz=>(((evs p).length:Int)-z).toNat) ⟨0,by omega,rfl,λi hi=>absurd hi<|by omega⟩ λz ⟨n,n1,n2,n3⟩=>?_;subst n2;unfold uF J;have en:(evs p).getD n aad=ev p (n:Int):=by unfold ev;rw[tnn]
  simp only[tnn,en];refine .bifD (λhk=>.gdD ⟨by omega,hk⟩ (Z1.bind (P:=(· =((ev p (n:Int)).aP&&aai (K.getD n aad<0)))) (.bif (λh=>.gdD ⟨by omega,by rw[hK.1];exact hk⟩<|.pure<|by rw[h,acX]) λh=>.pure<|by rw[h];rfl) λv hv=>.bif (λh=>.pure ⟨λe=>(by cases e),λ_=>⟨n,by omega,?_⟩⟩) λh=>.gdI (by omega)<|.pure ⟨⟨n+1,by omega,rfl,λi hi hw=>?_⟩,by omega⟩)) λhk=>.pure λi hi=>n3 i (by omega)
  .rw[hv,bae,dte] at h;refine⟨h.1,λv hc=>?_⟩;obtain⟨m,m1,m2⟩:=hc.hc hp C ⟨by omega,by omega⟩;have:=hD n v m (by omega) h.1 m2 m1;have:=(hc.rng hp C ⟨by omega,by omega⟩).1;omega
  grind
 rcases hK.2 i hi with e|e
 .exact absurd (by rw[e];decide) (h i hi hw)
 omega
theorem Ot(hp:PV p)(C:Cand p x F):∃(V W:LI)(b:Bool),bT p ⟨x.1,x.2⟩=aag (V,b)/\dY p ⟨x.1,x.2⟩=aag (W,b)/\(b=aae->V.length=(evs p).length/\W.length=(evs p).length/\∀i:Nat,i<(evs p).length->(ev p (i:Int)).aP=aae->Chn p x (i:Int) (V.getD i aad)/\W.getD i aad=V.getD i aad):=by
 obtain⟨⟨V,b⟩,h1,h2,h3⟩:=Uc hp C;obtain⟨⟨W,c⟩,g1,g2,g3⟩:=Ud hp C;have e:c=b:=by
  cases b <;> cases c
  .rfl
  .obtain⟨i,i1,i2,i3⟩:=h3 rfl;exact absurd i3 ((g2 rfl).2 i i1 i2).not_cyc
  .grind
  rfl
 subst e;refine⟨V,W,c,h1,g1,λe=>⟨(h2 e).1,(g2 e).1,λi hi hw=>⟨(h2 e).2 i hi hw,?_⟩⟩⟩;exact((g2 e).2 i hi hw).det<|(h2 e).2 i hi hw
end
end
end Go.Proofs.YtoagamanbofngaaGreatDoor
