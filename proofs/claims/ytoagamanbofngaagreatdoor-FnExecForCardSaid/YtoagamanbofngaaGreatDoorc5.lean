/- Texts joined. No conditions. -/
import Derived.Test.YtoagamanbofngaaGreatDoorProg
import Derived.Laws.IdiomStrings
import Derived.Test.YtoagamanbofngaaGreatDoorc4
namespace Go.Proofs.YtoagamanbofngaaGreatDoor
noncomputable section
set_option linter.defProp false
open _root_.Inhabited renaming default -> aad
open _root_.Bool renaming true -> aae
open _root_.Bool renaming false -> aaf
open _root_.Option renaming some -> aag
open _root_.Option renaming none -> aah
open _root_.Decidable renaming decide -> aai
open _root_.Go.Proofs.Tryz
open _root_.Go.Proofs.Tryz renaming prog -> aaj
open _root_.Option renaming bind -> adU,bind_eq_some_iff -> aeB
open _root_.List renaming range -> adV,all_eq_true -> adW,getElem_of_mem -> adY,append_assoc -> ad2,mem_range -> ad4,length_take -> ad5,nil_append -> ad7,getElem_mem -> ad9,foldl_cons -> aea,mem_filter -> aeb,mem_append -> aec,take_length -> aed,all_cons -> aei,mem_singleton -> aej,length_filter_le -> aek,all_eq_false -> aen,isEmpty_iff -> aep,take_append_drop -> aer,foldl_nil -> aes,filter_append -> aet,filter_cons_of_neg -> aeu,take_of_length_le -> aev,find?_eq_none -> aew,mem_map -> aex,length_nil -> aey,perm_ext_iff_of_nodup -> aeC,filter_eq_self -> aeD,filter_cons_of_pos -> aeE,length_pos_iff -> aeF,mem_of_mem_take -> aeG,mem_cons_of_mem -> aeH,length_singleton -> aeI,eq_nil_of_length_eq_zero -> aeK
open _root_.Int renaming le_refl -> adX,toNat_of_nonneg -> ad6
open _root_.Bool renaming true_and -> adZ,not_eq_true' -> ad0,not_eq_false' -> ad1,eq_false_iff -> aeh,and_eq_true_iff -> ael,and_assoc -> aeo,or_eq_true -> aez
open _root_.Nat renaming not_lt_zero -> ad3,le_trans -> ad8,lt_or_ge -> aee,not_succ_le_zero -> aef,le_of_succ_le_succ -> aeg,pow_le_pow_right -> aeA,mul_le_mul_right -> aeJ
open _root_.BitVec renaming ofInt -> aem
open Go.RowKit
set_option maxRecDepth 100000
theorem C0(x lo hi:Int):Z1 (cz x lo hi) (· =(aai (lo<=x)&&aai (x<=hi))):=by
 unfold cz;refine Z1.bind (P:=(· =(aai (lo<=x)&&aai (x<=hi)))) ?_ λv hv=>.pure hv;refine .bifD (λh=>.pure ?_) λh=>.pure ?_
 .simp[h]
 grind
theorem Ue{l:List BA}(hl:l.length<=1000)(s:BA):Z1 (cJ l s) λr=>0<=r↔s∈l:=by
 unfold cJ;refine Z1.sum (PS:=λ_=>s∉l) (PW:=λr:Int=>0<=r↔s∈l) ?_ λ_ hn=>.pure ⟨λh=>absurd h (by decide),λh=>absurd h hn⟩;refine Z1.loop (λz=>∃i:Nat,i<=l.length/\z=(i:Int)/\∀j,j<i->l.getD j aad≠s) (λz=>((l.length:Int)-z).toNat) ⟨0,by omega,rfl,λj hj=>by omega⟩ λz ⟨i,h1,h2,h3⟩=>?_;subst h2;unfold iN J;simp only[tnn];refine .bifD (λhk=>.gdD ⟨by omega,hk⟩<|.bifD (λhe=>.pure ⟨λ_=>?_,λ_=>by omega⟩) λhe=>.gdI (by omega)<|.pure ⟨⟨i+1,by omega,rfl,λj hj=>?_⟩,by omega⟩) λhk=>.pure ?_
 .simp_all
 .grind
 intro hm;obtain⟨j,hj,rfl⟩:=adY hm
 grind
def nmB(s:BA):Bool:=(Fq).any λt=>aai<|t=s
theorem I4{s:BA}:nmB s=aae↔s∈Fq:=by
 unfold nmB;rw[List.any_eq_true];exact⟨λ⟨t,h1,h2⟩=>of_decide_eq_true h2 ▸ h1,λh=>⟨s,h,decide_eq_true rfl⟩⟩
theorem UY(s:BA):Z1 (gK s) (· =nmB s):=by
 unfold gK dI;exact Z1.bind (P:=(· =nmB s)) ((Ue (by decide) s).bind λv hv=>.pure<|by rw[Bool.eq_iff_iff,dte,I4];exact hv) λv hv=>.pure hv
theorem XP(s:BA):Z1 (fO s) (· =nmB s):=by
 unfold fO dW;refine Z1.bind (P:=(· =Fq)) (.pure rfl) λl hl=>?_;subst hl;refine Z1.sum (PS:=λ_=>s∉Fq) (PW:=(· =nmB s)) ?_ λ_ hn=>.pure (aeh.2 λh=>hn<|I4.1 h).symm;have hlen:(Fq).length=10:=rfl;refine Z1.loop (λz=>∃i:Nat,i<=10/\z=(i:Int)/\∀j,j<i->(Fq).getD j aad≠s) (λz=>((10:Int)-z).toNat) ⟨0,by omega,rfl,λj hj=>by omega⟩ λz ⟨i,h1,h2,h3⟩=>?_;subst h2;unfold l4 J;simp only[tnn,hlen];refine .bifD (λhk=>.gdD ⟨by omega,hk⟩<|.bifD (λhe=>.pure ?_) λhe=>.gdI (by omega)<|.pure ⟨⟨i+1,by omega,rfl,λj hj=>?_⟩,by omega⟩) λhk=>.pure ?_
 .exact(I4.2<|by rw[<- he];exact getD_in<|by rw[hlen];omega).symm
 .by_cases e:j=i
  .subst e;exact he
  exact h3 j (by omega)
 intro hm;obtain⟨j,hj,rfl⟩:=adY hm;refine h3 j (by rw[hlen] at hj;omega) ?_;rw[gdq,geq hj]
 rfl
def Ro(op:Int):Int:=if op=1 then 0 else if op=2\/op=3\/op=4\/op=5 then 2 else if op=6\/op=7 then 1 else -1
theorem Wd(op:Int):Z1 (om op) λv=>v.2.2=Ro op:=by
 unfold om Ro;refine .bif (λh=>.pure<|by simp_all) λh1=>?_;have h1:op≠1:=by simpa using h1
 rw[if_neg h1];refine .bif (λh=>.pure<|by simp_all) λh2=>?_;refine .bif (λh=>.pure<|by simp_all) λh3=>?_;refine .bif (λh=>.pure<|by simp_all) λh4=>?_;refine .bif (λh=>.pure<|by simp_all) λh5=>?_;have h2:op≠2:=by simpa using h2
 have h3:op≠3:=by simpa using h3
 have h4:op≠4:=by simpa using h4
 have h5:op≠5:=by simpa using h5
 rw[if_neg (by omega)];refine .bif (λh=>.pure<|by simp_all) λh6=>?_;refine .bif (λh=>.pure<|by simp_all) λh7=>?_;have h6:op≠6:=by simpa using h6
 have h7:op≠7:=by simpa using h7
 rw[if_neg (by omega)];exact .pure rfl
theorem XQ(op:Int):Z1 (fF op) (· =Ro op):=by
 unfold fF Ro;refine .bif (λh=>.pure<|by simp_all) λh1=>?_;have h1:op≠1:=by simpa using h1
 rw[if_neg h1];refine Z1.bind (P:=(· =aai (op=2\/op=3\/op=4\/op=5))) ?_ λv hv=>.bif (λh=>.pure<|by simp_all) λh=>?_
 .refine .bif (λh=>.pure ?_) λh2=>.bif (λh=>.pure ?_) λh3=>.bif (λh=>.pure ?_) λh4=>.pure ?_
  .rw[h];exact(decide_eq_true<|.inl<|eq_of_beq h).symm
  .rw[h];exact(decide_eq_true<|.inr<|.inl<|eq_of_beq h).symm
  .rw[h];exact(decide_eq_true<|.inr<|.inr<|.inl<|eq_of_beq h).symm
  grind
 rw[if_neg (of_decide_eq_false<|by rw[<- hv];exact h)];refine Z1.bind (P:=(· =aai (op=6\/op=7))) ?_ λv hv=>.bif (λh=>.pure<|by rw[if_pos (of_decide_eq_true<|by rw[<- hv];exact h)]) λh=>.pure (by rw[if_neg (of_decide_eq_false<|by rw[<- hv];exact h)]);refine .bif (λh=>.pure ?_) λh6=>.pure ?_
 .rw[h];exact(decide_eq_true<|.inl<|eq_of_beq h).symm
 grind
theorem We(op:Int):Ro op<=2:=by
 unfold Ro;omega
def okE(e:aa):Bool:=aai ((e.Kids.length:Int)=Ro e.Op)&&(aai (e.Op=1)==nmB e.Name)&&(aai (e.Op=1)||aai (e.Name=⟨#[]⟩))
theorem I5{e:aa}(h:okE e=aae):e.Kids.length<=2:=by
 unfold okE at h;simp only[bae,dte] at h;have:=We e.Op;omega
def szF(f:ZTE->Int)(c:Int)(k:ZTE):Int:=if 40<c then c else c+f k
def szD:Nat->ZTE->Int
 |0,_=>41
 |d+1,t=>if okE t.out=aae then t.out.Kids.foldl (szF<|szD d) 1 else 41
def shD:Nat->ZTE->Bool
 |0,_=>aaf
 |d+1,t=>okE t.out&&t.out.Kids.all (shD d)
def Ih:Nat->ZTE->Int
 |0,_=>0
 |d+1,t=>t.out.Kids.foldl (λc k=>c+Ih d k) 1
def ctF(f:ZTE->Int->Int)(most:Int)(n:Int)(k:ZTE):Int:=if n<=most then n+f k (most-n) else n
def ctD:Nat->ZTE->Int->Int
 |0,_,_=>0
 |d+1,t,most=>t.out.Kids.foldl (ctF (ctD d) most) 1
theorem Ga{f:ZTE->Int}(h:∀k,0<=f k):∀(l:List ZTE)(c:Int),c<=l.foldl (λc k=>c+f k) c
 |[],_=>adX _
 |k::l,c=>by
  have:=Ga h l<|c+f k
  grind
theorem zS:∀(d:Nat)(t:ZTE),0<=Ih d t
 |0,_=>adX _
 |d+1,t=>by
  have:=Ga (zS d) t.out.Kids 1;rw[Ih];omega
theorem LJ{f:ZTE->Int}:∀(l:List ZTE)(c:Int),40<c->l.foldl (szF f) c=c
 |[],_,_=>rfl
 |k::l,c,h=>by
  rw[aea,szF,if_pos h];exact LJ l c h
theorem Rp:∀(d:Nat)(t:ZTE),0<=szD d t/\szD d t<=41+40*(d:Int)/\(szD d t<=40↔shD d t=aae/\Ih d t<=40)/\(szD d t<=40->szD d t=Ih d t)
 |0,t=>by refine⟨?_,?_,?_,?_⟩ <;> simp[szD,shD]
 |d+1,t=>by
  have key:∀(l:List ZTE)(c:Int),0<=c->c<=40->(0<=l.foldl (szF<|szD d) c/\l.foldl (szF<|szD d) c<=81+40*(d:Int)/\(l.foldl (szF<|szD d) c<=40↔l.all (shD d)=aae/\l.foldl (λc k=>c+Ih d k) c<=40)/\(l.foldl (szF<|szD d) c<=40->l.foldl (szF<|szD d) c=l.foldl (λc k=>c+Ih d k) c)):=by
   intro l
   induction l with
   |nil=>intro c h0 h;refine⟨h0,?_,?_,?_⟩ <;> simp <;> omega
   |cons k l ih=>
    intro c h0 h;obtain⟨i1,i2,i3,i4⟩:=Rp d k;have hp:=zS d k;simp only[aea,aei,bae];rw[szF,if_neg (by omega)]
    by_cases hb:40<c+szD d k
    .rw[LJ l _ hb];refine⟨by omega,by omega,⟨λh=>absurd h (by omega),λ⟨⟨g1,_⟩,g2⟩=>?_⟩,λh=>absurd h<|by omega⟩;have hg:=Ga (zS d) l<|c+Ih d k;have:=i4<|i3.2 ⟨g1,by omega⟩;omega
    have e:=i4 (by omega);have s:=(i3.1<|by omega).1;obtain⟨j1,j2,j3,j4⟩:=ih (c+szD d k) (by omega) (by omega);rw[e] at j1 j2 j3 j4 ⊢;exact⟨j1,j2,⟨λh=>⟨⟨s,(j3.1 h).1⟩,(j3.1 h).2⟩,λh=>j3.2 ⟨h.1.2,h.2⟩⟩,j4⟩
  rw[szD,shD,Ih]
  grind
theorem I6{f:ZTE->Int->Int}{most:Int}:∀(l:List ZTE)(c:Int),most<c->l.foldl (ctF f most) c=c
 |[],_,_=>rfl
 |k::l,c,h=>by
  rw[aea,ctF,if_neg (by omega)];exact I6 l c h
theorem Rq:∀(d:Nat)(t:ZTE)(most:Int),shD d t=aae->1<=ctD d t most/\ctD d t most<=Ih d t/\(ctD d t most<=most->ctD d t most=Ih d t)
 |0,_,_,h=>by simp[shD] at h
 |d+1,t,most,h=>by
  rw[shD,bae] at h;have key:∀(l:List ZTE)(c:Int),l.all (shD d)=aae->1<=c->(1<=l.foldl (ctF (ctD d) most) c/\l.foldl (ctF (ctD d) most) c<=l.foldl (λc k=>c+Ih d k) c/\(l.foldl (ctF (ctD d) most) c<=most->l.foldl (ctF (ctD d) most) c=l.foldl (λc k=>c+Ih d k) c)):=by
   intro l
   induction l with
   |nil=>intro c _ h;exact⟨h,adX _,λ_=>rfl⟩
   |cons k l ih=>
    intro c ha h;rw[aei,bae] at ha;obtain⟨i1,i2,i3⟩:=Rq d k (most-c) ha.1;simp only[aea];rw[ctF]
    by_cases hm:c<=most
    .rw[if_pos hm];obtain⟨j1,j2,j3⟩:=ih (c+ctD d k (most-c)) ha.2 (by omega)
     by_cases hb:ctD d k (most-c)<=most-c
     .rw[i3 hb] at j1 j2 j3 ⊢;exact⟨j1,j2,j3⟩
     rw[I6 l _ (by omega)];have:=Ga (zS d) l<|c+Ih d k;exact⟨by omega,by omega,λh=>absurd h<|by omega⟩
    rw[if_neg hm,I6 l _ (by omega)];have:=Ga (zS d) l<|c+Ih d k;have:=zS d k;exact⟨by omega,by omega,λh=>absurd h<|by omega⟩
  rw[ctD,Ih]
  simp_all
def vaE(t:ZTE):Bool:=shD 12 t&&aai (Ih 12 t<=40)
theorem Ii{α:Type}[Inhabited α]{f:Int->α->Int}{l:List α}{i:Nat}(h:i<l.length)(c:Int):(l.take<|i+1).foldl f c=f ((l.take i).foldl f c) (l.getD i default):=by
 rw[List.take_add_one,geq h]
 grind
theorem XR(t:ZTE):(⟨t.out.Op,t.out.Name,t.out.Kids⟩:aa)=t.out:=rfl
theorem UZ{e:aa}{d:Nat}{v:Int}(hv:v=Ro e.Op):Z1 (bif ((d:Int)==(0:Int)) then aag aae else bif ((e.Kids.length:Int) != v) then aag aae else adU (gK e.Name) λv6=>bif (!((e.Op==(1:Int))==v6)) then aag aae else bif (e.Op != (1:Int)) then aag (!decide (e.Name=(⟨#[]⟩:BA))) else aag aaf) (· = !(aai (d≠0)&&okE e)):=by
 subst hv;refine .bif (λh=>.pure ?_) λh0=>.bif (λh=>.pure ?_) λh1=>(UY e.Name).bind λw hw=>?_
 .simp_all
 .unfold okE
  simp_all
 subst hw;have hd:d≠0:=λe=>by subst e;simp at h0
 have h1:(e.Kids.length:Int)=Ro e.Op:=by simpa using h1
 unfold okE;rw[decide_eq_true hd,decide_eq_true h1,Og];refine .bif (λh=>.pure ?_) λh=>.bif (λh2=>.pure ?_) λh2=>.pure ?_
 .rw[show(aai (e.Op=1)==nmB e.Name)=aaf by simpa using h];rfl
 .rw[show(aai (e.Op=1)==nmB e.Name)=aae by simpa using h,decide_eq_false (show ¬ e.Op=1 by simpa using h2)];simp
 simp_all
theorem U0:∀(d n:Nat)(t:ZTE),d<n->d<=12->Z1 (gL n t.out (d:Int)) (· =szD d t)
 |d,0,_,h,_=>absurd h (ad3 _)
 |d,n+1,t,h,h12=>by
  show Z1 (m5 (gL n) t.out (d:Int)) _;unfold m5;refine(Wd t.out.Op).bind λv hv=>?_;refine Z1.sum (PS:=λ_=>d≠0/\okE t.out=aae) (PW:=(· =szD d t)) ((UZ hv).bind λb hb=>.bif (λh=>.pure ?_) λh=>.pure ?_) λ_ ⟨hd,ho⟩=>?_
  .rw[hb] at h;show(41:Int)=szD d t
   cases d with
   |zero=>rfl
   |succ d=>
    rw[szD,if_neg]
    simp_all
  .simp_all
  obtain⟨d,rfl⟩:∃c,d=c+1:=⟨d-1,by omega⟩;have hk:=I5 ho;rw[szD,if_pos ho];refine Z1.bind (P:=(· =t.out.Kids.foldl (szF<|szD d) 1)) ?_ λv hv=>.pure hv;refine Z1.loop (λz=>∃i:Nat,i<=t.out.Kids.length/\z=((i:Int),(t.out.Kids.take i).foldl (szF<|szD d) 1)/\(t.out.Kids.take i).foldl (szF<|szD d) 1<=40/\0<=(t.out.Kids.take i).foldl (szF<|szD d) 1) (λz=>((t.out.Kids.length:Int)-z.1).toNat) ⟨0,by omega,rfl,by simp,by simp⟩ λz ⟨i,i1,i2,i3,i4⟩=>?_;subst i2;unfold vu J;simp only[tnn];refine .bifD (λhlt=>?_) λhlt=>.pure ?_
  .have hil:i<t.out.Kids.length:=by omega
   have ht:=Ii (f:=szF<|szD d) hil 1;rw[szF,if_neg (by omega)] at ht;obtain⟨b1,b2,_,_⟩:=Rp d<|t.out.Kids.getD i aad;refine .gdD ⟨by omega,hlt⟩<|.gdI (by omega) ?_;rw[XR,show((d+1:Nat):Int)-1=(d:Int) by omega];refine(U0 d n _ (by omega)<|by omega).bind λv hv=>?_;subst hv;refine .gdI (by omega)<|.bifD (λhb=>.pure ?_) λhb=>.gdI (by omega)<|.pure ⟨⟨i+1,by omega,by rw[ht];rfl,by rw[ht];omega,by rw[ht];omega⟩,by simp only[];omega⟩;show _=t.out.Kids.foldl (szF<|szD d) 1;have e:=aer (i+1) t.out.Kids
   conv=>rhs;rw[<- e,List.foldl_append,ht,LJ _ _ hb]
  grind
theorem XT(t:ZTE):Z1 (jh t.out) (· =vaE t):=by
 unfold jh;refine Z1.bind (P:=(· =szD 12 t)) (ru 12 λm hm=>U0 12 m t hm<|by omega) λv hv=>.pure ?_;subst hv;unfold vaE;rw[Bool.eq_iff_iff,bae,dte,dte];exact(Rp 12 t).2.2.1
theorem Rs:∀(d n:Nat)(t:ZTE),d<n->d<=12->Z1 (eT n t.out (d:Int)) (· =shD d t)
 |d,0,_,h,_=>absurd h (ad3 _)
 |d,n+1,t,h,h12=>by
  show Z1 (gP (eT n) t.out (d:Int)) _;unfold gP;have test:Z1 (bif aai ((d:Int)<(1:Int)) then aag aae else adU (fF t.out.Op) λv4=>bif ((t.out.Kids.length:Int) != v4) then aag aae else adU (fO t.out.Name) λv6=>bif (!((t.out.Op==(1:Int))==v6)) then aag aae else bif (t.out.Op != (1:Int)) then aag (!decide (t.out.Name=(⟨#[]⟩:BA))) else aag aaf) (· = !(aai (d≠0)&&okE t.out)):=by
   refine .bifD (λh=>.pure ?_) λh0=>(XQ _).bind λv4 h4=>?_
   .grind
   have hh:=UZ (e:=t.out) (d:=d) h4;rw[show((d:Int)==(0:Int))=aaf from (Og _ _).trans (decide_eq_false<|by omega)] at hh;obtain⟨w,w1,w2⟩:=UY t.out.Name;obtain⟨w',w1',w2'⟩:=XP t.out.Name
   simp_all
  refine Z1.sum (PS:=λ_=>d≠0/\okE t.out=aae) (PW:=(· =shD d t)) (test.bind λb hb=>.bif (λh=>.pure ?_) λh=>.pure ?_) λ_ ⟨hd,ho⟩=>?_
  .rw[hb] at h;show aaf=shD d t
   cases d with
   |zero=>rfl
   |succ d=>
    rw[shD]
    simp_all
  .simp_all
  obtain⟨d,rfl⟩:∃c,d=c+1:=⟨d-1,by omega⟩;have hk:=I5 ho;rw[shD,ho,adZ];refine Z1.sum (PS:=λ_=>t.out.Kids.all (shD d)=aae) (PW:=(· =t.out.Kids.all (shD d))) ?_ λ_ h=>.pure h.symm;refine Z1.loop (λz=>∃i:Nat,i<=t.out.Kids.length/\z=(i:Int)/\∀j,j<i->shD d (t.out.Kids.getD j aad)=aae) (λz=>((t.out.Kids.length:Int)-z).toNat) ⟨0,by omega,rfl,λj hj=>absurd hj<|by omega⟩ λz ⟨i,i1,i2,i3⟩=>?_;subst i2;unfold kP J;simp only[tnn];refine .bifD (λhlt=>?_) λhlt=>.pure ?_
  .refine .gdD ⟨by omega,hlt⟩<|.gdI (by omega) ?_;rw[show((d+1:Nat):Int)-1=(d:Int) by omega];refine(Rs d n _ (by omega)<|by omega).bind λv hv=>.bif (λhb=>.pure ?_) λhb=>.gdI (by omega)<|.pure ⟨⟨i+1,by omega,rfl,λj hj=>?_⟩,by omega⟩
   .show aaf=_
    symm
    rw[aeh];intro ha;have:=adW.1 ha _<|getD_in (show i<t.out.Kids.length by omega);rw[<- hv] at this;rw[this] at hb
    cases hb
   grind
  show t.out.Kids.all (shD d)=aae;rw[adW];intro k hkm;obtain⟨j,hj,rfl⟩:=adY hkm
  grind
theorem I7:∀(d:Nat)(t:ZTE),shD d t=aae->Ih d t<3 ^ d
 |0,_,h=>by simp[shD] at h
 |d+1,t,h=>by
  rw[shD,bae] at h;have hk:=I5 h.1;have hp:(1:Int)<=3 ^ d:=by
   have:=aeA (n:=3) (by omega)<|Nat.zero_le d;have e:(3:Int) ^ d=((3 ^ d:Nat):Int):=by simp
   rw[e];omega
  rw[Ih,Int.pow_succ]
  match t.out.Kids,hk,h.2 with
  |[],_,_=>simp only[aes];omega
  |[a],_,h2=>
   have:=I7 d a (by simpa using h2);simp only[aea,aes];omega
  |[a,b],_,h2=>
   simp only[aei,List.all_nil,Bool.and_true,bae] at h2;have:=I7 d a h2.1;have:=I7 d b h2.2;simp only[aea,aes];omega
  |a::b::c::l,hk,_=>grind
theorem XU:∀(d n:Nat)(t:ZTE)(most:Int),d<n->d<=12->shD d t=aae->0<=most->most<=40->Z1 (eX n t.out most) (· =ctD d t most)
 |d,0,_,_,h,_,_,_,_=>absurd h (ad3 _)
 |0,_+1,_,_,_,_,h,_,_=>by simp[shD] at h
 |d+1,n+1,t,most,h,h12,hs,h0,h40=>by
  show Z1 (gQ (eX n) t.out most) _;unfold gQ;have hs':=hs;rw[shD,bae] at hs;have hk:=I5 hs.1;rw[ctD];refine Z1.bind (P:=(· =t.out.Kids.foldl (ctF (ctD d) most) 1)) ?_ λv hv=>.pure hv;refine Z1.loop (λz=>∃i:Nat,i<=t.out.Kids.length/\z=((i:Int),(t.out.Kids.take i).foldl (ctF (ctD d) most) 1)/\0<=(t.out.Kids.take i).foldl (ctF (ctD d) most) 1) (λz=>((t.out.Kids.length:Int)-z.1).toNat) ⟨0,by omega,rfl,by simp⟩ λz ⟨i,i1,i2,i4⟩=>?_;subst i2;unfold l5 J;simp only[tnn];refine Z1.bind (P:=(· =aai (i<t.out.Kids.length/\(t.out.Kids.take i).foldl (ctF (ctD d) most) 1<=most))) (.bifD (λhlt=>.pure<|decide_eq_decide.2 ⟨λh=>⟨by omega,h⟩,λh=>h.2⟩) λhlt=>.pure (decide_eq_false<|by omega).symm) λb hb=>.bif (λhbt=>?_) λhbf=>.pure ?_
  .obtain⟨hil,hle⟩:=of_decide_eq_true<|hb.symm.trans hbt;have ht:=Ii (f:=ctF (ctD d) most) hil 1;rw[ctF,if_pos hle] at ht;have hsk:=adW.1 hs.2 _<|getD_in hil;obtain⟨b1,b2,_⟩:=Rq d (t.out.Kids.getD i aad) (most-(t.out.Kids.take i).foldl (ctF (ctD d) most) 1) hsk;have b3:=I7 d _ hsk;have b4:(3:Int) ^ d<=531441:=by
    have:=aeA (n:=3) (by omega) (show d<=12 by omega);have e:(3:Int) ^ d=((3 ^ d:Nat):Int):=by simp
    rw[e];have : 3 ^ 12=531441:=by decide
    omega
   refine .gdD ⟨by omega,by omega⟩<|.gdI (by omega)<|(XU d n _ _ (by omega) (by omega) hsk (by omega)<|by omega).bind λv hv=>?_;subst hv;exact .gdI (by omega)<|.gdI (by omega)<|.pure ⟨⟨i+1,by omega,by simp_all,by omega⟩,by omega⟩
  have hn:=of_decide_eq_false<|hb.symm.trans hbf;show _=t.out.Kids.foldl (ctF (ctD d) most) 1
  by_cases hil:i<t.out.Kids.length
  .have e:=aer i t.out.Kids
   conv=>rhs;rw[<- e,List.foldl_append]
   rw[I6 (t.out.Kids.drop i) _ (by omega)]
  grind
theorem XV(t:ZTE):Z1 (cG t.out) (· =vaE t):=by
 unfold cG vaE;refine Z1.bind (P:=(· =shD 12 t)) (ru 12 λm hm=>Rs 12 m t hm<|by omega) λb hb=>?_;refine Z1.bind (P:=(· =(shD 12 t&&aai (Ih 12 t<=40)))) (.bif (λh=>?_) λh=>.pure<|by rw[<- hb,h];rfl) λv hv=>.pure hv;rw[hb] at h;refine Z1.bind (P:=(· =ctD 12 t 40)) (ru 12 λm hm=>XU 12 m t 40 hm (by omega) h (by omega)<|by omega) λv hv=>.pure ?_;subst hv;obtain⟨b1,b2,b3⟩:=Rq 12 t 40 h
 grind
def vaR(r:ah):Bool:=aai (1<=r.Kind)&&aai (r.Kind<=3)&&vaE r.Expr.inn
def vaM(m:List ah):Bool:=aai (1<=m.length)&&aai (m.length<=5)&&m.all vaR
theorem LK{m:List ah}(hl:m.length<=4000000):Z1 (dJ m) (· =vaM m):=by
 unfold dJ vaM;refine(C0 _ _ _).bind λv hv=>?_;subst hv;refine Z1.bind (P:=(· =(aai (1<=m.length)&&aai (m.length<=5)&&m.all vaR))) (.bif (λh=>?_) λh=>.pure ?_) λv hv=>.pure hv
 .have hb:(aai (1<=m.length)&&aai (m.length<=5))=aae:=by
   simp only[bae,dte] at h ⊢;omega
  rw[hb,adZ];unfold aL aQ;refine Z1.bind (P:=(· = !m.all vaR)) (Z1.bind (P:=λv:Int=>(0<=v↔m.all vaR=aaf)) ?_ λv hv=>.pure ?_) λv hv=>.pure (by rw[hv,Bool.not_not])
  .refine Z1.sum (PS:=λ_=>m.all vaR=aae) (PW:=λv:Int=>(0<=v↔m.all vaR=aaf)) ?_ λ_ hn=>.pure (by rw[hn];simp);refine Z1.loop (λz=>∃i:Nat,i<=m.length/\z=(i:Int)/\∀j,j<i->vaR (m.getD j aad)=aae) (λz=>((m.length:Int)-z).toNat) ⟨0,by omega,rfl,λj hj=>by omega⟩ λz ⟨i,h1,h2,h3⟩=>?_;subst h2;unfold bC nB J;simp only[tnn];refine .bifD (λhk=>.gdD ⟨by omega,hk⟩ (Z1.bind (P:=(· = !vaR (m.getD i aad))) ((C0 _ _ _).bind λw hw=>?_) λw hw=>.bif (λhb=>.pure ⟨λ_=>?_,λ_=>by omega⟩) λhb=>.gdI (by omega)<|.pure ⟨⟨i+1,by omega,rfl,λj hj=>?_⟩,by omega⟩)) λhk=>.pure ?_
   .subst hw;refine Z1.bind (P:=(· = !vaR (m.getD i aad))) (.bif (λhn=>.pure ?_) λhn=>(XT (m.getD i aad).Expr.inn).bind λu hu=>.pure ?_) λu hu=>.pure hu
    .unfold vaR;rw[show(aai (1<=(m.getD i aad).Kind)&&aai ((m.getD i aad).Kind<=3))=aaf from (ad0 _).mp hn]
     rfl
    unfold vaR;rw[show(aai (1<=(m.getD i aad).Kind)&&aai ((m.getD i aad).Kind<=3))=aae from (ad1 _).mp hn,hu]
    rfl
   .rw[aen];refine⟨m.getD i aad,getD_in (by omega),?_⟩;rw[hw] at hb;simpa using hb
   .by_cases e:j=i
    .subst e;rw[hw] at hb;simpa using hb
    exact h3 j (by omega)
   show m.all vaR=aae;rw[adW];intro r hr;obtain⟨j,hj,rfl⟩:=adY hr;have:=h3 j (by omega)
   rwa [gdq,geq hj] at this
  show aai ((0:Int)<=v)=_
  cases h:m.all vaR with
  |true=>exact decide_eq_false λe=>by rw[hv.1 e] at h;cases h
  |false=>exact decide_eq_true (hv.2 h)
 grind
theorem Wh{m:List ah}(hl:m.length<=4000000):Z1 (dN m) (· =vaM m):=by
 unfold dN;refine Z1.sum (PS:=λ_=>∀j,j<m.length->j<=5->vaR (m.getD j aad)=aae) (PW:=(· =vaM m)) ?_ λ_ h=>?_
 .refine Z1.loop (λz=>∃i:Nat,i<=m.length/\z=(i:Int)/\∀j,j<i->vaR (m.getD j aad)=aae) (λz=>((m.length:Int)-z).toNat) ⟨0,by omega,rfl,λj hj=>by omega⟩ λz ⟨i,h1,h2,h3⟩=>?_;subst h2;unfold iI J;simp only[tnn];refine Z1.bind (P:=(· =aai (i<m.length/\i<=5))) (.bifD (λhlt=>.pure<|decide_eq_decide.2 ⟨λh=>⟨by omega,by omega⟩,λh=>by omega⟩) λhlt=>.pure (decide_eq_false<|by omega).symm) λb hb=>.bif (λhbt=>?_) λhbf=>.pure ?_
  .obtain⟨hil,hle⟩:=of_decide_eq_true<|hb.symm.trans hbt;refine .gdD ⟨by omega,by omega⟩ (Z1.bind (P:=(· = !(aai (1<=(m.getD i aad).Kind)&&aai ((m.getD i aad).Kind<=3)))) (.bifD (λh=>.pure ?_) λh=>.pure ?_) λw hw=>Z1.bind (P:=(· = !vaR (m.getD i aad))) (.bif (λhn=>.pure ?_) λhn=>(XV (m.getD i aad).Expr.inn).bind λu hu=>.pure ?_) λu hu=>.bif (λhu2=>.pure ?_) λhu2=>.gdI (by omega)<|.pure ⟨⟨i+1,by omega,rfl,λj hj=>?_⟩,by omega⟩)
   .rw[decide_eq_false (show ¬ 1<=(m.getD i aad).Kind by omega)];rfl
   .rw[decide_eq_true (show 1<=(m.getD i aad).Kind by omega),adZ,<- decide_not];exact decide_eq_decide.2 (by omega)
   .unfold vaR;rw[hw] at hn;rw[show(aai (1<=(m.getD i aad).Kind)&&aai ((m.getD i aad).Kind<=3))=aaf from (ad0 _).mp hn]
    rfl
   .unfold vaR;rw[hw] at hn;rw[show(aai (1<=(m.getD i aad).Kind)&&aai ((m.getD i aad).Kind<=3))=aae from (ad1 _).mp hn,hu]
    rfl
   .show aaf=vaM m
    symm
    unfold vaM;rw[Bool.and_eq_false_iff];refine .inr<|aen.2 ⟨m.getD i aad,getD_in hil,?_⟩;rw[hu] at hu2;simpa using hu2
   by_cases e:j=i
   .subst e;rw[hu] at hu2;simpa using hu2
   exact h3 j (by omega)
  grind
 refine Z1.bind (P:=(· =vaM m)) (.bifD (λh0=>.pure ?_) λh0=>.pure ?_) λv hv=>.pure hv
 .unfold vaM;rw[decide_eq_true (show 1<=m.length by omega),adZ]
  by_cases h5:m.length<=5
  .rw[decide_eq_true h5,decide_eq_true (show(m.length:Int)<=5 by omega),adZ]
   symm
   rw[adW];intro r hr;obtain⟨j,hj,rfl⟩:=adY hr;have:=h j hj (by omega)
   rwa [gdq,geq hj] at this
  grind
 unfold vaM
 simp_all
theorem XW:∀(d:Nat)(t:ZTE),shD d t=aae->VT t
 |0,_,h=>by simp[shD] at h
 |d+1,.mk op nm ks,h=>by
  rw[shD,bae] at h;obtain⟨h1,h2⟩:=h;have hall:∀l:List ZTE,l.all (shD d)=aae->VL l:=by
   intro l
   induction l with
   |nil=>intro _;rw[VL];trivial
   |cons a l ih=>
    intro ha;rw[aei,bae] at ha;rw[VL];exact⟨XW d a ha.1,ih ha.2⟩
  have hks:=hall ks h2;unfold okE at h1;rw[bae,bae] at h1;obtain⟨⟨g1,g2⟩,_⟩:=h1;have g1:(ks.length:Int)=Ro op:=of_decide_eq_true g1;have g2:(aai (op=1)==nmB nm)=aae:=g2;rw[VT];unfold Ro at g1
  by_cases o1:op=1
  .subst o1;refine .inl ⟨rfl,?_⟩;have : nmB nm=aae:=by simpa using g2
   exact I4.1 this
  grind
theorem U1{m:List ah}(h:vaM m=aae):(∀r∈m,VT r.Expr.inn)/\m.length<=5:=by
 unfold vaM at h;simp only[bae,dte] at h;refine⟨λr hr=>?_,h.1.2⟩;have:=adW.1 h.2 r hr;unfold vaR vaE at this;simp only[bae] at this;exact XW 12 _ this.2.1
def Le{α:Type}(a b:Option α):Prop:=∀q,a=aag q->b=aag q
theorem Le.refl{α:Type}(a:Option α):Le a a:=λ_ h=>h
theorem Le.bind{α β:Type}{a b:Option α}{k l:α->Option β}(h:Le a b)(hk:∀x,Le (k x)<|l x):Le (a.bind k) (b.bind l):=λq hq=>by
 obtain⟨x,h1,h2⟩:=aeB.1 hq;exact aeB.2 ⟨x,h x h1,hk x q h2⟩
theorem Le.gd{α:Type}{a b:Option α}(c:Bool)(h:Le a b):Le (gd c a) (gd c b):=λq hq=>by
 obtain⟨h1,h2⟩:=gdL hq;rw[gJ h1];exact h q h2
theorem Le.bif{α:Type}{a b a' b':Option α}(c:Bool)(h:Le a a')(h':Le b b'):Le (bif c then a else b) (bif c then a' else b'):=by
 cases c
 .exact h'
 exact h
theorem Le.ifc{α:Type}{a b a' b':Option α}(c:Prop)[Decidable c](h:Le a a')(h':Le b b'):Le (if c then a else b) (if c then a' else b'):=by
 split
 .exact h
 exact h'
theorem Le.sumK{S W:Type}{a b:Option (S ⊕ W)}{k l:S->Option W}(h:Le a b)(hk:∀x,Le (k x)<|l x):Le (sumK a k) (sumK b l):=λq hq=>by
 cases a with
 |none=>cases hq
 |some z=>
  rw[h z rfl]
  cases z with
  |inl s=>exact hk s q hq
  |inr w=>exact hq
def pV{S E:Type}(n:Nat)(step:S->Option (S ⊕ E))(s:S):Option E:=
 Nat.rec (motive:=λ_=>S->Option E) (λ_=>aah) (λ_ ih s=>match step s with
  |none=>aah
  |some (.inl s')=>ih s'
  |some (.inr e)=>aag e) n s
theorem Le.loop{S E:Type}{n:Nat}{step step':S->Option (S ⊕ E)}(h:∀s,Le (step s)<|step' s)(s:S):Le (pV n step s) (aA step' s):=by
 induction n generalizing s with
 |zero=>intro q hq;cases hq
 |succ n ih=>
  intro q hq;rw[Bz]
  change (match step s with
   |none=>aah
   |some (.inl s')=>pV n step s'
   |some (.inr e)=>aag e)=aag q at hq
  match hs:step s with
  |none=>rw[hs] at hq;cases hq
  |some (.inl s')=>
   rw[hs] at hq;rw[h s _ hs];exact ih s' q hq
  |some (.inr e)=>
   rw[hs] at hq;rw[h s _ hs];exact hq
def YP{α:Type}(e:Bool)(_ b:Option α):Option α:=bif e then aah else b
theorem Le.nilK{α:Type}{e:Bool}{a b a' b':Option α}(_:Le a a')(h:Le b b'):Le (YP e a b) (nilK e a' b'):=λq hq=>by
 cases e with
 |true=>cases hq
 |false=>
  unfold Go.Proofs.YtoagamanbofngaaGreatDoor.nilK;exact h q hq
def mP(code:LI):Option ae:=adU (bif aai ((2000:Int)<(code.length:Int)) then gd (aai<|0<=(0:Int)/\(0:Int)<=(2000:Int)/\(2000:Int)<=(code.length:Int)) <|aag ((code.drop (0:Int).toNat).take<|(2000:Int).toNat-(0:Int).toNat) else aag code) λs1=>aag (⟨s1,(0:Int)⟩:ae)
def av(r_:ae)(n:Int):Option (ae×Int):=gd (ZU .i64<|r_.p+(1:Int)) <|adU (bif aai (n<(1:Int)) then aag aae else aag ((r_.b.length:Int)==(0:Int))) λs2=>bif s2 then aag ((⟨r_.b,(r_.p+(1:Int))⟩:ae),(0:Int)) else gd (ZU .i64<|(r_.p+(1:Int))-(1:Int)) <|bif aai (((r_.p+(1:Int))-(1:Int))<(r_.b.length:Int)) then gd (aai<|0<=((r_.p+(1:Int))-(1:Int))/\((r_.p+(1:Int))-(1:Int))<(r_.b.length:Int)) <|gd (ZU .i64<|J r_.b<|(r_.p+(1:Int))-(1:Int)) <|gd (aai<|n≠0) <|aag ((⟨r_.b,(r_.p+(1:Int))⟩:ae),((J r_.b<|(r_.p+(1:Int))-(1:Int)).tmod n)) else gd (aai<|(r_.b.length:Int)≠0) <|gd (aai<|0<=(((r_.p+(1:Int))-(1:Int)).tmod (r_.b.length:Int))/\(((r_.p+(1:Int))-(1:Int)).tmod (r_.b.length:Int))<(r_.b.length:Int)) <|gd (ZU .i64<|J r_.b<|((r_.p+(1:Int))-(1:Int)).tmod (r_.b.length:Int)) <|gd (ZU .i64<|(J r_.b<|((r_.p+(1:Int))-(1:Int)).tmod (r_.b.length:Int))*(131:Int)) <|gd (ZU .i64<|((r_.p+(1:Int))-(1:Int))*(7:Int)) <|gd (ZU .i64<|(((r_.p+(1:Int))-(1:Int))*(7:Int))+(3:Int)) <|gd (aai<|0<=(((((r_.p+(1:Int))-(1:Int))*(7:Int))+(3:Int)).tmod (r_.b.length:Int))/\(((((r_.p+(1:Int))-(1:Int))*(7:Int))+(3:Int)).tmod (r_.b.length:Int))<(r_.b.length:Int)) <|gd (ZU .i64<|J r_.b<|((((r_.p+(1:Int))-(1:Int))*(7:Int))+(3:Int)).tmod (r_.b.length:Int)) <|gd (ZU .i64<|(J r_.b<|((((r_.p+(1:Int))-(1:Int))*(7:Int))+(3:Int)).tmod (r_.b.length:Int))*(1117:Int)) <|gd (ZU .i64<|((J r_.b<|((r_.p+(1:Int))-(1:Int)).tmod (r_.b.length:Int))*(131:Int))+((J r_.b<|((((r_.p+(1:Int))-(1:Int))*(7:Int))+(3:Int)).tmod (r_.b.length:Int))*(1117:Int))) <|gd (ZU .i64<|((r_.p+(1:Int))-(1:Int))*(29:Int)) <|gd (ZU .i64<|(((J r_.b<|((r_.p+(1:Int))-(1:Int)).tmod (r_.b.length:Int))*(131:Int))+((J r_.b<|((((r_.p+(1:Int))-(1:Int))*(7:Int))+(3:Int)).tmod (r_.b.length:Int))*(1117:Int)))+(((r_.p+(1:Int))-(1:Int))*(29:Int))) <|gd (ZU .i64<|((r_.p+(1:Int))-(1:Int)).tdiv (r_.b.length:Int)) <|gd (ZU .i64<|(((r_.p+(1:Int))-(1:Int)).tdiv (r_.b.length:Int))*(53:Int)) <|gd (ZU .i64<|((((J r_.b<|((r_.p+(1:Int))-(1:Int)).tmod (r_.b.length:Int))*(131:Int))+((J r_.b<|((((r_.p+(1:Int))-(1:Int))*(7:Int))+(3:Int)).tmod (r_.b.length:Int))*(1117:Int)))+(((r_.p+(1:Int))-(1:Int))*(29:Int)))+((((r_.p+(1:Int))-(1:Int)).tdiv (r_.b.length:Int))*(53:Int))) <|gd (aai<|(64:Int)≠0) <|gd (ZU .i64<|(((((J r_.b<|((r_.p+(1:Int))-(1:Int)).tmod (r_.b.length:Int))*(131:Int))+((J r_.b<|((((r_.p+(1:Int))-(1:Int))*(7:Int))+(3:Int)).tmod (r_.b.length:Int))*(1117:Int)))+(((r_.p+(1:Int))-(1:Int))*(29:Int)))+((((r_.p+(1:Int))-(1:Int)).tdiv (r_.b.length:Int))*(53:Int))).tdiv (64:Int)) <|adU (aag<|W7 .i64 (((((J r_.b<|((r_.p+(1:Int))-(1:Int)).tmod (r_.b.length:Int))*(131:Int))+((J r_.b<|((((r_.p+(1:Int))-(1:Int))*(7:Int))+(3:Int)).tmod (r_.b.length:Int))*(1117:Int)))+(((r_.p+(1:Int))-(1:Int))*(29:Int)))+((((r_.p+(1:Int))-(1:Int)).tdiv (r_.b.length:Int))*(53:Int)))<|(((((J r_.b<|((r_.p+(1:Int))-(1:Int)).tmod (r_.b.length:Int))*(131:Int))+((J r_.b<|((((r_.p+(1:Int))-(1:Int))*(7:Int))+(3:Int)).tmod (r_.b.length:Int))*(1117:Int)))+(((r_.p+(1:Int))-(1:Int))*(29:Int)))+((((r_.p+(1:Int))-(1:Int)).tdiv (r_.b.length:Int))*(53:Int))).tdiv (64:Int)) λw27=>gd (aai<|n≠0) <|aag ((⟨r_.b,(r_.p+(1:Int))⟩:ae),(w27.tmod n))
def bq(r_:ae)(list:LI):Option (ae×Int):=adU (av (⟨r_.b,r_.p⟩:ae) (list.length:Int)) λv1=>gd (aai<|0<=v1.2/\v1.2<(list.length:Int)) <|aag ((⟨v1.1.b,v1.1.p⟩:ae),(J list v1.2))
def o5(r_:ae)(list:List BA):Option (ae×BA):=adU (av (⟨r_.b,r_.p⟩:ae) (list.length:Int)) λv1=>gd (aai<|0<=v1.2/\v1.2<(list.length:Int)) <|aag ((⟨v1.1.b,v1.1.p⟩:ae),(J list v1.2))
def mQ:Option (List BA):=aag ([(⟨#[120,61,49,59,97,61,121,124,121,61,49,59,97,61,120]⟩:BA),(⟨#[120,61,49,59,102,101,110,99,101,59,97,61,121,124,121,61,49,59,102,101,110,99,101,59,97,61,120]⟩:BA),(⟨#[120,61,49,59,121,61,49,124,97,61,121,59,98,61,120]⟩:BA),(⟨#[120,61,49,59,121,61,49,124,97,61,121,59,102,101,110,99,101,59,98,61,120]⟩:BA),(⟨#[120,61,49,59,102,101,110,99,101,59,121,61,49,124,97,61,121,59,98,61,120]⟩:BA),(⟨#[97,61,120,59,121,61,49,124,97,61,121,59,120,61,49]⟩:BA),(⟨#[97,61,120,59,121,61,97,124,97,61,121,59,120,61,97]⟩:BA),(⟨#[120,61,49,124,120,61,50,124,97,61,120,59,98,61,120]⟩:BA),(⟨#[120,61,49,124,121,61,49,124,97,61,120,59,98,61,121,124,97,61,121,59,98,61,120]⟩:BA),(⟨#[120,61,49,124,97,61,120,59,121,61,49,124,97,61,121,59,98,61,120]⟩:BA),(⟨#[120,61,49,124,121,61,49,124,97,61,120,59,98,61,121]⟩:BA),(⟨#[97,61,120,58,49,124,97,61,120,58,50,124,120,61,51]⟩:BA),(⟨#[120,61,49,59,97,61,120,59,98,61,121,124,121,61,49,59,97,61,121,59,98,61,120]⟩:BA),(⟨#[120,61,50,59,121,61,49,124,121,61,50,59,120,61,49]⟩:BA),(⟨#[97,61,120,58,49,59,98,61,121,124,97,61,121,58,49,59,98,61,120]⟩:BA),(⟨#[120,61,49,59,120,61,50,124,97,61,120,59,98,61,120]⟩:BA),(⟨#[120,61,49,59,121,61,49,59,97,61,122,124,122,61,49,59,97,61,121,59,98,61,120]⟩:BA),(⟨#[97,61,120,58,49,124,98,61,120,58,49]⟩:BA),(⟨#[102,101,110,99,101]⟩:BA),(⟨#[]⟩:BA),(⟨#[120,61,49,59,97,61,121,124,121,61,49,59,102,101,110,99,101,59,97,61,120]⟩:BA)]:List BA)
def jZ(s:BA)(c:Int):LS ((List BA)×Int×Int) (List BA):=λs5=>bif aai (s5.2.1<=(s.size:Int)) then adU (adU (bif (s5.2.1==(s.size:Int)) then aag aae else gd (aai<|0<=s5.2.1/\s5.2.1<(s.size:Int)) <|aag<|((s.data.getD s5.2.1.toNat 0).toNat:Int)==c) λs10=>bif s10 then gd (aai<|0<=s5.2.2/\s5.2.2<=s5.2.1/\s5.2.1<=(s.size:Int)) <|gd (aR (s5.1.length+1) 16) <|gd (ZU .i64<|s5.2.1+(1:Int)) <|aag ((s5.1++[(s.extract s5.2.2.toNat s5.2.1.toNat)]),(s5.2.1+(1:Int))) else aag (s5.1,s5.2.2)) λs9=>gd (ZU .i64<|s5.2.1+(1:Int)) <|aag (.inl (s9.1,(s5.2.1+(1:Int)),s9.2)) else aag (.inr s5.1)
def fH(s:BA)(c:Int):Option (List BA):=adU (aA (jZ s c) (([]:List BA),(0:Int),(0:Int))) λs1=>aag s1
def cu(s:BA)(at_:Int)(from_:Int)(most:Int):Option Int:=adU (bif aai ((s.size:Int)<=at_) then aag aae else gd (aai<|0<=at_/\at_<(s.size:Int)) <|aag<|aai<|((s.data.getD at_.toNat 0).toNat:Int)<from_) λs1=>adU (bif s1 then aag aae else gd (aai<|0<=at_/\at_<(s.size:Int)) <|gd (ZU .u8<|((s.data.getD at_.toNat 0).toNat:Int)-from_) <|gd (ZU .i64<|((s.data.getD at_.toNat 0).toNat:Int)-from_) <|aag<|aai<|most<(((s.data.getD at_.toNat 0).toNat:Int)-from_)) λs4=>bif s4 then aag (-1:Int) else gd (aai<|0<=at_/\at_<(s.size:Int)) <|gd (ZU .u8<|((s.data.getD at_.toNat 0).toNat:Int)-from_) <|gd (ZU .i64<|((s.data.getD at_.toNat 0).toNat:Int)-from_) <|aag<|((s.data.getD at_.toNat 0).toNat:Int)-from_
def mR(s:BA):Option ZW:=bif aai (s=(⟨#[102,101,110,99,101]⟩:BA)) then aag (⟨(4:Int),(0:Int),(0:Int),(0:Int)⟩:ZW) else adU (cu s (0:Int) (97:Int) (2:Int)) λv2=>adU (cu s (0:Int) (120:Int) (2:Int)) λv3=>adU (bif aai ((0:Int)<=v2) then aag ((s.size:Int)==(3:Int)) else aag aaf) λs4=>bif s4 then adU (cu s (2:Int) (120:Int) (2:Int)) λv7=>aag (⟨(1:Int),v7,v2,(0:Int)⟩:ZW) else adU (bif aai ((0:Int)<=v2) then aag ((s.size:Int)==(5:Int)) else aag aaf) λs8=>bif s8 then adU (cu s (2:Int) (120:Int) (2:Int)) λv11=>adU (cu s (4:Int) (48:Int) (3:Int)) λv12=>aag (⟨(5:Int),v11,v2,v12⟩:ZW) else adU (bif aai ((0:Int)<=v3) then adU (cu s (2:Int) (97:Int) (2:Int)) λv15=>aag (aai<|(0:Int)<=v15) else aag aaf) λs13=>bif s13 then adU (cu s (2:Int) (97:Int) (2:Int)) λv17=>aag (⟨(3:Int),v3,v17,(0:Int)⟩:ZW) else adU (cu s (2:Int) (48:Int) (3:Int)) λv18=>aag (⟨(2:Int),v3,(0:Int),v18⟩:ZW)
def mi(p:List<|List ZW)(s4:Int×BA):LS (Int×BA) BA:=λs13=>gd (aai<|0<=s4.1/\s4.1<(p.length:Int)) <|bif aai (s13.1<((J p s4.1).length:Int)) then adU (bif aai ((0:Int)<s13.1) then gd (aai<|s13.2.size+(⟨#[59]⟩:BA).size<=9223372036854775807) <|aag (s13.2++(⟨#[59]⟩:BA)) else aag s13.2) λs17=>gd (aai<|0<=s13.1/\s13.1<((J p s4.1).length:Int)) <|adU (tu<|J (J p s4.1) s13.1) λv21=>gd (aai<|s17.size+v21.size<=9223372036854775807) <|gd (ZU .i64<|s13.1+(1:Int)) <|aag (.inl ((s13.1+(1:Int)),(s17++v21))) else aag (.inr s13.2)
def nP(p:List<|List ZW):LS (Int×BA) BA:=λs4=>bif aai (s4.1<(p.length:Int)) then adU (adU (bif aai ((0:Int)<s4.1) then gd (aai<|s4.2.size+(⟨#[124]⟩:BA).size<=9223372036854775807) <|aag (s4.2++(⟨#[124]⟩:BA)) else aag s4.2) λs8=>aA (mi p s4) ((0:Int),s8)) λs7=>gd (ZU .i64<|s4.1+(1:Int)) <|aag (.inl ((s4.1+(1:Int)),s7)) else aag (.inr s4.2)
def j5(p:List<|List ZW):Option BA:=adU (aA (nP p) ((0:Int),(⟨#[]⟩:BA))) λs1=>aag s1
def jr(v1:(List BA))(s6:(List<|List ZW)×Int)(v14:(List BA)):LS ((List ZW)×Int) (List ZW):=λs19=>adU (bif aai (s19.2<(v14.length:Int)) then aag (aai<|s19.2<=(7:Int)) else aag aaf) λs22=>adU (bif s22 then aag (!decide ((J v1 s6.2)=(⟨#[]⟩:BA))) else aag aaf) λs24=>bif s24 then gd (aai<|0<=s19.2/\s19.2<(v14.length:Int)) <|adU (mR<|J v14 s19.2) λv28=>gd (aR (s19.1.length+1) 32) <|gd (ZU .i64<|s19.2+(1:Int)) <|aag (.inl ((s19.1++[v28]),(s19.2+(1:Int)))) else aag (.inr s19.1)
def kH(v1:(List BA)):LS ((List<|List ZW)×Int) (List<|List ZW):=λs6=>adU (bif aai (s6.2<(v1.length:Int)) then aag (aai<|s6.2<=(3:Int)) else aag aaf) λs9=>bif s9 then adU (gd (aai<|0<=s6.2/\s6.2<(v1.length:Int)) <|adU (fH (J v1 s6.2) (59:Int)) λv14=>adU (aA (jr v1 s6 v14) (([]:List ZW),(0:Int))) λs15=>gd (aR (s6.1.length+1) 24) <|aag<|s6.1++[s15]) λs12=>gd (ZU .i64<|s6.2+(1:Int)) <|aag (.inl (s12,(s6.2+(1:Int)))) else aag (.inr s6.1)
def dP(text:BA):Option ((List<|List ZW)×Bool):=adU (fH text (124:Int)) λv1=>adU (aA (kH v1) (([]:List<|List ZW),(0:Int))) λs2=>adU (bI s2) λv36=>adU (bif !v36 then aag aae else adU (j5 s2) λv39=>aag<|!decide (v39=text)) λs37=>bif s37 then aag (([]:List<|List ZW),aaf) else aag (s2,aae)
def iD(r_:ae):Option (ae×ZW):=adU (av (⟨r_.b,r_.p⟩:ae) (2:Int)) λv1=>adU (av (⟨v1.1.b,v1.1.p⟩:ae) (7:Int)) λv2=>bif (v2.2==(0:Int)) then aag ((⟨v2.1.b,v2.1.p⟩:ae),(⟨(4:Int),(0:Int),(0:Int),(0:Int)⟩:ZW)) else bif (v2.2==(1:Int)) then adU (av (⟨v2.1.b,v2.1.p⟩:ae) (2:Int)) λv5=>aag ((⟨v5.1.b,v5.1.p⟩:ae),(⟨(3:Int),v1.2,v5.2,(0:Int)⟩:ZW)) else bif (v2.2==(2:Int)) then adU (av (⟨v2.1.b,v2.1.p⟩:ae) (2:Int)) λv7=>adU (av (⟨v7.1.b,v7.1.p⟩:ae) (3:Int)) λv8=>gd (ZU .i64<|(1:Int)+v8.2) <|aag ((⟨v8.1.b,v8.1.p⟩:ae),(⟨(5:Int),v1.2,v7.2,((1:Int)+v8.2)⟩:ZW)) else adU (bif (v2.2==(3:Int)) then aag (v2.2==(3:Int)) else aag (v2.2==(4:Int))) λs10=>bif s10 then adU (av (⟨v2.1.b,v2.1.p⟩:ae) (3:Int)) λv13=>gd (ZU .i64<|(1:Int)+v13.2) <|aag ((⟨v13.1.b,v13.1.p⟩:ae),(⟨(2:Int),v1.2,(0:Int),((1:Int)+v13.2)⟩:ZW)) else adU (av (⟨v2.1.b,v2.1.p⟩:ae) (2:Int)) λv15=>aag ((⟨v15.1.b,v15.1.p⟩:ae),(⟨(1:Int),v1.2,v15.2,(0:Int)⟩:ZW))
def qm:LS ((LI)×Int×(List ZW)×Int) ((LI)×Int×(List ZW)):=λs24=>bif aai ((0:Int)<s24.2.2.2) then adU (iD (⟨s24.1,s24.2.1⟩:ae)) λv28=>gd (aR (s24.2.2.1.length+1) 32) <|gd (ZU .i64<|s24.2.2.2-(1:Int)) <|aag (.inl (v28.1.b,v28.1.p,(s24.2.2.1++[v28.2]),(s24.2.2.2-(1:Int)))) else aag (.inr (s24.1,s24.2.1,s24.2.2.1))
def qo:LS ((LI)×Int×(List<|List ZW)×Int) ((LI)×Int×(List<|List ZW)):=λs14=>bif aai ((0:Int)<s14.2.2.2) then adU (adU (adU (bq (⟨s14.1,s14.2.1⟩:ae) ([(2:Int),(1:Int),(3:Int),(2:Int),(0:Int)]:LI)) λv20=>aA qm (v20.1.b,v20.1.p,([]:List ZW),v20.2)) λs19=>gd (aR (s14.2.2.1.length+1) 24) <|aag (s19.1,s19.2.1,(s14.2.2.1++[s19.2.2]))) λs18=>gd (ZU .i64<|s14.2.2.2-(1:Int)) <|aag (.inl (s18.1,s18.2.1,s18.2.2,(s14.2.2.2-(1:Int)))) else aag (.inr (s14.1,s14.2.1,s14.2.2.1))
def tC(r_:ae):Option (ae×(List<|List ZW)):=adU (mQ) λv1=>sumK (adU (av (⟨r_.b,r_.p⟩:ae) (3:Int)) λv3=>bif aai ((0:Int)<v3.2) then adU (av (⟨v3.1.b,v3.1.p⟩:ae) (v1.length:Int)) λv5=>gd (aai<|0<=v5.2/\v5.2<(v1.length:Int)) <|adU (dP<|J v1 v5.2) λv7=>bif v7.2 then aag (.inr ((⟨v5.1.b,v5.1.p⟩:ae),v7.1)) else aag (.inl (v5.1.b,v5.1.p)) else aag (.inl (v3.1.b,v3.1.p))) λs2=>adU (adU (bq (⟨s2.1,s2.2⟩:ae) ([(2:Int),(3:Int),(1:Int)]:LI)) λv10=>aA qo (v10.1.b,v10.1.p,([]:List<|List ZW),v10.2)) λs9=>adU (bI s9.2.2) λv36=>bif v36 then aag ((⟨s9.1,s9.2.1⟩:ae),s9.2.2) else adU (iD (⟨s9.1,s9.2.1⟩:ae)) λv38=>aag ((⟨v38.1.b,v38.1.p⟩:ae),([([v38.2]:List ZW)]:List<|List ZW))
def ry(r_:ae):Option (ae×(List<|List ZW)):=adU (tC (⟨r_.b,r_.p⟩:ae)) λv1=>adU (fJ v1.2 (200:Int)) λv2=>bif aai (v2<=(200:Int)) then aag ((⟨v1.1.b,v1.1.p⟩:ae),v1.2) else adU (dP (⟨#[120,61,49,59,97,61,121,124,121,61,49,59,97,61,120]⟩:BA)) λv4=>aag ((⟨v1.1.b,v1.1.p⟩:ae),v4.1)
def tE(n:Int):Option BA:=bif aai (0<=n/\n<=9) then aag (strOfNums ([((48:Int)+n)]:LI)++(⟨#[]⟩:BA)) else aah
theorem strOfNums_size(l:LI):(strOfNums l).size=l.length:=by
 simp[strOfNums,ByteArray.size]
theorem Ej(n:Int):Le (tE n) (oP n):=by
 intro v h;unfold tE at h
 by_cases hn:0<=n/\n<=9
 .rw[decide_eq_true hn] at h;obtain rfl:=osl h;refine yQ 1 λk hk=>?_
  match k,hk with
  |k+1,_=>
   show oO (ll k) n=_;refine Z1.eq ?_;unfold oO;refine .bifD (λh=>by omega) λ_=>.bifD (λh=>by omega) λ_=>?_;refine Z1.bind (P:=(· =((⟨#[]⟩:BA),n))) ?_ λs hs=>?_
   .refine Z1.loop (λs=>s=((⟨#[]⟩:BA),n)) (λ_=>0) rfl λs hs=>?_;subst hs;unfold wK;exact .bifD (λh=>by simp only[] at h;omega) λ_=>.pure rfl
   subst hs;refine .gdI (by simp only[];omega) (.gdY (by simp only[];omega)<|.gdD ?_<|.pure rfl);rw[strOfNums_size];exact nlb rfl
 rw[decide_eq_false hn] at h
 cases h
def o6(from_:Int)(n:Int):Option BA:=
 gd (ZU .u8 n) <|
 gd (ZU .u8<|from_+n) <|
 aag (strOfNums ([(from_+n)]:LI))
theorem BM(from_:Int)(n:Int):Le (o6 from_ n) (lq from_ n):=by
 unfold o6 lq
 solve_by_elim (maxDepth:=9999) only[*,Le.gd,Le.bif,Le.bind,Le.sumK,Le.loop,Le.nilK,Le.ifc,Le.refl]
def xe(x:ZW):Option BA:=
 adU (o6 (120:Int) x.Loc) λv1=>
 adU (o6 (97:Int) x.Reg) λv2=>
 bif (x.Op==(1:Int)) then
  gd (aai<|v2.size+(⟨#[61]⟩:BA).size<=9223372036854775807) <|
  gd (aai<|(v2++(⟨#[61]⟩:BA)).size+v1.size<=9223372036854775807) <|
  aag ((v2++(⟨#[61]⟩:BA))++v1)
 else
  bif (x.Op==(2:Int)) then
   gd (aai<|v1.size+(⟨#[61]⟩:BA).size<=9223372036854775807) <|
   adU (tE x.Val) λv8=>
   gd (aai<|(v1++(⟨#[61]⟩:BA)).size+v8.size<=9223372036854775807) <|
   aag ((v1++(⟨#[61]⟩:BA))++v8)
  else
   bif (x.Op==(3:Int)) then
    gd (aai<|v1.size+(⟨#[61]⟩:BA).size<=9223372036854775807) <|
    gd (aai<|(v1++(⟨#[61]⟩:BA)).size+v2.size<=9223372036854775807) <|
    aag ((v1++(⟨#[61]⟩:BA))++v2)
   else
    bif (x.Op==(5:Int)) then
     gd (aai<|v2.size+(⟨#[61]⟩:BA).size<=9223372036854775807) <|
     gd (aai<|(v2++(⟨#[61]⟩:BA)).size+v1.size<=9223372036854775807) <|
     gd (aai<|((v2++(⟨#[61]⟩:BA))++v1).size+(⟨#[58]⟩:BA).size<=9223372036854775807) <|
     adU (tE x.Val) λv17=>
     gd (aai<|(((v2++(⟨#[61]⟩:BA))++v1)++(⟨#[58]⟩:BA)).size+v17.size<=9223372036854775807) <|
     aag ((((v2++(⟨#[61]⟩:BA))++v1)++(⟨#[58]⟩:BA))++v17)
    else
     aag (⟨#[102,101,110,99,101]⟩:BA)
theorem Ek(x:ZW):Le (xe x) (tu x):=by
 unfold xe tu
 solve_by_elim (maxDepth:=9999) only[*,BM,Ej,Le.gd,Le.bif,Le.bind,Le.sumK,Le.loop,Le.nilK,Le.ifc,Le.refl]

def A9(a:Z33):Int×Int×Int×Int×Int×Int×Int×Int×Int:=(a.x0.x0,a.x0.x1,a.x0.x2,a.x1.x0,a.x1.x1,a.x1.x2,a.x2.x0,a.x2.x1,a.x2.x2)
def vv(x:XS)(V:LI)(r:Int):Int:=if r<0 then 0 else V.getD (x.1.getD r.toNat aad).toNat aad
def Gb(x:XS)(l:Nat):Int:=(x.2.getD l aad).getD (((x.2.getD l aad).length:Int)-1).toNat aad
def Rt(p:List<|List ZW)(x:XS)(V:LI)(t:Nat):LI:=(adV 3).flatMap λ(g:Nat)=>[vv x V (lrd p (t:Int) ((p.getD t aad).length:Int) (g:Int))]
def LM(p:List<|List ZW)(x:XS)(V:LI):LI:=((adV p.length).flatMap<|Rt p x V)++(adV 3).flatMap λ(l:Nat)=>[V.getD (Gb x l).toNat aad]
theorem zf{α:Type}(h:Nat->α)(k:Nat):((adV k).flatMap λg=>[h g]).length=k:=by rw[oZ];simp
theorem Gc{α:Type}(h:Nat->List α)(n k:Nat)(e:∀i,(h i).length=n):((adV k).flatMap h).length=k*n:=by
 rw[ez (m:=n) λa _=>e a];simp
structure Vok(p:List (List ZW))(x:XS)(V:List Int):Prop where
 l:V.length=(evs p).length
 v:∀j:Int,0<=j->j<((evs p).length:Int)->(ev p j).aP=aae->0<=V.getD j.toNat aad/\V.getD j.toNat aad<=3
section
variable{p:List (List ZW)}{x:XS}{V:LI}
theorem Vok.of(hp:PV p){F:LI}(C:Cand p x F)(h1:V.length=(evs p).length)(h2:∀i:Nat,i<(evs p).length->(ev p (i:Int)).aP=aae->Chn p x (i:Int) (V.getD i aad)):Vok p x V:=⟨h1,λj j0 j1 hw=>by
 obtain⟨n,rfl⟩:∃n:Nat,j=(n:Int):=⟨j.toNat,by omega⟩;rw[tnn];exact(h2 n (by omega) hw).rng hp C ⟨j0,j1⟩⟩
theorem Ru(hp:PV p)(C:Cand p x<|GR p):Chk p x:=by
 have operm:∀l:Nat,l<3->(x.2.getD l aad).Perm (Z3 p (l:Int)):=λl hl=>by
  have O:=C.ods (l:Int) (by omega);unfold od at O;rw[tnn] at O;refine(aeC O.nd<|QW _).2 λn=>?_;rw[O.mem];unfold Z3;rw[aeb];unfold Wl;rw[bae,dte];exact Iff.rfl
 refine⟨C.flen,C.olen,λn hn=>?_,λl hl=>⟨operm l hl,?_⟩⟩
 .have hm:(n:Int)∈GR p:=(C.mem _).2 ⟨by omega,by omega⟩
  split
  .rename_i hr;have h1:=C.rdc _ hm hr;have h2:=C.ne _ hm hr;have hl:=sO hp (n:=(n:Int)) (by omega) (by omega);have hpm:=operm (ev p (n:Int)).Loc.toNat (by omega);rw[ad6 hl.1] at hpm;rw[tnn] at h1 h2;exact⟨hpm.mem_iff.1 h1,h2⟩
  rename_i hr;have:=C.frN _ hm (by simpa using hr)
  rwa [tnn] at this
 obtain⟨t,ht⟩:=C.hd l hl;unfold od at ht;rw[tnn] at ht;show(x.2.getD l []).getD 0 aad=l;rw[ht]
 rfl
theorem BN(hp:PV p)(C:Cand p x<|GR p){l:Nat}(hl:l<3):0<(x.2.getD l aad).length/\(x.2.getD l aad).length<=(evs p).length/\Gb x l∈GR p/\(ev p<|Gb x l).aP=aae:=by
 obtain⟨t,ht⟩:=C.hd l hl;have e:od x (l:Int)=x.2.getD l aad:=by unfold od;rw[tnn];rfl
 rw[e] at ht;have h0:0<(x.2.getD l aad).length:=by rw[ht];simp
 have hm:Gb x l∈od x (l:Int):=by
  rw[e];exact F5 (by omega)
 have hj:=((C.ods (l:Int) ⟨by omega,by omega⟩).mem _).1 hm;have hle:(x.2.getD l aad).length<=(evs p).length:=by
  have O:=((Ru hp C).ords l hl).1;rw[O.length_eq];exact QZ (l:Int)
 simp_all
theorem XX(hp:PV p)(C:Cand p x<|GR p)(hV:Vok p x V)(t idx reg:Int):0<=vv x V (lrd p t idx reg)/\vv x V (lrd p t idx reg)<=3/\(¬ lrd p t idx reg<0->lrd p t idx reg<((evs p).length:Int)/\0<=x.1.getD (lrd p t idx reg).toNat aad/\x.1.getD (lrd p t idx reg).toNat aad<((evs p).length:Int)):=by
 unfold vv
 by_cases h:lrd p t idx reg<0
 .omega
 rw[if_neg h];rcases Kc (p:=p) t idx reg with⟨g1,_⟩|⟨r,g1,g2,g3,_⟩
 .omega
 have hrd:=(CZ.1 g3).2.2.1;have hrF:(r:Int)∈GR p:=(C.mem _).2 ⟨by omega,by omega⟩;have hfr:=((C.ods _<|sO hp (n:=(r:Int)) (by omega)<|by omega).mem _).1<|C.rdc _ hrF hrd;rw[show(r:Int)=lrd p t idx reg from g2.symm] at hfr;obtain⟨j0,j1⟩:=(C.mem _).1 hfr.1;obtain⟨v0,v1⟩:=hV.v _ j0 j1 hfr.2.1;omega
theorem YQ(hp:PV p)(C:Cand p x<|GR p)(hV:Vok p x V):Z1 (jV p ⟨x.1,x.2⟩ V) (· =LM p x V):=by
 have hl3:=hp.vs.1;have hel:=kE hp.vs;have hrl:∀i,(Rt p x V i).length=3:=λi=>zf _ 3;unfold jV;refine(IQ hp.vs).bind λv1 h1=>?_;subst h1;refine Z1.bind (P:=(· =[]++(adV p.length).flatMap (Rt p x V))) (cK p.length [] (Rt p x V) (λt ht=>?_) ?_) λq hq=>Z1.bind (P:=(· =q++(adV 3).flatMap λ(l:Nat)=>[V.getD (Gb x l).toNat aad])) (cK 3 q (λ(l:Nat)=>[V.getD (Gb x l).toNat aad]) (λl hl=>?_) ?_) λr hr=>.pure (by rw[hr,hq,ad7];rfl)
 .unfold nN;simp only[];refine .bifD (λ_=>Z1.bind (P:=(· =([]++(adV t).flatMap (Rt p x V))++Rt p x V t)) ?_ λv hv=>.gdI (by omega)<|.pure<|by rw[hv,bu,ad2];rfl) λh=>absurd (show(t:Int)<(p.length:Int) by omega) h;refine cK 3 _ (λ(g:Nat)=>[vv x V (lrd p (t:Int) ((p.getD t aad).length:Int) (g:Int))]) (λg hg=>?_) ?_
  .unfold mg J;simp only[tnn];have hlen:(([]++(adV t).flatMap (Rt p x V))++(adV g).flatMap λ(g:Nat)=>[vv x V (lrd p (t:Int) ((p.getD t aad).length:Int) (g:Int))]).length<=12:=by
    rw[lla,ad7,Gc _ 3 _ hrl,zf];omega
   refine .bifD (λ_=>Z1.bind (P:=(· =(([]++(adV t).flatMap (Rt p x V))++(adV g).flatMap λ(g:Nat)=>[vv x V (lrd p (t:Int) ((p.getD t aad).length:Int) (g:Int))])++[vv x V (lrd p (t:Int) ((p.getD t aad).length:Int) (g:Int))])) (.gdD ⟨by omega,by omega⟩<|(XM hp ht _ _).bind λv hv=>?_) λv hv=>.gdI (by omega)<|.pure<|by rw[hv,bu,ad2];rfl) λh=>absurd (show(g:Int)<=2 by omega) h;subst hv;obtain⟨_,_,b3⟩:=XX hp C hV (t:Int) ((p.getD t aad).length:Int) (g:Int);refine .bifD (λh=>.gd (aK (by omega) rfl)<|.pure<|by unfold vv;simp_all) λh=>?_;obtain⟨c1,c2,c3⟩:=b3 h;exact .gdD ⟨by omega,by rw[C.flen];exact c1⟩<|.gdD ⟨c2,by rw[hV.l];exact c3⟩<|.gd (aK (by omega) rfl)<|.pure (by unfold vv;grind)
  unfold mg J;exact .bifD (λh=>absurd h<|by omega) λ_=>.pure rfl
 .unfold nN;exact .bifD (λh=>absurd h<|by omega) λ_=>.pure rfl
 .unfold mh J;obtain⟨g0,g1,g2,g3⟩:=BN hp C hl;obtain⟨j0,j1⟩:=(C.mem _).1 g2;simp only[tnn];have hlen:(q++(adV l).flatMap λ(l:Nat)=>[V.getD (Gb x l).toNat aad]).length<=12:=by
   rw[lla,zf,hq,ad7,Gc _ 3 _ hrl];omega
  have e:(x.2.getD l aad).getD (((x.2.getD l aad).length:Int)-1).toNat aad=Gb x l:=rfl;simp only[e];refine .bifD (λ_=>.gdD ⟨by omega,by rw[C.olen];omega⟩<|.gdI (by omega)<|.gdD ⟨by omega,by omega⟩<|.gdD ⟨j0,by rw[hV.l];exact j1⟩<|.gd (aK (by omega) rfl)<|.gdI (by omega)<|.pure<|by rw[bu,ad2];rfl) λh=>absurd (show(l:Int)<=2 by omega) h
 unfold mh J;exact .bifD (λh=>absurd h<|by omega) λ_=>.pure rfl
theorem Rv{u:ZVa}(hl:u.p.length<=3)(hr:∀t g:Nat,t<u.p.length->g<3->0<=Z3b.get (Z33.get u.reg t) g/\Z3b.get (Z33.get u.reg t) g<=255)(hm:∀g:Nat,g<3->0<=Z3b.get u.mem g/\Z3b.get u.mem g<=255) :
  Z1 (ij u) λq=>q.2=((adV u.p.length).flatMap λ(t:Nat)=>(adV 3).flatMap λ(g:Nat)=>[Z3b.get (Z33.get u.reg (t:Int)) (g:Int)])++(adV 3).flatMap λ(g:Nat)=>[Z3b.get u.mem (g:Int)]:=by
 unfold ij;have hrl:∀i:Nat,((adV 3).flatMap λ(g:Nat)=>[Z3b.get (Z33.get u.reg (i:Int)) ((g:Nat):Int)]).length=3:=λi=>zf _ 3;refine Z1.bind (P:=(· =[]++(adV u.p.length).flatMap λ(t:Nat)=>(adV 3).flatMap λ(g:Nat)=>[Z3b.get (Z33.get u.reg (t:Int)) (g:Int)])) (cK u.p.length [] (λ(t:Nat)=>(adV 3).flatMap λ(g:Nat)=>[Z3b.get (Z33.get u.reg (t:Int)) (g:Int)]) (λt ht=>?_) ?_) λq hq=>Z1.bind (P:=(· =q++(adV 3).flatMap λ(g:Nat)=>[Z3b.get u.mem (g:Int)])) (cK 3 q (λ(g:Nat)=>[Z3b.get u.mem (g:Int)]) (λg hg=>?_) ?_) λr hr=>.pure (by simp_all)
 .unfold iT;simp only[];refine .bifD (λ_=>Z1.bind (P:=(· =([]++(adV t).flatMap λ(t:Nat)=>(adV 3).flatMap λ(g:Nat)=>[Z3b.get (Z33.get u.reg (t:Int)) (g:Int)])++(adV 3).flatMap λ(g:Nat)=>[Z3b.get (Z33.get u.reg (t:Int)) (g:Int)])) (.gdD ⟨by omega,by omega⟩ ?_) λv hv=>.gdI (by omega)<|.pure<|by rw[hv,ad2,<- bu (λ(t:Nat)=>(adV 3).flatMap λ(g:Nat)=>[Z3b.get (Z33.get u.reg (t:Int)) (g:Int)]) t];rfl) λh=>absurd (show(t:Int)<(u.p.length:Int) by omega) h;refine cK 3 _ (λ(g:Nat)=>[Z3b.get (Z33.get u.reg (t:Int)) (g:Int)]) (λg hg=>?_) ?_
  .unfold iB;simp only[];have hlen:(([]++(adV t).flatMap λ(t:Nat)=>(adV 3).flatMap λ(g:Nat)=>[Z3b.get (Z33.get u.reg (t:Int)) (g:Int)])++(adV g).flatMap λ(g:Nat)=>[Z3b.get (Z33.get u.reg (t:Int)) (g:Int)]).length<=12:=by
    rw[lla,ad7,Gc _ 3 _ hrl,zf];omega
   obtain⟨b0,b1⟩:=hr t g ht hg;exact .bifD (λ_=>.gdD ⟨by omega,by omega⟩<|.gdI (by omega)<|.gd (aK (by omega) rfl)<|.gdI (by omega)<|.pure<|by rw[bu,ad2];rfl) λh=>absurd (show(g:Int)<3 by omega) h
  unfold iB;exact .bifD (λh=>absurd h<|by omega) λ_=>.pure rfl
 .unfold iT;exact .bifD (λh=>absurd h<|by omega) λ_=>.pure rfl
 .unfold iC;simp only[];have hlen:(q++(adV g).flatMap λ(g:Nat)=>[Z3b.get u.mem (g:Int)]).length<=12:=by
   rw[lla,zf,hq,ad7,Gc _ 3 _ hrl];omega
  obtain⟨b0,b1⟩:=hm g hg;exact .bifD (λ_=>.gdD ⟨by omega,by omega⟩<|.gdI (by omega)<|.gd (aK (by omega) rfl)<|.gdI (by omega)<|.pure<|by rw[bu,ad2];rfl) λh=>absurd (show(g:Int)<3 by omega) h
 unfold iC;exact .bifD (λh=>absurd h<|by omega) λ_=>.pure rfl
theorem tX{α:Type}{f g:Nat->List α}{n:Nat}(h:∀i,i<n->f i=g i):(adV n).flatMap f=(adV n).flatMap g:=zP λi hi=>h i<|ad4.1 hi
theorem XY(hp:PV p)(C:Cand p x<|GR p){b:Bool}(h:bT p ⟨x.1,x.2⟩=aag (V,b))(hV:b=aae->Vok p x V):Z1 (di p ⟨x.1,x.2⟩) λq=>q.2=b/\(b=aae->q.1=LM p x V):=by
 have hl3:=hp.vs.1;have hel:=kE hp.vs;unfold di;refine(Z1.of (P:=(· =(V,b))) h rfl).bind λw hw=>?_;subst hw
 cases b with
 |false=>exact .bif (λ_=>.pure ⟨rfl,λe=>by cases e⟩) λh=>by cases h
 |true=>
  have hV:=hV rfl;have hwr:∀j:Int,j∈GR p->(ev p j).aP=aae->(0<=j/\j<(V.length:Int))/\0<=V.getD j.toNat aad/\V.getD j.toNat aad<=3:=λj hj hjw=>by
   obtain⟨j0,j1⟩:=(C.mem j).1 hj;obtain⟨v0,v1⟩:=hV.v j j0 j1 hjw;exact⟨⟨j0,by rw[hV.l];exact j1⟩,v0,v1⟩
  refine .bif (λh=>by cases h) λ_=>?_;refine Z1.bind (P:=λq=>∃a,q=A9 a/\∀t g:Nat,t<p.length->g<3->Z3b.get (Z33.get a t) g=vv x V (lrd p (t:Int) ((p.getD t aad).length:Int) (g:Int))) ?_ λq ⟨a,ha,hA⟩=>?_
  .refine(F4 hp.vs).bind λv4 h4=>?_;subst h4;refine Z1.loop (λq=>∃(a:Z33)(n:Nat),n<=(evs p).length/\q=(a.x0.x0,a.x0.x1,a.x0.x2,a.x1.x0,a.x1.x1,a.x1.x2,a.x2.x0,a.x2.x1,a.x2.x2,(n:Int))/\∀t g:Nat,t<p.length->g<3->Z3b.get (Z33.get a t) g=vv x V (lrN p (t:Int) ((p.getD t aad).length:Int) (g:Int) n))
    (λq=>(((evs p).length:Int)-q.2.2.2.2.2.2.2.2.2).toNat) ⟨⟨⟨0,0,0⟩,⟨0,0,0⟩,⟨0,0,0⟩⟩,0,by omega,rfl,λt g ht hg=>?_⟩ λq ⟨a,n,n1,n2,n3⟩=>?_
   .have k1:t=0\/t=1\/t=2:=by omega
    have k2:g=0\/g=1\/g=2:=by omega
    rcases k1 with rfl|rfl|rfl <;> rcases k2 with rfl|rfl|rfl <;> rfl
   subst n2;unfold uA J;have en:(evs p).getD n aad=ev p (n:Int):=by unfold ev;rw[tnn]
   simp only[tnn,en];refine .bifD (λhk=>?_) λhk=>.pure ⟨a,rfl,λt g ht hg=>?_⟩
   .refine Z1.bind (P:=λq=>∃a',q=A9 a'/\∀t g:Nat,t<p.length->g<3->Z3b.get (Z33.get a' t) g=vv x V (lrN p (t:Int) ((p.getD t aad).length:Int) (g:Int)<|n+1)) (.gdD ⟨by omega,hk⟩<|.bif (λhr=>?_) λhr=>.pure ⟨a,rfl,λt g ht hg=>?_⟩) λq ⟨a',ha',hA'⟩=>?_
    .have hnF:(n:Int)∈GR p:=(C.mem _).2 ⟨by omega,by omega⟩;rcases BG (p:=p) (n:=(n:Int)) (by omega) hk with h3|⟨t,k,hI,hn⟩
     .rw[(CV (p:=p) (l:=n)<|by omega).1] at hr
      cases hr
     have hfr:=C.rdc _ hnF hr;have hI3:=hp.ins t k hI.t hI.k;have hev:=hI.ev.1;rw[<- hn] at hev;have hloc:=sO hp (n:=(n:Int)) (by omega) hk;have hj:=(((C.ods _ hloc).mem _).1 hfr);rw[tnn] at hj;obtain⟨w1,w3,w4⟩:=hwr _ hj.1 hj.2.1;obtain⟨i1,i2,i3,i4,_,_⟩:=hI3;have hIt:=hI.t;have hIk:=hI.k;rw[hev] at hr ⊢;simp only[tnn] at hr ⊢;refine .gdD ⟨by omega,by omega⟩<|.gdD ⟨by omega,by omega⟩<|.gdD ⟨by omega,by rw[C.flen];omega⟩<|.gdD w1<|.gdY (by omega)<|.gdD ⟨by omega,by omega⟩<|.gdD ⟨i3,by omega⟩<|.pure ⟨_,rfl,λt' g ht' hg=>?_⟩;rw[Qu _ _ _ _ (by omega) (by omega),lrN];have hcI:lrC p (t':Int) ((p.getD t' aad).length:Int) (g:Int) (ev p (n:Int))=aae↔t'=t/\((p.getD t aad).getD k aad).Reg=(g:Int):=by
      rw[CZ,hev];simp only[tnn]
      constructor
      .rintro⟨a1,a2,a3,a4⟩;obtain rfl:t=t':=by omega
       exact⟨rfl,a4⟩
      rintro⟨rfl,a2⟩;exact⟨rfl,by omega,hr,a2⟩
     by_cases et:t'=t
     .subst et;rw[if_pos rfl,MO _ _ _ _ (by omega) (by omega)]
      by_cases eg:(g:Int)=((p.getD t' aad).getD k aad).Reg
      .rw[if_pos eg,if_pos (hcI.2 ⟨rfl,eg.symm⟩)];unfold vv;rw[if_neg (by omega),tnn]
      rw[if_neg eg,if_neg λh=>eg (hcI.1 h).2.symm];exact n3 t' g ht' hg
     rw[if_neg (by omega),if_neg λh=>et (hcI.1 h).1];exact n3 t' g ht' hg
    .rw[lrN,if_neg]
     .exact n3 t g ht hg
     intro h;rw[(CZ.1 h).2.2.1] at hr
     cases hr
    subst ha';exact .gdI (by omega)<|.pure ⟨⟨a',n+1,by omega,rfl,hA'⟩,by simp only[];omega⟩
   have : n=(evs p).length:=by omega
   rw[n3 t g ht hg,this]
   rfl
  subst ha;refine Z1.bind (P:=λq:Int×Int×Int=>∀l:Nat,l<3->Z3b.get ⟨q.1,q.2.1,q.2.2⟩ l=V.getD (Gb x l).toNat aad) ?_ λq hM=>?_
  .refine Z1.loop (λq=>∃n:Nat,n<=3/\q.2.2.2=(n:Int)/\∀l:Nat,l<n->Z3b.get ⟨q.1,q.2.1,q.2.2.1⟩ l=V.getD (Gb x l).toNat aad) (λq=>(3-q.2.2.2).toNat) ⟨0,by omega,rfl,λl hl=>absurd hl<|by omega⟩ λq ⟨n,n1,n2,n3⟩=>?_;obtain⟨m0,m1,m2,m3⟩:=q;simp only at n2 n3;subst n2;unfold sI J;have e:(x.2.getD n aad).getD (((x.2.getD n aad).length:Int)-1).toNat aad=Gb x n:=rfl;simp only[tnn,C.olen,e];refine .bifD (λhk=>?_) λhk=>.pure λl hl=>n3 l (by omega);obtain⟨g0,g1,g2,g3⟩:=BN hp C (show n<3 by omega);obtain⟨w1,w3,w4⟩:=hwr _ g2 g3;refine .gdD ⟨by omega,by omega⟩<|.gdI (by omega)<|.gdD ⟨by omega,by omega⟩<|.gdD w1<|.gdY (by omega)<|.gdD ⟨by omega,by omega⟩<|.gdI (by omega)<|.pure ⟨⟨n+1,by omega,rfl,λl hl=>?_⟩,by simp only[];omega⟩;show Z3b.get (Z3b.set ⟨m0,m1,m2⟩ (n:Int) _) (l:Int)=_;rw[MO _ _ _ _ (by omega) (by omega)]
   by_cases e:l=n
   .subst e;rw[if_pos rfl]
   rw[if_neg (by omega)];exact n3 l (by omega)
  refine(Rv (u:=⟨p,⟨0,0,0⟩,a,⟨q.1,q.2.1,q.2.2⟩⟩) hl3 (λt g ht hg=>?_) λg hg=>?_).bind λr hr=>.pure ⟨rfl,λ_=>?_⟩
  .have h1:=hA t g ht hg;obtain⟨b1,b2,_⟩:=XX hp C hV (t:Int) ((p.getD t aad).length:Int) (g:Int);simp only[];rw[h1];omega
  .have h1:=hM g hg;obtain⟨_,_,g2,g3⟩:=BN hp C hg;obtain⟨w1,w3,w4⟩:=hwr _ g2 g3;simp only[];rw[h1];omega
  simp only[];rw[hr];unfold LM Rt;refine congr (congrArg _<|tX λt ht=>tX λg hg=>?_)<|tX λl hl=>?_
  .exact congrArg (λn=>[n])<|hA t g ht hg
  exact congrArg (λn=>[n])<|hM l hl
end
section
variable{p:List (List ZW)}{x:XS}
theorem Ou(hp:PV p)(C:Cand p x<|GR p){V W:LI}(h:∀i:Nat,i<(evs p).length->(ev p (i:Int)).aP=aae->W.getD i aad=V.getD i aad):LM p x W=LM p x V:=by
 have key:∀j:Int,j∈GR p->(ev p j).aP=aae->W.getD j.toNat aad=V.getD j.toNat aad:=λj hj hw=>by
  obtain⟨j0,j1⟩:=(C.mem j).1 hj;exact h j.toNat (by omega) (by rw[ad6 j0];exact hw)
 unfold LM Rt;refine congr (congrArg _<|tX λt ht=>tX λg hg=>?_)<|tX λl hl=>?_
 .refine congrArg (λn=>[n]) ?_;unfold vv
  split
  .rfl
  rename_i hr;rcases Kc (p:=p) (t:Int) ((p.getD t aad).length:Int) (g:Int) with⟨g1,_⟩|⟨r,g1,g2,g3,_⟩
  .omega
  have hrd:=(CZ.1 g3).2.2.1;have hrF:(r:Int)∈GR p:=(C.mem _).2 ⟨by omega,by omega⟩;have hfr:=((C.ods _<|sO hp (n:=(r:Int)) (by omega)<|by omega).mem _).1<|C.rdc _ hrF hrd;rw[show(r:Int)=lrd p (t:Int) ((p.getD t aad).length:Int) (g:Int) from g2.symm] at hfr;exact key _ hfr.1 hfr.2.1
 refine congrArg (λn=>[n]) ?_;obtain⟨_,_,h2,h3⟩:=BN hp C hl;exact key _ h2 h3
theorem Nf(V:LI):(LM p x V).length=3*p.length+3:=by
 unfold LM;rw[lla,Gc (Rt p x V) 3 _ (λi=>zf _ 3),zf];omega
def gO(p:List<|List ZW)(o:LI)(c:ZX):Bool:=match bT p c with
 |some (V,aae)=>aai (LM p (c.From,c.Order) V=o)
 |_=>aaf
theorem zT(hv:bh (Z4 p)=aae):(aY p).length<=3000:=by
 have:=(few hv).all;unfold aY;rw[ez (m:=(uJ<|chO p).length) λa _=>by simp];exact this
def vaO(p:List<|List ZW)(o:LI):Bool:=bh (Z4 p)&&(aai (o.length=3*p.length+3)&&o.all λv=>aai (0<=v)&&aai (v<=3))
theorem U2(hsz:p.length<=1048576/\total p<=1048576){o:LI}(ho:o.length<=1048576):Z1 (dE p o) (· =vaO p o):=by
 have hI:aZ p=aag (bh<|Z4 p):=gJ<|decide_eq_true hsz;unfold dE vaO;refine(Z1.of (P:=(· =bh (Z4 p))) hI rfl).bind λv1 h1=>?_;subst h1;refine Z1.bind (P:=(· =(bh (Z4 p)&&aai (o.length=3*p.length+3)))) (.bif (λh=>.gdI (by omega)<|.gdI (by omega)<|.gdI (by omega)<|.pure ?_) λh=>.pure<|by rw[h];rfl) λb hb=>?_
 .rw[h,adZ,Og];exact decide_eq_decide.2 (by omega)
 refine Z1.bind (P:=(· =(bh (Z4 p)&&(aai (o.length=3*p.length+3)&&o.all λv=>aai (0<=v)&&aai (v<=3))))) (.bif (λh=>?_) λh=>.pure ?_) λv hv=>.pure hv
 .rw[<- aeo,<- hb,h,adZ];unfold bg bz;refine Z1.bind (P:=(· = !(o.all λv=>aai (0<=v)&&aai (v<=3)))) (Z1.bind (P:=λv:Int=>(0<=v↔(o.all λv=>aai (0<=v)&&aai (v<=3))=aaf)) ?_ λv hv=>.pure ?_) λv hv=>.pure (by rw[hv,Bool.not_not])
  .refine Z1.sum (PS:=λ_=>(o.all λv=>aai (0<=v)&&aai (v<=3))=aae) (PW:=λv:Int=>(0<=v↔(o.all λv=>aai (0<=v)&&aai (v<=3))=aaf)) ?_ λ_ hn=>.pure (by rw[hn];simp);refine Z1.loop (λz=>∃i:Nat,i<=o.length/\z=(i:Int)/\∀j,j<i->0<=o.getD j aad/\o.getD j aad<=3) (λz=>((o.length:Int)-z).toNat) ⟨0,by omega,rfl,λj hj=>by omega⟩ λz ⟨i,h1,h2,h3⟩=>?_;subst h2;unfold bV kY J;simp only[tnn];refine .bifD (λhk=>.gdD ⟨by omega,hk⟩ (Z1.bind (P:=(· = !(aai (0<=o.getD i aad)&&aai (o.getD i aad<=3)))) ((C0 _ _ _).bind λw hw=>.pure<|by rw[hw]) λw hw=>.bif (λhb2=>.pure ⟨λ_=>?_,λ_=>by omega⟩) λhb2=>.gdI (by omega)<|.pure ⟨⟨i+1,by omega,rfl,λj hj=>?_⟩,by omega⟩)) λhk=>.pure ?_
   .rw[aen];refine⟨o.getD i aad,getD_in (by omega),?_⟩;rw[hw] at hb2;rw[(ad0 _).mp hb2]
    decide
   .by_cases e:j=i
    .subst e;rw[hw] at hb2;have:=(ad1 _).mp hb2;rw[bae,dte,dte] at this;exact this
    exact h3 j (by omega)
   show(o.all λv=>aai (0<=v)&&aai (v<=3))=aae;rw[adW];intro r hr;obtain⟨j,hj,rfl⟩:=adY hr;have:=h3 j (by omega);rw[gdq,geq hj] at this;rw[bae,dte,dte];exact this
  show aai ((0:Int)<=v)=_
  cases h:(o.all λv=>aai (0<=v)&&aai (v<=3)) with
  |true=>exact decide_eq_false λe=>by rw[hv.1 e] at h;cases h
  |false=>exact decide_eq_true (hv.2 h)
 rw[<- aeo,<- hb,h]
 rfl
theorem XZ(hsz:p.length<=1048576/\total p<=1048576){o:LI}(ho:o.length<=1048576):Z1 (fZ p o) (· =vaO p o):=by
 have hI:bI p=aag (bh<|Z4 p):=gJ<|decide_eq_true hsz;unfold fZ vaO;refine(Z1.of (P:=(· =bh (Z4 p))) hI rfl).bind λv1 h1=>?_;subst h1;refine Z1.bind (P:=(· = !(bh (Z4 p)&&aai (o.length=3*p.length+3)))) (.bif (λh=>.pure ?_) λh=>?_) λb hb=>.bif (λh=>.pure ?_) λh=>?_
 .rw[(ad0 _).mp h];rfl
 .unfold sW;refine Z1.bind (P:=(· =((3*p.length+3:Nat):Int))) (.gdI (by omega)<|.gdI (by omega)<|.gdI (by omega)<|.pure<|by omega) λv hv=>.pure ?_;subst hv;rw[(ad1 _).mp h,adZ];show(!((o.length:Int)==((3*p.length+3:Nat):Int)))=_;rw[Og];exact congrArg _<|decide_eq_decide.2 (by omega)
 .rw[<- aeo,(ad0 _).mp (hb.symm.trans h)]
  rfl
 rw[<- aeo,(ad1 _).mp (hb.symm.trans h),adZ];refine Z1.sum (PS:=λ_=>(o.all λv=>aai (0<=v)&&aai (v<=3))=aae) (PW:=(· =o.all λv=>aai (0<=v)&&aai (v<=3))) ?_ λ_ hn=>.pure hn.symm;refine Z1.loop (λz=>∃i:Nat,i<=o.length/\z=(i:Int)/\∀j,j<i->0<=o.getD j aad/\o.getD j aad<=3) (λz=>((o.length:Int)-z).toNat) ⟨0,by omega,rfl,λj hj=>by omega⟩ λz ⟨i,h1,h2,h3⟩=>?_;subst h2;unfold oJ eO J;simp only[tnn];refine .bifD (λhk=>.gdD ⟨by omega,hk⟩ (Z1.bind (P:=(· =(aai (0<=o.getD i aad)&&aai (o.getD i aad<=3)))) (Z1.bind (P:=(· =(aai (0<=o.getD i aad)&&aai (o.getD i aad<=3)))) (.bifD (λh=>.pure<|by rw[decide_eq_true h,adZ]) λh=>.pure<|by rw[decide_eq_false h];rfl) λw hw=>.pure hw) λw hw=>.bif (λhb2=>.pure ?_) λhb2=>.gdI (by omega)<|.pure ⟨⟨i+1,by omega,rfl,λj hj=>?_⟩,by omega⟩)) λhk=>.pure ?_
 .show aaf=_
  symm
  rw[aen];refine⟨o.getD i aad,getD_in (by omega),?_⟩;rw[hw] at hb2;rw[(ad0 _).mp hb2]
  decide
 .by_cases e:j=i
  .subst e;rw[hw] at hb2;have:=(ad1 _).mp hb2;rw[bae,dte,dte] at this;exact this
  exact h3 j (by omega)
 show(o.all λv=>aai (0<=v)&&aai (v<=3))=aae;rw[adW];intro r hr;obtain⟨j,hj,rfl⟩:=adY hr;have:=h3 j (by omega);rw[gdq,geq hj] at this;rw[bae,dte,dte];exact this
end
def two(n:Nat):BA:=strOfNums ([((48:Int)+((n / 10:Nat):Int))]:LI)++(strOfNums ([((48:Int)+((n % 10:Nat):Int))]:LI)++(⟨#[]⟩:BA))
structure SmE(r:List Int):Prop where
 l:r.length<=20
 v:∀j∈r,0<=j/\j<100
section
variable{p:List (List ZW)}{x:XS}{l:LI}{sep:BA}
structure Smx(x:XS):Prop where
 f:x.1.length<=20
 fv:∀j∈x.1,j<100
 o:x.2.length=3
 ov:∀r∈x.2,SmE r
theorem smx(hp:PV p)(hv:bh (Z4 p)=aae)(C:Cand p x<|GR p):Smx x:=by
 have h15:=UV hv;refine⟨by rw[C.flen];omega,λj hj=>?_,C.olen,λr hr=>?_⟩
 .obtain⟨i,hi,rfl⟩:=adY hj;have hiF:(i:Int)∈GR p:=(C.mem _).2 ⟨by omega,by rw[<- C.flen];omega⟩;have e:x.1[i]=x.1.getD (i:Int).toNat aad:=by
   rw[tnn,gdq,geq hi];rfl
  rw[e]
  cases hr:(ev p (i:Int)).Reads with
  |true=>
   have:=((C.mem _).1 (((C.ods _<|sO hp (n:=(i:Int)) (by omega)<|by rw[<- C.flen];omega).mem _).1<|C.rdc _ hiF hr).1);omega
  |false=>rw[C.frN _ hiF hr];decide
 obtain⟨i,hi,rfl⟩:=adY hr;have h3:i<3:=by rw[<- C.olen];exact hi
 have e:x.2[i]=x.2.getD i aad:=by
  rw[gdq,geq hi];rfl
 have e2:od x (i:Int)=x.2.getD i aad:=by unfold od;rw[tnn];rfl
 rw[e];refine⟨by have:=(BN hp C h3).2.1;omega,λj hj=>?_⟩;have:=(C.mem _).1 (((C.ods (i:Int) ⟨by omega,by omega⟩).mem j).1<|by rw[e2];exact hj).1;omega
end

section
variable{p:List (List ZW)}{x:XS}{m:List ah}{o:LI}
theorem Uf{p:List (List ZW)}{m:List ah}{good:ZX->Bool}(v:List ZX)(hl:v.length<=1000000)(heq:∀a∈v,Z1 (cH a p m) (· = !good a)):Z1 (aC v p m) (· =v.filter good):=by
 unfold aC;refine Z1.bind (P:=λr:Int=>(r=-1/\∀n∈v,good n=aae)\/(0<=r/\r<(v.length:Int)/\good (v.getD r.toNat aad)=aaf/\∀n∈v.take r.toNat,good n=aae)) ?_ λr hr=>?_
 .unfold aD;refine Z1.sum (PS:=λ_=>∀n∈v,good n=aae) (PW:=λr:Int=>(r=-1/\∀n∈v,good n=aae)\/(0<=r/\r<(v.length:Int)/\good (v.getD r.toNat aad)=aaf/\∀n∈v.take r.toNat,good n=aae)) ?_ λ_ h=>.pure<|.inl ⟨rfl,h⟩;refine Z1.loop (λz=>∃k:Nat,k<=v.length/\z=(k:Int)/\∀n∈v.take k,good n=aae) (λz=>((v.length:Int)-z).toNat) ⟨0,by omega,rfl,by simp⟩ λz ⟨k,h1,h2,h3⟩=>?_;subst h2;unfold bv J;simp only[tnn];refine .bifD (λhk=>.gdD ⟨by omega,hk⟩<|(heq _<|getD_in<|by omega).bind λb hb=>?_) λhk=>.pure ?_
  .subst hb;refine .bif (λhe=>.pure<|.inr ⟨by omega,hk,by rw[tnn];simpa using he,by rw[tnn];exact h3⟩) λhe=>.gdI (by omega)<|.pure ⟨⟨k+1,by omega,rfl,λn hn=>?_⟩,by omega⟩;rw[dO (by omega),aec,aej] at hn;rcases hn with hn|rfl
   .exact h3 n hn
   simpa using he
  rwa [show k=v.length by omega,aed] at h3
 rcases hr with⟨rfl,h⟩|⟨r0,r1,r2,r3⟩
 .refine .bif (λ_=>.pure ?_) λh=>by cases h
  rw[aeD.2 λn hn=>h n hn]
 refine .bif (λh=>by have:=eq_of_beq h;omega) λ_=>?_;refine Z1.bind (P:=λz=>z.1.length=v.length/\(0<=z.2/\z.2<=(v.length:Int))/\z.1.take z.2.toNat=v.filter (good)) (.gdI (by omega) ?_) λz ⟨z1,⟨z2,z3⟩,z4⟩=>?_
 .refine Z1.loop (λz=>∃j k:Nat,j<=v.length/\k<=j/\z.2.1=(j:Int)/\z.2.2=(k:Int)/\z.1.length=v.length/\(∀q:Nat,j<=q->z.1[q]?=v[q]?)/\z.1.take k=(v.take j).filter (good)) (λz=>((v.length:Int)-z.2.1).toNat) ⟨r.toNat+1,r.toNat,by omega,by omega,by simp only[];omega,by simp only[];omega,rfl,λ_ _=>rfl,?_⟩ λz ⟨j,k,h1,h2,h3,h4,h5,h6,h7⟩=>?_
  .simp only[];rw[dO (by omega),aet,aeD.2 λn hn=>r3 n hn,aeu (by rw[r2];decide)];simp
  obtain⟨s,z1,z2⟩:=z;simp only at h3 h4 h5 h6 h7;subst h3 h4;unfold bi J;simp only[tnn,h5];refine .bifD (λhk=>?_) λhk=>.pure ⟨h5,⟨by simp only[];omega,by simp only[];omega⟩,?_⟩
  .have hj:j<v.length:=by omega
   have e1:s.getD j aad=v.getD j aad:=by rw[gdq,gdq,h6 j (Nat.le_refl _)]
   rw[e1];refine Z1.bind (P:=λz:List ZX×Int=>∃k:Nat,k<=j+1/\z.2=(k:Int)/\z.1.length=v.length/\(∀q:Nat,j+1<=q->z.1[q]?=v[q]?)/\z.1.take k=(v.take<|j+1).filter (good)) (.gdD ⟨by omega,hk⟩<|(heq _<|getD_in hj).bind λb hb=>?_) λz ⟨k',g1,g2,g3,g4,g5⟩=>.gdI (by omega)<|.pure ⟨⟨j+1,k',by omega,g1,rfl,g2,g3,g4,g5⟩,by simp only[];omega⟩;subst hb;rw[dO hj,aet];refine .bif (λhn=>?_) λhn=>?_
   .refine .gdD ⟨by omega,by omega⟩<|.gdI (by omega)<|.pure ⟨k+1,by omega,rfl,by simp[h5],λq hq=>?_,?_⟩
    .simp only[];rw[List.getElem?_set_ne (by omega)];exact h6 q (by omega)
    simp only[];have hks:k<s.length:=by omega
    rw[List.take_add_one,List.getElem?_set_self hks,List.take_set_of_le (Nat.le_refl _),h7]
    congr 1
    rw[aeE (show good (v.getD j aad)=aae by simpa using hn)]
    rfl
   refine .pure ⟨k,by omega,rfl,h5,λq hq=>h6 q (by omega),?_⟩;simp only[];rw[h7,aeu (show ¬ good (v.getD j aad)=aae by simpa using hn)];simp
  simp only[];rw[tnn,h7,show j=v.length by omega,aed]
 refine .gdD ⟨by omega,by omega⟩<|.gdD ⟨z2,by omega,by omega⟩<|.gdD ⟨by omega,z2,by omega⟩<|.pure ?_;rw[<- z4];simp only[cpy,Nat.zero_add,show(0:Int).toNat=0 from rfl,List.drop_zero,Nat.sub_zero]
 split
 .rw[ad2,List.take_append_of_le_length (by rw[ad5];omega),List.take_take,Nat.min_self]
 rfl
def alw(p:List<|List ZW)(m:List ah)(c:ZX):Bool:=match bT p c,fT p c m with
 |some (_,aae),aag (k,_)=>aai (k<0)
 |_,_=>aaf
def ocV(p:List<|List ZW)(c:ZX):LI:=match bT p c with
 |some (V,_)=>LM p (c.From,c.Order) V
 |none=>[]
structure AlB(p:List (List ZW))(m:List ah)(x:XS)(V W R:List Int)(k:Int)(b:Bool):Prop where
 v:bT p ⟨x.1,x.2⟩=aag (V,b)
 w:dY p ⟨x.1,x.2⟩=aag (W,b)
 i:fT p ⟨x.1,x.2⟩ m=aag (k,R)
 s:lj p ⟨x.1,x.2⟩ m=aag k
 vok:b=aae->Vok p x V
 wok:b=aae->Vok p x W
 e:b=aae->LM p x W=LM p x V
 a:alw p m ⟨x.1,x.2⟩=(b&&aai (k<0))
 o:ocV p ⟨x.1,x.2⟩=LM p x V
theorem alB(hv:bh (Z4 p)=aae)(hm:vaM m=aae)(C:Cand p x<|GR p):∃V W R k b,AlB p m x V W R k b:=by
 have hp:=PV.of hv;have hN:(evs p).length<=16:=ad8 (UV hv) (by omega);obtain⟨V,W,b,k1,k2,k3⟩:=Ot hp C;obtain⟨m1,m2⟩:=U1 hm;obtain⟨⟨k,R⟩,i1,i2,_⟩:=YL hN (λnm hn=>YI hp C hn) m1 (by omega);obtain⟨k',s1,s2⟩:=YM hN (λnm hn=>YO hp C hn) m1 (by omega);obtain rfl:k'=k:=s2.uniq i2;refine⟨V,W,R,k',b,k1,k2,i1,s1,λe=>?_,λe=>?_,λe=>?_,?_,?_⟩
 .obtain⟨a1,a2,a3⟩:=k3 e;exact Vok.of hp C a1 λi hi hw=>(a3 i hi hw).1
 .obtain⟨a1,a2,a3⟩:=k3 e;exact Vok.of hp C a2 λi hi hw=>by
   obtain⟨c1,c2⟩:=a3 i hi hw;rw[c2];exact c1
 .obtain⟨a1,a2,a3⟩:=k3 e;exact Ou hp C λi hi hw=>(a3 i hi hw).2
 .unfold alw;rw[k1,i1]
  cases b <;> rfl
 unfold ocV;rw[k1]
theorem AlB.allowed{V W R:LI}{k:Int}{b:Bool}(h:AlB p m x V W R k b):Z1 (qL p ⟨x.1,x.2⟩ m) (· =alw p m ⟨x.1,x.2⟩):=by
 unfold qL;rw[h.a];refine(Z1.of (P:=(· =(V,b))) h.v rfl).bind λv hv=>?_;subst hv;refine .bif (λe=>.pure ?_) λe=>(Z1.of (P:=(· =(k,R))) h.i rfl).bind λw hw=>.pure ?_
 .rw[show b=aaf by simpa using e];rfl
 rw[hw,show b=aae by simpa using e];rfl
theorem D6(hv:bh (Z4 p)=aae)(hsz:p.length<=1048576/\total p<=1048576)(hm:vaM m=aae):Z1 (dM p m) (· =(aY p).filter (alw p m)):=by
 have hp:=PV.of hv;have hV:aZ p=aag aae:=by rw[show aZ p=aag (bh<|Z4 p) from gJ (decide_eq_true hsz),hv]
 have hm5:=(U1 hm).2;unfold dM;refine(Z1.of (P:=(· =aae)) hV rfl).bind λv1 h1=>?_;subst h1;refine Z1.bind (P:=(· =aaf)) (.bif (λh=>by cases h) λ_=>(LK<|by omega).bind λv hv=>.pure<|by rw[hv,hm];rfl) λv hv2=>?_;subst hv2;refine .bif (λh=>by cases h) λ_=>(QG hv).bind λv6 h6=>?_;subst h6;refine Z1.bind (P:=(· =(aY p).filter (alw p m))) (Uf (aY p) (by have:=zT hv;omega) λc hc=>?_) λv hv=>.pure hv;unfold cH;obtain⟨V,W,R,k,b,h⟩:=alB hv hm<|nO hp hc;exact h.allowed.bind λb hb=>.pure (by rw[hb])
theorem Ke(hv:bh (Z4 p)=aae)(hm:vaM m=aae):Z1 (jT p m) (· =(aY p).filter (alw p m)):=by
 have hp:=PV.of hv;have hle:=zT hv;unfold jT;refine(QH hv).bind λv1 h1=>?_;subst h1;refine Z1.bind (P:=(· =(aY p).filter (alw p m))) ?_ λv hv=>.pure hv;refine Z1.loop (λz=>∃n:Nat,n<=(aY p).length/\z=(((aY p).take n).filter<|alw p m,(n:Int))) (λz=>(((aY p).length:Int)-z.2).toNat) ⟨0,by omega,by simp⟩ λz ⟨n,n1,n2⟩=>?_;subst n2;unfold uI J;simp only[tnn];refine .bifD (λhk=>?_) λhk=>.pure (by rw[aev (by omega)]);have hn:n<(aY p).length:=by omega
 have hlen:(((aY p).take n).filter<|alw p m).length<=3000:=ad8 (aek _ _) (by rw[ad5];omega);refine Z1.bind (P:=(· =((aY p).take<|n+1).filter (alw p m))) (.gdD ⟨by omega,hk⟩ ?_) λv hv=>.gdI (by omega)<|.pure ⟨⟨n+1,by omega,by rw[hv];rfl⟩,by simp only[];omega⟩;rw[dO hn,aet];obtain⟨V,W,R,k,b,h⟩:=alB hv hm<|nO hp<|getD_in hn;refine(Z1.of (P:=(· =(W,b))) h.w rfl).bind λw hw=>?_;subst hw;refine Z1.bind (P:=(· =alw p m ((aY p).getD n aad))) ?_ λv hv=>?_
 .rw[show alw p m ((aY p).getD n aad)=(b&&aai (k<0)) from h.a];refine .bif (λe=>(Z1.of (P:=(· =k)) h.s rfl).bind λu hu=>.pure ?_) λe=>.pure ?_
  .rw[hu,show b=aae from e];rfl
  rw[show b=aaf from e];rfl
 subst hv;refine .bif (λe=>.gd (aK (by omega) rfl)<|.pure ?_) λe=>.pure ?_
 .rw[aeE e]
  rfl
 rw[aeu (by rw[e];decide)];simp
def exR:Option ZX->ZX×Bool
 |some c=>(c,aae)
 |none=>(⟨[],[]⟩,aaf)
theorem Rw{α:Type}[Inhabited α]{f:α->Bool}{l:List α}{n:Nat}(hn:n<l.length)(h:∀j,j<n->f (l.getD j aad)=aaf)(hf:f (l.getD n aad)=aae):l.find? f=aag (l.getD n aad):=by
 have e:l=l.take n++l.getD n aad::l.drop (n+1):=by
  rw[gdq,geq hn];exact(aer n l).symm.trans (congrArg (l.take n ++ ·)<|List.drop_eq_getElem_cons hn)
 have h1:(l.take n).find? f=aah:=by
  rw[aew];intro y hy;obtain⟨j,hj,rfl⟩:=adY hy;rw[ad5] at hj;have:=h j (by omega);rw[gdq,geq (by omega)] at this;rw[List.getElem_take];simpa using this
 generalize hc:l.getD n aad=c at e hf;rw[e,List.find?_append,h1,List.find?_cons_of_pos hf]
 rfl
theorem Rx{α:Type}[Inhabited α]{f:α->Bool}{l:List α}(h:∀j,j<l.length->f (l.getD j aad)=aaf):l.find? f=aah:=by
 rw[aew];intro y hy;obtain⟨j,hj,rfl⟩:=adY hy;have:=h j hj;rw[gdq,geq hj] at this;simpa using this
theorem Ng(hv:bh (Z4 p)=aae)(hm:vaM m=aae)(C:Cand p x<|GR p)(ha:alw p m ⟨x.1,x.2⟩=aae):∃V W R k,AlB p m x V W R k aae/\gO p o ⟨x.1,x.2⟩=aai (LM p x V=o):=by
 obtain⟨V,W,R,k,b,h⟩:=alB hv hm C;have hb:b=aae:=by
  rw[h.a] at ha;exact(ael.1 ha).1
 subst hb;refine⟨V,W,R,k,h,?_⟩;unfold gO;rw[h.v]
theorem LN{n:Nat}(hn:n<((aY p).filter<|alw p m).length):((aY p).filter<|alw p m).getD n aad∈aY p/\alw p m (((aY p).filter<|alw p m).getD n aad)=aae:=by
 have:=getD_in hn;exact aeb.1 this
theorem Gd(hv:bh (Z4 p)=aae)(hm:vaM m=aae){n:Nat}(hn:n<((aY p).filter<|alw p m).length):Z1 (di p<|((aY p).filter<|alw p m).getD n aad) λq=>q.2=aae/\q.1=ocV p (((aY p).filter<|alw p m).getD n aad):=by
 obtain⟨h1,h2⟩:=LN hn;have hp:=PV.of hv;have C:=nO hp h1;obtain⟨V,W,R,k,h,_⟩:=Ng (o:=[]) hv hm C h2;refine(XY hp C h.v h.vok).mono λq ⟨q1,q2⟩=>⟨q1,?_⟩;rw[q2 rfl];exact h.o.symm
theorem Ry(hv:bh (Z4 p)=aae)(hm:vaM m=aae){n:Nat}(hn:n<((aY p).filter<|alw p m).length):gO p o (((aY p).filter<|alw p m).getD n aad)=aai (ocV p (((aY p).filter<|alw p m).getD n aad)=o)/\(ocV p<|((aY p).filter<|alw p m).getD n aad).length=3*p.length+3:=by
 obtain⟨h1,h2⟩:=LN hn;have hp:=PV.of hv;have C:=nO hp h1;obtain⟨V,W,R,k,h,h3⟩:=Ng (o:=o) hv hm C h2;exact⟨h3.trans (by rw[<- h.o]),by rw[show ocV p (((aY p).filter<|alw p m).getD n aad)=_ from h.o];exact Nf V⟩
theorem Rz(h:vaO p o=aae):bh (Z4 p)=aae/\o.length=3*p.length+3:=by
 unfold vaO at h;simp only[bae,dte] at h;exact⟨h.1,h.2.1⟩
def exF(p:List<|List ZW)(m:List ah)(o:LI):ZX×Bool:=if (vaO p o&&vaM m)=aae then exR (((aY p).filter<|alw p m).find?<|gO p o) else (⟨[],[]⟩,aaf)
theorem RA(hsz:p.length<=1048576/\total p<=1048576)(hml:m.length<=1048576)(ho:o.length<=1048576):Z1 (qM p m o) (· =exF p m o):=by
 unfold qM exF;refine(U2 hsz ho).bind λv1 h1=>?_;subst h1;refine Z1.bind (P:=(· = !(vaO p o&&vaM m))) (.bif (λh=>.pure<|by rw[(ad0 _).mp h];rfl) λh=>(LK<|by omega).bind λw hw=>.pure<|by rw[(ad1 _).mp h,hw];rfl) λu hu=>?_;subst hu;refine .bif (λh=>.pure<|by rw[if_neg (by rw[(ad0 _).mp h];decide)]) λh=>?_;have h:=(ad1 _).mp h;rw[if_pos h];obtain⟨hvo,hm⟩:=ael.1 h;obtain⟨hv,hol⟩:=Rz hvo;have hp:=PV.of hv;have hp3:=hp.vs.1;refine Z1.sum (PS:=λ_=>((aY p).filter<|alw p m).find? (gO p o)=aah) (PW:=(· =exR (((aY p).filter<|alw p m).find?<|gO p o))) ((D6 hv hsz hm).bind λv7 h7=>?_) λ_ hh=>.pure (by rw[hh];rfl);subst h7;have hlen:((aY p).filter<|alw p m).length<=3000:=ad8 (aek _ _)<|zT hv;refine Z1.loop (λz=>∃n:Nat,n<=((aY p).filter<|alw p m).length/\z=(n:Int)/\∀j:Nat,j<n->gO p o (((aY p).filter<|alw p m).getD j aad)=aaf) (λz=>((((aY p).filter<|alw p m).length:Int)-z).toNat) ⟨0,by omega,rfl,λt ht=>absurd ht<|ad3 t⟩ λz ⟨n,n1,n2,n3⟩=>?_;subst n2;unfold vA J;simp only[tnn];refine .bifD (λhk=>?_) λhk=>.pure<|Rx λj hj=>n3 j (by omega);have hn:n<((aY p).filter<|alw p m).length:=by omega
 obtain⟨g1,g2⟩:=Ry (o:=o) hv hm hn;refine .gdD ⟨by omega,hk⟩ ((Gd hv hm hn).bind λq ⟨_,q2⟩=>?_);rw[q2];refine(zN (by omega)).bind λb hb=>?_;rw[<- g1] at hb;subst hb;exact .bif (λe=>.pure (by rw[Rw hn n3 e];rfl)) λe=>.gdI (by omega) (.pure ⟨⟨n+1,by omega,rfl,λj hj=>by
  rcases aee j n with g|g
  .exact n3 j g
  rw[show j=n by omega];exact e⟩,by omega⟩)
theorem RB(hsz:p.length<=1048576/\total p<=1048576)(hml:m.length<=1048576)(ho:o.length<=1048576):Z1 (qY p m o) (· =exF p m o):=by
 unfold qY exF;refine(XZ hsz ho).bind λv1 h1=>?_;subst h1;refine Z1.bind (P:=(· = !(vaO p o&&vaM m))) (.bif (λh=>.pure<|by rw[(ad0 _).mp h];rfl) λh=>(Wh<|by omega).bind λw hw=>.pure<|by rw[(ad1 _).mp h,hw];rfl) λu hu=>?_;subst hu;refine .bif (λh=>.pure<|by rw[if_neg (by rw[(ad0 _).mp h];decide)]) λh=>?_;have h:=(ad1 _).mp h;rw[if_pos h];obtain⟨hvo,hm⟩:=ael.1 h;obtain⟨hv,hol⟩:=Rz hvo;have hp:=PV.of hv;have hp3:=hp.vs.1;refine(Ke hv hm).bind λv7 h7=>?_;subst h7;refine Z1.sum (PS:=λ_=>((aY p).filter<|alw p m).find? (gO p o)=aah) (PW:=(· =exR (((aY p).filter<|alw p m).find?<|gO p o))) ?_ λ_ hh=>.pure (by rw[hh];rfl);have hlen:((aY p).filter<|alw p m).length<=3000:=ad8 (aek _ _)<|zT hv;refine Z1.loop (λz=>∃n:Nat,n<=((aY p).filter<|alw p m).length/\z=(n:Int)/\∀j:Nat,j<n->gO p o (((aY p).filter<|alw p m).getD j aad)=aaf) (λz=>((((aY p).filter<|alw p m).length:Int)-z).toNat) ⟨0,by omega,rfl,λt ht=>absurd ht<|ad3 t⟩ λz ⟨n,n1,n2,n3⟩=>?_;subst n2;unfold vH J;simp only[tnn];refine .bifD (λhk=>?_) λhk=>.pure<|Rx λj hj=>n3 j (by omega);have hn:n<((aY p).filter<|alw p m).length:=by omega
 obtain⟨m1,m2⟩:=LN hn;have C:=nO hp m1;obtain⟨V,W,R,k,H,g1⟩:=Ng (o:=o) hv hm C m2;have hl:=Nf (p:=p) (x:=((((aY p).filter<|alw p m).getD n aad).From,(((aY p).filter<|alw p m).getD n aad).Order)) V;refine .gdD ⟨by omega,hk⟩ ((Z1.of (P:=(· =(W,aae))) H.w rfl).bind λw hw=>?_);subst hw;refine(YQ hp C<|H.wok rfl).bind λu hu=>?_;rw[H.e rfl] at hu;subst hu;refine(IY (by rw[hl,hol])<|by omega).bind λb hb=>?_;subst hb;have g1:gO p o (((aY p).filter<|alw p m).getD n aad)=aai (LM p ((((aY p).filter<|alw p m).getD n aad).From,(((aY p).filter<|alw p m).getD n aad).Order) V=o):=g1;refine .bif (λe=>.pure ?_) λe=>.gdI (by omega)<|.pure ⟨⟨n+1,by omega,rfl,λj hj=>?_⟩,by omega⟩
 .rw[beq_iff_eq] at e;rw[Rw hn n3 (by rw[g1];exact decide_eq_true<|cmpL_eq e)]
  rfl
 rcases aee j n with g|g
 .exact n3 j g
 rw[show j=n by omega,g1];refine decide_eq_false λe2=>?_;rw[e2,uo] at e
 cases e
theorem RD{α:Type}[Inhabited α]{l:List α}{v:α}(h:v∈l):∃i,i<l.length/\l.getD i aad=v:=by
 obtain⟨i,hi,e⟩:=adY h;exact⟨i,hi,by rw[gdq,geq hi];exact e⟩
theorem C8(hv:bh (Z4 p)=aae)(hsz:p.length<=1048576/\total p<=1048576)(hm:vaM m=aae):Z1 (fu p m) (Sor<|((aY p).filter<|alw p m).map<|ocV p):=by
 have hlen:((aY p).filter<|alw p m).length<=3000:=ad8 (aek _ _)<|zT hv;have hp3:=(PV.of hv).vs.1;unfold fu;refine Z1.bind (P:=(· =((aY p).filter<|alw p m).map (ocV p))) ((D6 hv hsz hm).bind λv hv'=>?_) λv hv'=>?_
 .subst hv';refine Z1.loop (λz=>∃n:Nat,n<=((aY p).filter<|alw p m).length/\z=((((aY p).filter<|alw p m).take n).map<|ocV p,(n:Int))) (λz=>((((aY p).filter<|alw p m).length:Int)-z.2).toNat) ⟨0,by omega,by simp⟩ λz ⟨n,n1,n2⟩=>?_;subst n2;unfold oQ J;simp only[tnn];refine .bifD (λhk=>?_) λhk=>.pure (by rw[aev (by omega)]);have hn:n<((aY p).filter<|alw p m).length:=by omega
  refine .gdD ⟨by omega,hk⟩<|(Gd hv hm hn).bind λq ⟨_,q2⟩=>.gd (aK (by rw[llm,ad5];omega) rfl)<|.gdI (by omega)<|.pure ⟨⟨n+1,by omega,?_⟩,by simp only[];omega⟩;rw[q2,dO hn,List.map_append]
  rfl
 subst hv';refine(Oc (by rw[llm];omega) λr hr=>?_).bind λv hv=>.pure hv;obtain⟨c,hc,rfl⟩:=aex.1 hr;obtain⟨n,hn,rfl⟩:=RD hc;have:=(Ry (o:=[]) hv hm hn).2;omega
end
section
variable{p:List (List ZW)}{x:XS}{F:LI}
theorem Nh(hp:PV p)(C:Cand p x<|GR p):Chk p x:=by
 have operm:∀l:Nat,l<3->(x.2.getD l aad).Perm (Z3 p (l:Int)):=λl hl=>by
  have O:=C.ods (l:Int) (by omega);unfold od at O;rw[tnn] at O;refine(aeC O.nd<|QW _).2 λn=>?_;rw[O.mem];unfold Z3;rw[aeb];unfold Wl;rw[bae,dte];exact Iff.rfl
 refine⟨C.flen,C.olen,λn hn=>?_,λl hl=>⟨operm l hl,?_⟩⟩
 .have hm:(n:Int)∈GR p:=(C.mem _).2 ⟨by omega,by omega⟩
  split
  .rename_i hr;have h1:=C.rdc _ hm hr;have h2:=C.ne _ hm hr;have hl:=sO hp (n:=(n:Int)) (by omega) (by omega);have hpm:=operm (ev p (n:Int)).Loc.toNat (by omega);rw[ad6 hl.1] at hpm;rw[tnn] at h1 h2;exact⟨hpm.mem_iff.1 h1,h2⟩
  rename_i hr;have:=C.frN _ hm (by simpa using hr)
  rwa [tnn] at this
 obtain⟨t,ht⟩:=C.hd l hl;unfold od at ht;rw[tnn] at ht;show(x.2.getD l []).getD 0 aad=l;rw[ht]
 rfl
theorem RE(hp:PV p)(hv:bh (Z4 p)=aae)(hsz:p.length<=1048576/\total p<=1048576)(C:Cand p x<|GR p):Z1 (jX p ⟨x.1,x.2⟩) (· =aae):=by
 have hX:=YF hp C;refine(UR hp hv hsz λr hr=>?_).mono λb hb=>hb.2<|Nh hp C;obtain⟨i,hi,rfl⟩:=adY hr;have O:(x.2.getD i aad).Perm (Z3 p (i:Int)):=((Nh hp C).ords i<|by rw[C.olen] at hi;exact hi).1;rw[gdq,geq hi] at O;have h1:=O.length_eq;have h2:=QZ (p:=p) (i:Int);have h3:=kE hp.vs;show x.2[i].length<=_;have h4:(aag x.2[i]).getD aad=x.2[i]:=rfl;rw[h4] at h1;omega
theorem RF(hp:PV p) : ¬ Chk p (([]:LI),([]:LL)):=λh=>by have:=h.o;cases this
end
section
variable{α:Type}{r:Option α}
theorem o7{n:Int}{x:Option α}(h : -9223372036854775808<=n/\n<=9223372036854775807)(hx:x=r):gd (ZU .i64 n) x=r:=by rw[gJ (DX h)];exact hx
theorem BO{A:Prop}[Decidable A]{x:Option α}(h:A)(hx:x=r):gd (decide A) x=r:=by rw[gJ (decide_eq_true h)];exact hx
theorem RG{b:Bool}{x y:Option α}(h:b=aae)(hx:x=r):(bif b then x else y)=r:=by rw[h];exact hx
theorem LO{b:Bool}{x y:Option α}(h:b=aaf)(hx:y=r):(bif b then x else y)=r:=by rw[h];exact hx
theorem C9{β:Type}{o:Option β}{k:β->Option α}{v:β}(h:o=aag v)(hx:k v=r):o.bind k=r:=by rw[h];exact hx
end
def Bts(b:LI):Prop:=b.length<=1048576/\∀y∈b,0<=y/\y<=255
theorem Bts.get{b:LI}(h:Bts b)(k:Nat):0<=b.getD k aad/\b.getD k aad<=255:=by
 rw[gdq]
 by_cases hk:k<b.length
 .rw[geq hk];exact h.2 _<|ad9 _
 rw[gen (by omega)];exact⟨by decide,by decide⟩
theorem Ug{m n:Int}(hm:0<=m/\m<=1000000000000)(hn:0<=n/\n<=1000000000000):0<=W7 .i64 m n:=by
 have e1:∀x:Int,0<=x->x<=1000000000000->(aem 64 x).toNat<2 ^ 62:=by
  intro x h1 h2;rw[BitVec.toNat_ofInt];have : x % ((2:Nat) ^ 64:Nat)=x:=by
   rw[Int.emod_eq_of_lt h1];omega
  omega
 have h3:(aem 64 m ^^^ aem 64 n).toNat<2 ^ 62:=by
  rw[BitVec.toNat_xor];exact Nat.xor_lt_two_pow (e1 m hm.1 hm.2)<|e1 n hn.1 hn.2
 have h4:=IntWalk.i64_in (((aem 64 m ^^^ aem 64 n).toNat:Nat):Int) ⟨by omega,by omega⟩;unfold W7;rw[show IntKind.i64.bits=64 from rfl,h4];omega
theorem Uh{a n:Int}(ha:0<=a)(hn:0<n):0<=a.tmod n/\a.tmod n<n:=by
 rw[Int.tmod_eq_emod_of_nonneg ha];exact⟨Int.emod_nonneg _ (by omega),Int.emod_lt_of_pos _ hn⟩
theorem X0{a n:Int}(ha:0<=a)(hn:0<=n):0<=a.tdiv n/\a.tdiv n<=a:=by
 rw[Int.tdiv_eq_ediv_of_nonneg ha];exact⟨Int.ediv_nonneg ha hn,Int.ediv_le_self _ ha⟩
theorem RH{b:LI}{p:Int}(hb:Bts b)(hp:0<=p/\p<=100000000)(n:Int):∃v,av ⟨b,p⟩ n=aag (⟨b,p+1⟩,v)/\0<=v/\(v<n\/v=0):=by
 have hl:=hb.1;have e1:p+1-1=p:=by omega
 unfold av J;simp only[e1]
 by_cases h0:n<1\/b.length=0
 .refine⟨0,?_,adX _,.inr rfl⟩;refine o7 (by omega) ?_;refine C9 (v:=true) ?_<|RG rfl rfl
  by_cases hn:n<1
  .exact RG (by simp[hn]) rfl
  refine LO (by simp[hn]) ?_;have : b.length=0:=by omega
  simp[this]
 have hn:1<=n:=by omega
 have hl0:0<(b.length:Int):=by omega
 by_cases hlt:p<(b.length:Int)
 .have hg:=hb.get p.toNat;have hv:=Uh hg.1 (show(0:Int)<n by omega);refine⟨(b.getD p.toNat aad).tmod n,?_,hv.1,.inl hv.2⟩;refine o7 (by omega) ?_;refine C9 (v:=false) (LO (by simp;omega)<|congrArg aag<|beq_eq_false_iff_ne.2<|by omega) (LO rfl ?_);refine o7 (by omega)<|RG (by simpa using hlt) ?_;exact BO (by omega)<|o7 (by omega)<|BO (by omega) rfl
 have h1:=Uh hp.1 hl0;have h2:=X0 hp.1 (show 0<=(b.length:Int) by omega);have h3:=Uh (a:=p*7+3) (by omega) hl0;have h4:=hb.get (p.tmod (b.length:Int)).toNat;have h5:=hb.get ((p*7+3).tmod (b.length:Int)).toNat;have hx:0<=(b.getD (p.tmod (b.length:Int)).toNat aad)*131+(b.getD ((p*7+3).tmod (b.length:Int)).toNat aad)*1117+p*29+p.tdiv (b.length:Int)*53 /\
  (b.getD (p.tmod (b.length:Int)).toNat aad)*131+(b.getD ((p*7+3).tmod (b.length:Int)).toNat aad)*1117+p*29+p.tdiv (b.length:Int)*53<=1000000000000:=by omega
 have h6:=X0 hx.1 (show(0:Int)<=64 by omega);have h7:=Ug hx ⟨h6.1,Int.le_trans h6.2 hx.2⟩;have hv:=Uh h7 (show(0:Int)<n by omega);refine⟨_,?_,hv.1,.inl hv.2⟩;refine o7 (by omega) ?_;refine C9 (v:=false) (LO (by simp;omega)<|congrArg aag<|beq_eq_false_iff_ne.2<|by omega) (LO rfl ?_);refine o7 (by omega)<|LO (by simpa using hlt) ?_;refine BO (by omega)<|BO h1<|o7 (by omega)<|o7 (by omega)<|o7 (by omega)<|o7 (by omega)<|BO h3<|o7 (by omega) ?_;refine o7 (by omega)<|o7 (by omega)<|o7 (by omega)<|o7 (by omega)<|o7 (by omega)<|o7 (by omega)<|o7 (by omega) ?_;refine BO (by omega)<|o7 (by omega)<|BO (by omega) rfl
theorem X3{b:LI}{p:Int}(hb:Bts b)(hp:0<=p/\p<=100000000)(l:LI)(hl:l≠[]):∃v,bq ⟨b,p⟩ l=aag (⟨b,p+1⟩,v)/\v∈l:=by
 obtain⟨v,h1,h2,h3⟩:=RH hb hp (l.length:Int);have hpos:0<l.length:=aeF.2 hl;have h4:v<(l.length:Int):=by omega
 refine⟨l.getD v.toNat aad,?_,?_⟩
 .unfold bq J;exact C9 h1<|BO ⟨h2,h4⟩ rfl
 rw[gdq,geq (by omega)];exact ad9 _
theorem Wi{b:LI}(hb:Bts b):∃b',mP b=aag ⟨b',0⟩/\Bts b':=by
 unfold mP
 by_cases h:(2000:Int)<(b.length:Int)
 .refine⟨_,C9 (RG (by simpa using h)<|BO (by omega) rfl) rfl,?_,λy hy=>?_⟩
  .rw[ad5];omega
  exact hb.2 y<|List.mem_of_mem_drop<|aeG hy
 exact⟨b,C9 (LO (by simpa using h) rfl) rfl,hb⟩
def Rd(k:Int)(r:ae):Prop:=Bts r.b/\0<=r.p/\r.p<=k
theorem Rd.mono{k k':Int}{r:ae}(h:Rd k r)(hk:k<=k'):Rd k' r:=⟨h.1,h.2.1,by have:=h.2.2;omega⟩
theorem Rd.mk'{k:Int}{r:ae}(h:Rd k r):Rd k ⟨r.b,r.p⟩:=h
theorem bM{k:Int}{r:ae}(h:Rd k r)(hk:k<=100000000)(n:Int):Z1 (av r n) λv=>Rd (k+1) v.1/\0<=v.2/\(v.2<n\/v.2=0):=by
 obtain⟨b,p⟩:=r;obtain⟨h1,h2,h3⟩:=h;obtain⟨v,e,h4,h5⟩:=RH h1 (p:=p) ⟨h2,by simp only at h3;omega⟩ n;exact⟨_,e,⟨h1,by simp only at h2 ⊢;omega,by simp only at h3 ⊢;omega⟩,h4,h5⟩
theorem AJ{k:Int}{r:ae}(h:Rd k r)(hk:k<=100000000)(l:LI)(hl:l≠[]):Z1 (bq r l) λv=>Rd (k+1) v.1/\v.2∈l:=by
 obtain⟨b,p⟩:=r;obtain⟨h1,h2,h3⟩:=h;obtain⟨v,e,h4⟩:=X3 h1 (p:=p) ⟨h2,by simp only at h3;omega⟩ l hl;exact⟨_,e,⟨h1,by simp only at h2 ⊢;omega,by simp only at h3 ⊢;omega⟩,h4⟩
theorem Ui{b:LI}(h:Bts b):Z1 (mP b) (Rd 0):=by
 obtain⟨b',e,h'⟩:=Wi h;exact⟨_,e,h',adX _,adX _⟩
def rX(s:BA)(c:Int):((List BA)×Int×Int)->Option (((List BA)×Int×Int) ⊕ (List BA)):=λs5=>
 bif aai (s5.2.1<=(s.size:Int)) then
  adU (
   adU (bif (s5.2.1==(s.size:Int)) then
    aag aae
   else
    gd (aai<|0<=s5.2.1/\s5.2.1<(s.size:Int)) <|
    aag (((s.data.getD s5.2.1.toNat 0).toNat:Int)==c)
   ) λs10=>
   bif s10 then
    gd (aai<|0<=s5.2.2/\s5.2.2<=s5.2.1/\s5.2.1<=(s.size:Int)) <|
    gd (aR (s5.1.length+1) 16) <|
    gd (ZU .i64<|s5.2.1+(1:Int)) <|
    aag ((s5.1++[(s.extract s5.2.2.toNat s5.2.1.toNat)]),(s5.2.1+(1:Int)))
   else
    aag (s5.1,s5.2.2)
  ) λs9=>
  gd (ZU .i64<|s5.2.1+(1:Int)) <|
  aag (.inl (s9.1,(s5.2.1+(1:Int)),s9.2))
 else
  aag (.inr s5.1)
theorem AK(s:BA)(c:Int)(sQ:_):Le (rX s c sQ) (jZ s c sQ):=by
 unfold rX jZ
 solve_by_elim (maxDepth:=9999) only[*,Le.gd,Le.bif,Le.bind,Le.sumK,Le.loop,Le.nilK,Le.ifc,Le.refl]
def tF(s:BA)(c:Int):Option (List BA):=
 adU (
  pV 40 (rX s c) (([]:List BA),(0:Int),(0:Int))
 ) λs1=>
 aag s1
theorem yf(s:BA)(c:Int):Le (tF s c) (fH s c):=by
 unfold tF fH
 solve_by_elim (maxDepth:=9999) only[*,AK,Le.gd,Le.bif,Le.bind,Le.sumK,Le.loop,Le.nilK,Le.ifc,Le.refl]
def cQ(s:BA)(at_:Int)(from_:Int)(most:Int):Option Int:=
 adU (bif aai ((s.size:Int)<=at_) then
  aag aae
 else
  gd (aai<|0<=at_/\at_<(s.size:Int)) <|
  aag (aai<|((s.data.getD at_.toNat 0).toNat:Int)<from_)
 ) λs1=>
 adU (bif s1 then
  aag aae
 else
  gd (aai<|0<=at_/\at_<(s.size:Int)) <|
  gd (ZU .u8<|((s.data.getD at_.toNat 0).toNat:Int)-from_) <|
  gd (ZU .i64<|((s.data.getD at_.toNat 0).toNat:Int)-from_) <|
  aag (aai<|most<(((s.data.getD at_.toNat 0).toNat:Int)-from_))
 ) λs4=>
 bif s4 then
  aag (-1:Int)
 else
  gd (aai<|0<=at_/\at_<(s.size:Int)) <|
  gd (ZU .u8<|((s.data.getD at_.toNat 0).toNat:Int)-from_) <|
  gd (ZU .i64<|((s.data.getD at_.toNat 0).toNat:Int)-from_) <|
  aag (((s.data.getD at_.toNat 0).toNat:Int)-from_)
theorem Da(s:BA)(at_:Int)(from_:Int)(most:Int):Le (cQ s at_ from_ most) (cu s at_ from_ most):=by
 unfold cQ cu
 solve_by_elim (maxDepth:=9999) only[*,Le.gd,Le.bif,Le.bind,Le.sumK,Le.loop,Le.nilK,Le.ifc,Le.refl]
def vU(s:BA):Option ZW:=
 bif aai (s=(⟨#[102,101,110,99,101]⟩:BA)) then
  aag (⟨(4:Int),(0:Int),(0:Int),(0:Int)⟩:ZW)
 else
  adU (cQ s (0:Int) (97:Int) (2:Int)) λv2=>
  adU (cQ s (0:Int) (120:Int) (2:Int)) λv3=>
  adU (bif aai ((0:Int)<=v2) then
   aag ((s.size:Int)==(3:Int))
  else
   aag aaf
  ) λs4=>
  bif s4 then
   adU (cQ s (2:Int) (120:Int) (2:Int)) λv7=>
   aag (⟨(1:Int),v7,v2,(0:Int)⟩:ZW)
  else
   adU (bif aai ((0:Int)<=v2) then
    aag ((s.size:Int)==(5:Int))
   else
    aag aaf
   ) λs8=>
   bif s8 then
    adU (cQ s (2:Int) (120:Int) (2:Int)) λv11=>
    adU (cQ s (4:Int) (48:Int) (3:Int)) λv12=>
    aag (⟨(5:Int),v11,v2,v12⟩:ZW)
   else
    adU (bif aai ((0:Int)<=v3) then
     adU (cQ s (2:Int) (97:Int) (2:Int)) λv15=>
     aag (aai<|(0:Int)<=v15)
    else
     aag aaf
    ) λs13=>
    bif s13 then
     adU (cQ s (2:Int) (97:Int) (2:Int)) λv17=>
     aag (⟨(3:Int),v3,v17,(0:Int)⟩:ZW)
    else
     adU (cQ s (2:Int) (48:Int) (3:Int)) λv18=>
     aag (⟨(2:Int),v3,(0:Int),v18⟩:ZW)
theorem Db(s:BA):Le (vU s) (mR s):=by
 unfold vU mR
 solve_by_elim (maxDepth:=9999) only[*,Da,Le.gd,Le.bif,Le.bind,Le.sumK,Le.loop,Le.nilK,Le.ifc,Le.refl]
def ju(v1:(List BA))(s6:(List<|List ZW)×Int)(v14:(List BA)):((List ZW)×Int)->Option (((List ZW)×Int) ⊕ (List ZW)):=λs19=>
 adU (bif aai (s19.2<(v14.length:Int)) then
  aag (aai<|s19.2<=(7:Int))
 else
  aag aaf
 ) λs22=>
 adU (bif s22 then
  aag (!decide ((v1.getD s6.2.toNat aad)=(⟨#[]⟩:BA)))
 else
  aag aaf
 ) λs24=>
 bif s24 then
  gd (aai<|0<=s19.2/\s19.2<(v14.length:Int)) <|
  adU (vU<|v14.getD s19.2.toNat aad) λv28=>
  gd (aR (s19.1.length+1) 32) <|
  gd (ZU .i64<|s19.2+(1:Int)) <|
  aag (.inl ((s19.1++[v28]),(s19.2+(1:Int))))
 else
  aag (.inr s19.1)
theorem vk(v1:(List BA))(s6:(List<|List ZW)×Int)(v14:(List BA))(sQ:_):Le (ju v1 s6 v14 sQ) (jr v1 s6 v14 sQ):=by
 unfold ju jr J
 solve_by_elim (maxDepth:=9999) only[*,Db,Le.gd,Le.bif,Le.bind,Le.sumK,Le.loop,Le.nilK,Le.ifc,Le.refl]
def kI(v1:(List BA)):((List<|List ZW)×Int)->Option (((List<|List ZW)×Int) ⊕ (List<|List ZW)):=λs6=>
 adU (bif aai (s6.2<(v1.length:Int)) then
  aag (aai<|s6.2<=(3:Int))
 else
  aag aaf
 ) λs9=>
 bif s9 then
  adU (
   gd (aai<|0<=s6.2/\s6.2<(v1.length:Int)) <|
   adU (tF (v1.getD s6.2.toNat aad) (59:Int)) λv14=>
   adU (
    pV 40 (ju v1 s6 v14) (([]:List ZW),(0:Int))
   ) λs15=>
   gd (aR (s6.1.length+1) 24) <|
   aag (s6.1++[s15])
  ) λs12=>
  gd (ZU .i64<|s6.2+(1:Int)) <|
  aag (.inl (s12,(s6.2+(1:Int))))
 else
  aag (.inr s6.1)
theorem vV(v1:(List BA))(sQ:_):Le (kI v1 sQ) (kH v1 sQ):=by
 unfold kI kH J
 solve_by_elim (maxDepth:=9999) only[*,yf,vk,Le.gd,Le.bif,Le.bind,Le.sumK,Le.loop,Le.nilK,Le.ifc,Le.refl]
def mo(p:List<|List ZW)(s4:Int×BA):(Int×BA)->Option ((Int×BA) ⊕ BA):=λs13=>
 gd (aai<|0<=s4.1/\s4.1<(p.length:Int)) <|
 bif aai (s13.1<((p.getD s4.1.toNat aad).length:Int)) then
  adU (
   bif aai ((0:Int)<s13.1) then
    gd (aai<|s13.2.size+(⟨#[59]⟩:BA).size<=9223372036854775807) <|
    aag (s13.2++(⟨#[59]⟩:BA))
   else
    aag s13.2
  ) λs17=>
  gd (aai<|0<=s13.1/\s13.1<((p.getD s4.1.toNat aad).length:Int)) <|
  adU (xe<|(p.getD s4.1.toNat aad).getD s13.1.toNat aad) λv21=>
  gd (aai<|s17.size+v21.size<=9223372036854775807) <|
  gd (ZU .i64<|s13.1+(1:Int)) <|
  aag (.inl ((s13.1+(1:Int)),(s17++v21)))
 else
  aag (.inr s13.2)
theorem xg(p:List<|List ZW)(s4:Int×BA)(sQ:_):Le (mo p s4 sQ) (mi p s4 sQ):=by
 unfold mo mi J
 solve_by_elim (maxDepth:=9999) only[*,Ek,Le.gd,Le.bif,Le.bind,Le.sumK,Le.loop,Le.nilK,Le.ifc,Le.refl]
def nQ(p:List<|List ZW):(Int×BA)->Option ((Int×BA) ⊕ BA):=λs4=>
 bif aai (s4.1<(p.length:Int)) then
  adU (
   adU (
    bif aai ((0:Int)<s4.1) then
     gd (aai<|s4.2.size+(⟨#[124]⟩:BA).size<=9223372036854775807) <|
     aag (s4.2++(⟨#[124]⟩:BA))
    else
     aag s4.2
   ) λs8=>
   pV 40 (mo p s4) ((0:Int),s8)
  ) λs7=>
  gd (ZU .i64<|s4.1+(1:Int)) <|
  aag (.inl ((s4.1+(1:Int)),s7))
 else
  aag (.inr s4.2)
theorem yB(p:List<|List ZW)(sQ:_):Le (nQ p sQ) (nP p sQ):=by
 unfold nQ nP
 solve_by_elim (maxDepth:=9999) only[*,xg,Le.gd,Le.bif,Le.bind,Le.sumK,Le.loop,Le.nilK,Le.ifc,Le.refl]
def rY(p:List<|List ZW):Option BA:=
 adU (
  pV 40 (nQ p) ((0:Int),(⟨#[]⟩:BA))
 ) λs1=>
 aag s1
theorem AL(p:List<|List ZW):Le (rY p) (j5 p):=by
 unfold rY j5
 solve_by_elim (maxDepth:=9999) only[*,yB,Le.gd,Le.bif,Le.bind,Le.sumK,Le.loop,Le.nilK,Le.ifc,Le.refl]
def dQ(text:BA):Option ((List<|List ZW)×Bool):=
 adU (tF text (124:Int)) λv1=>
 adU (
  pV 40 (kI v1) (([]:List<|List ZW),(0:Int))
 ) λs2=>
 adU (bI s2) λv36=>
 adU (bif !v36 then
  aag aae
 else
  adU (rY s2) λv39=>
  aag (!decide (v39=text))
 ) λs37=>
 bif s37 then
  aag (([]:List<|List ZW),aaf)
 else
  aag (s2,aae)
theorem pW(text:BA):Le (dQ text) (dP text):=by
 unfold dQ dP
 solve_by_elim (maxDepth:=9999) only[*,yf,vV,AL,Le.gd,Le.bif,Le.bind,Le.sumK,Le.loop,Le.nilK,Le.ifc,Le.refl]
def smI(x:ZW):Bool:=aai<|(-1<=x.Op/\x.Op<=6)/\(-1<=x.Loc/\x.Loc<=3)/\(-1<=x.Reg/\x.Reg<=3)/\(-1<=x.Val/\x.Val<=4)
def smP(p:List<|List ZW):Bool:=aai (p.length<=4)&&p.all λr=>aai (r.length<=8)&&r.all smI

open Go.RowKit
open Go.RowKit
theorem I8{p:List (List ZW)}:smP p=aae↔p.length<=4/\∀r∈p,r.length<=8/\∀x∈r,smI x=aae:=by
 simp only[smP,bae,dte,adW]
theorem I9{α:Type}{m:Nat}:∀{p:List (List α)},(∀r∈p,r.length<=m)->total p<=p.length*m
 |[],_=>by simp[total]
 |r::p,h=>by
  have h1:=I9 (p:=p) λx hx=>h x<|aeH _ hx;have h2:=h r<|List.mem_cons_self;simp only[total,List.map_cons,List.sum_cons,llc,Nat.add_mul,Nat.one_mul] at h1 ⊢;omega
theorem U3{p:List (List ZW)}(h:smP p=aae):p.length<=1048576/\total p<=1048576:=by
 rw[I8] at h;have h1:=I9 (m:=8) λr hr=>(h.2 r hr).1;have h2:p.length*8<=32:=by omega
 exact⟨by omega,by omega⟩
theorem LP{k:Int}{r:ae}(h:Rd k r)(hk:k<=10000000):Z1 (iD r) λv=>Rd (k+4) v.1/\smI v.2=aae:=by
 unfold iD;refine(bM h.mk' (by omega) 2).bind λv1 ⟨a1,a2,a3⟩=>(bM a1.mk' (by omega) 7).bind λv2 ⟨b1,b2,b3⟩=>?_;refine .bif (λ_=>.pure ⟨b1.mono (by omega),by simp only[smI];exact decide_eq_true<|by omega⟩) λ_=>?_;refine .bif (λ_=>(bM b1.mk' (by omega) 2).bind λv3 ⟨c1,c2,c3⟩=>.pure ⟨c1.mono (by omega),decide_eq_true<|by simp only[];omega⟩) λ_=>?_;refine .bif (λ_=>(bM b1.mk' (by omega) 2).bind λv3 ⟨c1,c2,c3⟩=>(bM c1.mk' (by omega) 3).bind λv4 ⟨d1,d2,d3⟩=>.gdI (by omega)<|.pure ⟨d1.mono (by omega),decide_eq_true<|by simp only[];omega⟩) λ_=>?_;refine Z1.bind (P:=λ_=>True) (.bif (λ_=>.pure trivial) λ_=>.pure trivial) λs _=>?_;refine .bif (λ_=>(bM b1.mk' (by omega) 3).bind λv3 ⟨c1,c2,c3⟩=>.gdI (by omega)<|.pure ⟨c1.mono (by omega),decide_eq_true<|by simp only[];omega⟩) λ_=>?_;exact(bM b1.mk' (by omega) 2).bind λv3 ⟨c1,c2,c3⟩=>.pure ⟨c1.mono (by omega),decide_eq_true<|by simp only[];omega⟩
theorem Ov{k:Int}{b:LI}{p n:Int}(h:Rd k ⟨b,p⟩)(hk:k<=1000000)(hn:0<=n/\n<=3):Z1 (aA qm (b,p,([]:List ZW),n)) λv=>Rd (k+12) ⟨v.1,v.2.1⟩/\v.2.2.length<=3/\∀x∈v.2.2,smI x=aae:=by
 refine Z1.loop (λs=>Rd (k+4*(3-s.2.2.2)) ⟨s.1,s.2.1⟩/\(0<=s.2.2.2/\s.2.2.2+(s.2.2.1.length:Int)<=3)/\∀x∈s.2.2.1,smI x=aae) (λs=>s.2.2.2.toNat) ⟨h.mono (by simp only[];omega),by simp;omega,by simp⟩ λs ⟨h1,h2,h3⟩=>?_;unfold qm;refine .bifD (λh0=>?_) λh0=>.pure ⟨h1.mono (by omega),by simp only[];omega,h3⟩;refine(LP h1<|by omega).bind λv ⟨a1,a2⟩=>.gdC (by omega) rfl<|.gdI (by omega)<|.pure ⟨⟨a1.mk'.mono (by simp only[];omega),by simp only[lla,llc,aey];omega,λx hx=>?_⟩,by simp only[];omega⟩;rcases aec.1 hx with hx|hx
 .exact h3 x hx
 rw[aej.1 hx];exact a2
theorem LQ{k:Int}{b:LI}{p n:Int}(h:Rd k ⟨b,p⟩)(hk:k<=100000)(hn:0<=n/\n<=3):Z1 (aA qo (b,p,([]:List<|List ZW),n)) λv=>Rd (k+39) ⟨v.1,v.2.1⟩/\smP v.2.2=aae:=by
 refine Z1.loop (λs=>Rd (k+13*(3-s.2.2.2)) ⟨s.1,s.2.1⟩/\(0<=s.2.2.2/\s.2.2.2+(s.2.2.1.length:Int)<=3)/\∀r∈s.2.2.1,r.length<=8/\∀x∈r,smI x=aae) (λs=>s.2.2.2.toNat) ⟨h.mono (by simp only[];omega),by simp;omega,by simp⟩ λs ⟨h1,h2,h3⟩=>?_;unfold qo;refine .bifD (λh0=>?_) λh0=>.pure ⟨h1.mono (by omega),I8.2 ⟨by simp only[];omega,h3⟩⟩;refine Z1.bind (P:=λv=>Rd (k+13*(3-s.2.2.2)+13) ⟨v.1,v.2.1⟩/\∃t:List ZW,v.2.2=s.2.2.1++[t]/\t.length<=8/\∀x∈t,smI x=aae) ?_ λv ⟨a1,t,a2,a3,a4⟩=>?_
 .refine Z1.bind (P:=λv=>Rd (k+13*(3-s.2.2.2)+13) ⟨v.1,v.2.1⟩/\v.2.2.length<=3/\∀x∈v.2.2,smI x=aae) ?_ λv ⟨a1,a2,a3⟩=>.gdC (by omega) rfl<|.pure ⟨a1,v.2.2,rfl,by omega,a3⟩;refine(AJ h1 (by omega) _<|by simp).bind λv ⟨b1,b2⟩=>(Ov (n:=v.2) b1.mk' (by omega)<|by simp only[List.mem_cons,List.not_mem_nil,or_false] at b2;omega).mono λu ⟨c1,c2,c3⟩=>⟨c1.mono (by omega),c2,c3⟩
 refine .gdI (by omega)<|.pure ⟨⟨a1.mono (by simp only[];omega),by simp only[a2,lla,llc,aey];omega,λr hr=>?_⟩,by simp only[];omega⟩;simp only[a2] at hr;rcases aec.1 hr with hr|hr
 .exact h3 r hr
 rw[aej.1 hr];exact⟨a3,a4⟩
def Sm(p:List<|List ZW):Prop:=p.length<=9/\∀r∈p,r.length<=9/\∀x∈r,smI x=aae
theorem X4{p:List (List ZW)}(h:smP p=aae):Sm p:=by
 rw[I8] at h;exact⟨by omega,λr hr=>⟨by have:=(h.2 r hr).1;omega,(h.2 r hr).2⟩⟩
theorem Sm.sz{p:List (List ZW)}(h:Sm p):p.length<=1048576/\total p<=1048576:=by
 have h1:=I9 (m:=9) λr hr=>(h.2 r hr).1;have h2:p.length*9<=81:=by have:=h.1;omega
 exact⟨by have:=h.1;omega,by omega⟩
theorem Kg(x:ZW):Z1 (bF x) λ_=>True:=by
 unfold bF;exact Z1.bind (P:=λ_=>True) (.bif (λ_=>.pure trivial) λ_=>.pure trivial) λ_ _=>Z1.bind (P:=λ_=>True) (.bif (λ_=>.pure trivial) λ_=>.pure trivial) λ_ _=>.pure trivial
theorem LR(x:ZW):Z1 (bN x) λ_=>True:=by
 unfold bN;exact Z1.bind (P:=λ_=>True) (.bif (λ_=>.pure trivial) λ_=>.pure trivial) λ_ _=>.pure trivial
theorem Sm.row{p:List (List ZW)}(h:Sm p)(i:Nat):(p.getD i aad).length<=9:=by
 by_cases hi:i<p.length
 .have : p.getD i aad=p[i]:=by simp[hi]
  rw[this];exact(h.2 _<|ad9 hi).1
 rw[gdq,gen (Nat.le_of_not_lt hi)];exact Nat.zero_le _
theorem Gf{p:List (List ZW)}(hp:Sm p)(loc:Int)(wr:Bool):Z1 (cO p loc wr) λv=>0<=v/\v<=81:=by
 unfold cO;have hpl:=hp.1;refine Z1.bind (P:=λv:Int=>0<=v/\v<=81) ?_ λv hv=>.pure hv;refine Z1.loop (λs=>0<=s.1/\s.1<=(p.length:Int)/\0<=s.2/\s.2<=9*s.1) (λs=>((p.length:Int)-s.1).toNat) ⟨adX _,by simp only[];omega,adX _,adX _⟩ λs ⟨h1,h2,h3,h4⟩=>?_;unfold p6;refine .bifD (λh0=>?_) λh0=>.pure ⟨h3,by omega⟩;have hrow:=hp.row s.1.toNat;refine Z1.bind (P:=λv:Int=>0<=v/\v<=9*s.1+9) ?_ λv ⟨g1,g2⟩=>.gdI (by omega)<|.pure ⟨⟨by simp only[];omega,by simp only[];omega,g1,by simp only[];omega⟩,by simp only[];omega⟩;refine Z1.loop (λt=>0<=t.1/\t.1<=((p.getD s.1.toNat aad).length:Int)/\0<=t.2/\t.2<=9*s.1+t.1) (λt=>(((p.getD s.1.toNat aad).length:Int)-t.1).toNat) ⟨adX _,by simp only[];omega,h3,by simp only[];omega⟩ λt ⟨k1,k2,k3,k4⟩=>?_;unfold og J;refine .gdD ⟨h1,h0⟩<|.bifD (λhk=>?_) λhk=>.pure ⟨k3,by omega⟩;refine Z1.bind (P:=λv:Int=>0<=v/\v<=t.2+1) ?_ λv ⟨g1,g2⟩=>.gdI (by omega)<|.pure ⟨⟨by simp only[];omega,by simp only[];omega,g1,by simp only[];omega⟩,by simp only[];omega⟩;refine .gdD ⟨k1,hk⟩<|Z1.bind (P:=λ_=>True) ?_ λb _=>.bif (λ_=>.gdI (by omega)<|.pure ⟨by omega,by omega⟩) λ_=>.pure ⟨k3,by omega⟩;refine .bif (λ_=>?_) λ_=>.pure trivial;refine Z1.bind (P:=λ_=>True) (.bif (λ_=>(Kg _).bind λ_ _=>.pure trivial) λ_=>.pure trivial) λ_ _=>?_;refine Z1.bind (P:=λ_=>True) (.bif (λ_=>.pure trivial) λ_=>?_) λ_ _=>.pure trivial;exact Z1.bind (P:=λ_=>True) (.bif (λ_=>(LR _).bind λ_ _=>.pure trivial) λ_=>.pure trivial) λ_ _=>.pure trivial
theorem LU{p:List (List ZW)}(hp:Sm p){most:Int}(hm:0<=most/\most<=10000):Z1 (fJ p most) λ_=>True:=by
 unfold fJ;refine Z1.bind (P:=λv:Int=>0<=v/\v<=1000000000) ?_ λv ⟨h1,h2⟩=>.bifD (λ_=>.gdI (by omega)<|.pure trivial) λ_=>.pure trivial;refine Z1.loop (λs=>0<=s.1/\s.1<=3/\0<=s.2/\s.2<=1000000000) (λs=>(3-s.1).toNat) ⟨adX _,by decide,by decide,by decide⟩ λs ⟨h1,h2,h3,h4⟩=>?_;unfold p7;refine .bifD (λh0=>?_) λh0=>.pure ⟨h3,h4⟩;refine Z1.bind (P:=λv:Int=>0<=v/\v<=1000000000) ?_ λv ⟨g1,g2⟩=>.gdI (by omega)<|.pure ⟨⟨by simp only[];omega,by simp only[];omega,g1,g2⟩,by simp only[];omega⟩;refine(Gf hp _ _).bind λw ⟨w1,w2⟩=>Z1.bind (P:=λv:Int=>0<=v/\v<=1000000000) ?_ λv ⟨g1,g2⟩=>?_
 .refine Z1.loop (λt=>0<=t.1/\t.1<=81/\0<=t.2/\t.2<=1000000000) (λt=>(81-t.1).toNat) ⟨adX _,by simp only[];omega,h3,h4⟩ λt ⟨k1,k2,k3,k4⟩=>?_;unfold oh;refine(Gf hp _ _).bind λc ⟨c1,c2⟩=>Z1.bind (P:=λb=>b=(aai (t.1<c)&&aai (t.2<=most))) (.bifD (λh=>.pure<|by simp[h]) λh=>.pure<|by simp[h]) λb hb=>.bif (λht=>?_) λ_=>.pure ⟨k3,k4⟩;rw[hb] at ht;simp only[bae,dte] at ht;have e1:0<=t.2*(w+1)/\t.2*(w+1)<=10000*82:=⟨Int.mul_nonneg k3 (by omega),Int.mul_le_mul (by omega) (by omega) (by omega)<|by omega⟩;exact .gdI (by omega)<|.gdI (by omega)<|.gdI (by omega)<|.pure ⟨⟨by simp only[];omega,by simp only[];omega,e1.1,by simp only[];omega⟩,by simp only[];omega⟩
 refine Z1.loop (λt=>2<=t.1/\t.1<=82/\0<=t.2/\t.2<=1000000000) (λt=>(82-t.1).toNat) ⟨adX _,by simp only[];omega,g1,g2⟩ λt ⟨k1,k2,k3,k4⟩=>?_;unfold ol;refine Z1.bind (P:=λb=>b=(aai (t.1<=w)&&aai (t.2<=most))) (.bifD (λh=>.pure<|by simp[h]) λh=>.pure<|by simp[h]) λb hb=>.bif (λht=>?_) λ_=>.pure ⟨k3,k4⟩;rw[hb] at ht;simp only[bae,dte] at ht;have e1:0<=t.2*t.1/\t.2*t.1<=10000*82:=⟨Int.mul_nonneg k3 (by omega),Int.mul_le_mul (by omega) (by omega) (by omega)<|by omega⟩;exact .gdI (by omega)<|.gdI (by omega)<|.pure ⟨⟨by simp only[];omega,by simp only[];omega,e1.1,by simp only[];omega⟩,by simp only[];omega⟩
def LV(t:BA):Bool:=match dQ t with
 |some v=>smP v.1&&(!v.2||bh (Z4 v.1))
 |none=>aaf
theorem LW:∀l,mQ=aag l->l.all LV=aae:=by
 intro l h;obtain rfl:=osl h
 decide +kernel
theorem LX{t:BA}(h:LV t=aae):Z1 (dP t) λv=>smP v.1=aae/\(v.2=aae->bh (Z4 v.1)=aae):=by
 unfold LV at h
 cases hc:dQ t with
 |none=>rw[hc] at h;cases h
 |some v=>
  rw[hc] at h;refine⟨v,pW t v hc,?_⟩;simp only[bae,aez,ad0] at h;exact⟨h.1,λe=>h.2.resolve_left λh2=>by rw[e] at h2;cases h2⟩
theorem Wj:((adV 6).all λo=>(adV 3).all λl=>(adV 3).all λg=>(adV 4).all λv=>!pQ ⟨(o:Int),(l:Int),(g:Int),(v:Int)⟩||bh [[⟨(o:Int),(l:Int),(g:Int),(v:Int)⟩]])=aae:=by decide +kernel
theorem zg{x:ZW}(h1:0<=x.Op/\x.Op<6)(h2:0<=x.Loc/\x.Loc<3)(h3:0<=x.Reg/\x.Reg<3)(h4:0<=x.Val/\x.Val<4)(h:pQ (cm x)=aae):bh (Z4 [[x]])=aae:=by
 have e:=Wj;have e:=adW.1 e x.Op.toNat<|ad4.2 (by omega);have e:=adW.1 e x.Loc.toNat<|ad4.2 (by omega);have e:=adW.1 e x.Reg.toNat<|ad4.2 (by omega);have e:=adW.1 e x.Val.toNat<|ad4.2 (by omega);rw[ad6 h1.1,ad6 h2.1,ad6 h3.1,ad6 h4.1] at e;have e':(!pQ (cm x)||bh (Z4 [[x]]))=aae:=e;rw[h] at e';simpa using e'
theorem Zi{o l g:Int}(ho:o=1\/o=3)(h:0<=l/\l<=2)(h':0<=g/\g<=2):pQ ⟨o,l,g,0⟩=aae:=by
 unfold pQ Z0
 grind
theorem ok2{l v:Int}(h:0<=l/\l<=2)(h':0<=v/\v<=3):pQ ⟨2,l,0,v⟩=aae:=by
 unfold pQ Z0
 grind
theorem ok5{l g v:Int}(h:0<=l/\l<=2)(h':0<=g/\g<=2)(h'':0<=v/\v<=3):pQ ⟨5,l,g,v⟩=aae:=by
 unfold pQ Z0
 grind
theorem Kh{k:Int}{r:ae}(h:Rd k r)(hk:k<=10000000):Z1 (iD r) λv=>Rd (k+4) v.1/\smI v.2=aae/\bh (Z4 [[v.2]])=aae:=by
 unfold iD;refine(bM h.mk' (by omega) 2).bind λv1 ⟨a1,a2,a3⟩=>(bM a1.mk' (by omega) 7).bind λv2 ⟨b1,b2,b3⟩=>?_;refine .bif (λ_=>.pure ⟨b1.mono (by omega),by simp only[smI];exact decide_eq_true (by omega),zg (x:=⟨4,0,0,0⟩) (by decide) (by decide) (by decide) (by decide)<|by decide⟩) λ_=>?_;refine .bif (λ_=>(bM b1.mk' (by omega) 2).bind λv3 ⟨c1,c2,c3⟩=>.pure ⟨c1.mono (by omega),decide_eq_true (by simp only[];omega),zg (by simp only[];omega) (by simp only[];omega) (by simp only[];omega) (by simp only[];omega)<|Zi (.inr rfl) (by simp only[];omega)<|by simp only[];omega⟩) λ_=>?_;refine .bif (λ_=>(bM b1.mk' (by omega) 2).bind λv3 ⟨c1,c2,c3⟩=>(bM c1.mk' (by omega) 3).bind λv4 ⟨d1,d2,d3⟩=>.gdI (by omega)<|.pure ⟨d1.mono (by omega),decide_eq_true (by simp only[];omega),zg (by simp only[];omega) (by simp only[];omega) (by simp only[];omega) (by simp only[];omega)<|ok5 (by simp only[];omega) (by simp only[];omega)<|by simp only[];omega⟩) λ_=>?_;refine Z1.bind (P:=λ_=>True) (.bif (λ_=>.pure trivial) λ_=>.pure trivial) λs _=>?_;refine .bif (λ_=>(bM b1.mk' (by omega) 3).bind λv3 ⟨c1,c2,c3⟩=>.gdI (by omega)<|.pure ⟨c1.mono (by omega),decide_eq_true (by simp only[];omega),zg (by simp only[];omega) (by simp only[];omega) (by simp only[];omega) (by simp only[];omega)<|ok2 (by simp only[];omega)<|by simp only[];omega⟩) λ_=>?_;exact(bM b1.mk' (by omega) 2).bind λv3 ⟨c1,c2,c3⟩=>.pure ⟨c1.mono (by omega),decide_eq_true (by simp only[];omega),zg (by simp only[];omega) (by simp only[];omega) (by simp only[];omega) (by simp only[];omega)<|Zi (.inl rfl) (by simp only[];omega)<|by simp only[];omega⟩
theorem LY{k:Int}{r:ae}(h:Rd k r)(hk:k<=10000):Z1 (tC r) λv=>Rd (k+46) v.1/\smP v.2=aae/\bh (Z4 v.2)=aae:=by
 unfold tC J;have e1:∃l,mQ=aag l/\0<l.length/\l.length<=100:=⟨_,rfl,by decide,by decide⟩;obtain⟨l,e1,e2,e3⟩:=e1;have hp':=λt (ht:t∈l)=>LX<|adW.1 (LW l e1) t ht;refine(Z1.of (P:=λv=>v=l) e1 rfl).bind λv1 hv=>?_;subst hv;refine Z1.sum (PS:=λs=>Rd (k+2) ⟨s.1,s.2⟩) (PW:=λv:ae×List (List ZW)=>Rd (k+46) v.1/\smP v.2=aae/\bh (Z4 v.2)=aae) ?_ λs hs=>?_
 .refine(bM h.mk' (by omega) 3).bind λv3 ⟨a1,a2,a3⟩=>.bif (λ_=>?_) λ_=>.pure<|a1.mk'.mono (by omega);refine(bM a1.mk' (by omega) _).bind λv5 ⟨b1,b2,b3⟩=>.gdD ⟨b2,by omega⟩ ?_;have hlt:v5.2.toNat<v1.length:=by omega
  refine Z1.bind (hp' (v1.getD v5.2.toNat aad)<|by rw[gdq,geq hlt];exact ad9 _) λv7 h7=>?_;exact .bif (λhb=>.pure ⟨b1.mk'.mono (by omega),h7.1,h7.2 hb⟩) λ_=>.pure<|b1.mk'.mono (by omega)
 refine Z1.bind (P:=λv=>Rd (k+42) ⟨v.1,v.2.1⟩/\smP v.2.2=aae) ?_ λv ⟨a1,a2⟩=>?_
 .exact(AJ hs (by omega) _<|by simp).bind λv ⟨b1,b2⟩=>(LQ (n:=v.2) b1.mk' (by omega)<|by simp only[List.mem_cons,List.not_mem_nil,or_false] at b2;omega).mono λu ⟨c1,c2⟩=>⟨c1.mono (by omega),c2⟩
 have hv:Z1 (bI v.2.2) (· =bh (Z4 v.2.2)):=.gdD (U3 a2)<|.pure rfl;refine hv.bind λb hb=>.bif (λe=>.pure ⟨a1.mono (by omega),a2,by rw[<- hb];exact e⟩) λ_=>?_;exact(Kh a1<|by omega).bind λu ⟨c1,c2,c3⟩=>.pure ⟨c1.mk'.mono (by omega),I8.2 ⟨by simp,by simp[c2]⟩,c3⟩
theorem Ki{k:Int}{r:ae}(h:Rd k r)(hk:k<=10000):Z1 (ry r) λv=>Rd (k+46) v.1/\smP v.2=aae/\bh (Z4 v.2)=aae:=by
 unfold ry;refine(LY h.mk' hk).bind λv ⟨a1,a2,a3⟩=>(LU (X4 a2)<|by decide).bind λn _=>.bifD (λ_=>.pure ⟨a1.mk',a2,a3⟩) λ_=>?_
 have e:(match dQ (⟨#[120,61,49,59,97,61,121,124,121,61,49,59,97,61,120]⟩:BA) with|some v=>smP v.1&&bh (Z4 v.1)|none=>aaf)=aae:=by decide +kernel
 cases hc:dQ (⟨#[120,61,49,59,97,61,121,124,121,61,49,59,97,61,120]⟩:BA) with
 |none=>rw[hc] at e;cases e
 |some w=>
  rw[hc] at e;simp only[bae] at e;exact(Z1.of (P:=(· =w)) (pW _ w hc) rfl).bind λu hu=>by subst hu;exact .pure ⟨a1.mk',e⟩
theorem X5{k:Int}{r:ae}(h:Rd k r)(hk:k<=100000000)(l:List BA)(hl:l≠[]):Z1 (o5 r l) λv=>Rd (k+1) v.1/\v.2∈l:=by
 have hpos:0<l.length:=aeF.2 hl;unfold o5 J;refine(bM h.mk' hk _).bind λv ⟨h1,h2,h3⟩=>?_;refine .gdD ⟨h2,by omega⟩<|.pure ⟨h1,?_⟩;have : v.2.toNat<l.length:=by omega
 rw[gdq,geq this];exact ad9 _
def o8(rcf:ae->Int->Option (ae×aa))(r_:ae)(depth:Int):Option (ae×aa):=adU (dW) λv1=>bif aai (depth<(2:Int)) then adU (av (⟨r_.b,r_.p⟩:ae) (v1.length:Int)) λv3=>gd (aai<|0<=v3.2/\v3.2<(v1.length:Int)) <|aag ((⟨v3.1.b,v3.1.p⟩:ae),(⟨(1:Int),(J v1 v3.2),([]:List ZTE)⟩:aa)) else adU (av (⟨r_.b,r_.p⟩:ae) (3:Int)) λv5=>bif (v5.2==(0:Int)) then adU (av (⟨v5.1.b,v5.1.p⟩:ae) (v1.length:Int)) λv7=>gd (aai<|0<=v7.2/\v7.2<(v1.length:Int)) <|aag ((⟨v7.1.b,v7.1.p⟩:ae),(⟨(1:Int),(J v1 v7.2),([]:List ZTE)⟩:aa)) else adU (av (⟨v5.1.b,v5.1.p⟩:ae) (4:Int)) λv9=>bif (v9.2==(0:Int)) then adU (bq (⟨v9.1.b,v9.1.p⟩:ae) ([(6:Int),(7:Int)]:LI)) λv11=>gd (ZU .i64<|depth-(1:Int)) <|adU (rcf (⟨v11.1.b,v11.1.p⟩:ae)<|depth-(1:Int)) λv13=>aag ((⟨v13.1.b,v13.1.p⟩:ae),(⟨v11.2,(⟨#[]⟩:BA),([v13.2.inn]:List ZTE)⟩:aa)) else adU (bq (⟨v9.1.b,v9.1.p⟩:ae) ([(2:Int),(3:Int),(4:Int),(5:Int)]:LI)) λv14=>gd (ZU .i64<|depth-(1:Int)) <|adU (rcf (⟨v14.1.b,v14.1.p⟩:ae)<|depth-(1:Int)) λv16=>adU (rcf (⟨v16.1.b,v16.1.p⟩:ae)<|depth-(1:Int)) λv17=>aag ((⟨v17.1.b,v17.1.p⟩:ae),(⟨v14.2,(⟨#[]⟩:BA),([v16.2.inn,v17.2.inn]:List ZTE)⟩:aa))
def lC:Nat->ae->Int->Option (ae×aa)
 |0=>λ_ _=>aah
 |n+1=>o8 (lC n)
def o9(r_:ae)(depth:Int):Option (ae×aa):=HT λnf=>lC nf r_ depth
def SY(e:aa):Nat->aa
 |0=>e
 |n+1=>⟨6,⟨#[]⟩,[(SY e n).inn]⟩
def lD(r_:ae)(e:aa):Option (ae×aa):=gd (aai<|e.Kids.length<=1048576) <|adU (av r_ (24:Int)) λv=>bif v.2==(0:Int) then adU (bq v.1 ([(0:Int),(8:Int),(1:Int),(2:Int),(6:Int)]:LI)) λa=>aag (a.1,⟨a.2,e.Name,e.Kids⟩) else bif v.2==(1:Int) then adU (o5 v.1 ([(⟨#[]⟩:BA),(⟨#[102,111,111]⟩:BA),(⟨#[112,111]⟩:BA)]:List BA)) λa=>aag (a.1,⟨e.Op,a.2,e.Kids⟩) else bif v.2==(2:Int) then adU (o9 v.1 (1:Int)) λa=>aag (a.1,⟨e.Op,e.Name,e.Kids++[a.2.inn]⟩) else bif v.2==(3:Int) then aag (v.1,SY e 12) else aag (v.1,e)
def lF:Option (List BA):=aag ([(⟨#[97,99,121,99,108,105,99,32,112,111,124,114,102,124,99,111,124,102,114]⟩:BA),(⟨#[97,99,121,99,108,105,99,32,112,111,38,108,111,99,124,114,102,124,99,111,124,102,114,47,97,99,121,99,108,105,99,32,112,111,45,119,114,124,102,101,110,99,101,124,114,102,38,101,120,116,124,99,111,124,102,114,47,105,114,114,101,102,32,102,114,59,99,111]⟩:BA),(⟨#[97,99,121,99,108,105,99,32,112,111,38,108,111,99,124,114,102,124,99,111,124,102,114,47,97,99,121,99,108,105,99,32,112,111,45,40,119,114,124,119,119,41,124,102,101,110,99,101,124,114,102,38,101,120,116,124,99,111,124,102,114,47,105,114,114,101,102,32,102,114,59,99,111]⟩:BA),(⟨#[97,99,121,99,108,105,99,32,112,111,124,114,102,47,97,99,121,99,108,105,99,32,43,40,112,111,124,114,102,41,38,108,111,99,124,99,111,124,102,114,47,105,114,114,101,102,32,102,114,59,99,111]⟩:BA),(⟨#[97,99,121,99,108,105,99,32,112,111,38,108,111,99,124,114,102,124,99,111,124,102,114]⟩:BA),(⟨#[101,109,112,116,121,32,112,111]⟩:BA),(⟨#[105,114,114,101,102,32,126,114,102,59,99,111]⟩:BA)]:List BA)
def iE:Option (List BA):=aag ([(⟨#[]⟩:BA),(⟨#[97,99,121,99,108,105,99]⟩:BA),(⟨#[105,114,114,101,102]⟩:BA),(⟨#[101,109,112,116,121]⟩:BA)]:List BA)
def uL(s:BA)(at_:Int)(c:Int):Option Bool:=adU (bif aai ((0:Int)<=at_) then aag (aai<|at_<(s.size:Int)) else aag aaf) λs1=>adU (bif s1 then gd (aai<|0<=at_/\at_<(s.size:Int)) <|aag (((s.data.getD at_.toNat 0).toNat:Int)==c) else aag aaf) λs3=>aag s3
def iW(s:BA):LS Int Int:=λs24=>adU (bif aai (s24<(s.size:Int)) then gd (aai<|0<=s24/\s24<(s.size:Int)) <|aag (aai<|(97:Int)<=((s.data.getD s24.toNat 0).toNat:Int)) else aag aaf) λs26=>adU (bif s26 then gd (aai<|0<=s24/\s24<(s.size:Int)) <|aag (aai<|((s.data.getD s24.toNat 0).toNat:Int)<=(122:Int)) else aag aaf) λs29=>bif s29 then gd (ZU .i64<|s24+(1:Int)) <|aag (.inl<|s24+(1:Int)) else aag (.inr s24)
def gF(eH:BA->Int->Int->Int->Option (aa×Int))(rcf:BA->Int->Int->Option (aa×Int))(s:BA)(at_:Int)(depth:Int):Option (aa×Int):=adU (bif aai (depth<(1:Int)) then aag aae else aag (aai<|at_<(0:Int))) λs1=>adU (bif s1 then aag aae else aag (aai<|(s.size:Int)<=at_)) λs3=>bif s3 then aag ((⟨(0:Int),(⟨#[]⟩:BA),([]:List ZTE)⟩:aa),(-1:Int)) else gd (aai<|0<=at_/\at_<(s.size:Int)) <|bif (((s.data.getD at_.toNat 0).toNat:Int)==(40:Int)) then gd (ZU .i64<|at_+(1:Int)) <|adU (eH s (at_+(1:Int)) depth (3:Int)) λv9=>adU (uL s v9.2 (41:Int)) λv10=>bif !v10 then aag ((⟨(0:Int),(⟨#[]⟩:BA),([]:List ZTE)⟩:aa),(-1:Int)) else gd (ZU .i64<|v9.2+(1:Int)) <|aag ((⟨v9.1.Op,v9.1.Name,v9.1.Kids⟩:aa),(v9.2+(1:Int))) else adU (bif (((s.data.getD at_.toNat 0).toNat:Int)==(126:Int)) then aag (((s.data.getD at_.toNat 0).toNat:Int)==(126:Int)) else aag (((s.data.getD at_.toNat 0).toNat:Int)==(43:Int))) λs13=>bif s13 then adU (bif (((s.data.getD at_.toNat 0).toNat:Int)==(43:Int)) then aag (7:Int) else aag (6:Int)) λs16=>gd (ZU .i64<|at_+(1:Int)) <|gd (ZU .i64<|depth-(1:Int)) <|adU (rcf s (at_+(1:Int))<|depth-(1:Int)) λv20=>aag ((⟨s16,(⟨#[]⟩:BA),([(⟨v20.1.Op,v20.1.Name,v20.1.Kids⟩:aa).inn]:List ZTE)⟩:aa),v20.2) else adU (aA (iW s) at_) λs21=>bif (s21==at_) then aag ((⟨(0:Int),(⟨#[]⟩:BA),([]:List ZTE)⟩:aa),(-1:Int)) else gd (aai<|0<=at_/\at_<=s21/\s21<=(s.size:Int)) <|aag ((⟨(1:Int),(s.extract at_.toNat s21.toNat),([]:List ZTE)⟩:aa),s21)
def dA(eH:BA->Int->Int->Int->Option (aa×Int)):Nat->BA->Int->Int->Option (aa×Int)
 |0=>λ_ _ _=>aah
 |n+1=>gF eH (dA eH n)
def mq(eH:BA->Int->Int->Int->Option (aa×Int))(s:BA)(at_:Int)(depth:Int):Option (aa×Int):=HT λnf=>dA eH nf s at_ depth
def ku(op:Int):Option Int:=bif (op==(2:Int)) then aag (3:Int) else adU (bif (op==(3:Int)) then aag (op==(3:Int)) else aag (op==(4:Int))) λs2=>bif s2 then aag (2:Int) else bif (op==(5:Int)) then aag (1:Int) else aag (0:Int)
def l7(op:Int):Option BA:=gd (aai<|0<=op/\op<(([(⟨#[]⟩:BA),(⟨#[]⟩:BA),(⟨#[124]⟩:BA),(⟨#[38]⟩:BA),(⟨#[45]⟩:BA),(⟨#[59]⟩:BA),(⟨#[126]⟩:BA),(⟨#[43]⟩:BA)]:List BA).length:Int)) <|aag<|J ([(⟨#[]⟩:BA),(⟨#[]⟩:BA),(⟨#[124]⟩:BA),(⟨#[38]⟩:BA),(⟨#[45]⟩:BA),(⟨#[59]⟩:BA),(⟨#[126]⟩:BA),(⟨#[43]⟩:BA)]:List BA) op
def vW(s:BA)(at_:Int)(level:Int):LS Int (Unit ⊕ Int):=λs4=>bif aai (s4<=(5:Int)) then adU (ku s4) λv7=>adU (bif (v7==level) then adU (l7 s4) λv10=>gd (aai<|0<=(0:Int)/\(0:Int)<(v10.size:Int)) <|adU (uL s at_ ((v10.data.getD (0:Int).toNat 0).toNat:Int)) λv12=>aag v12 else aag aaf) λs8=>bif s8 then aag (.inr<|.inr s4) else gd (ZU .i64<|s4+(1:Int)) <|aag (.inl<|s4+(1:Int)) else aag (.inr<|.inl ())
def xj(s:BA)(at_:Int)(level:Int):Option Int:=sumK (aA (vW s at_ level) (2:Int)) λs1=>aag (0:Int)
def qp(rcf:BA->Int->Int->Int->Option (aa×Int))(s:BA)(depth:Int)(level:Int):(Int×ByteArray×(List ZTE)×Int)->Option ((Int×ByteArray×(List ZTE)×Int) ⊕ ((Int×ByteArray×(List ZTE)) ⊕ (aa×Int))):=λs8=>bif aai ((0:Int)<=s8.2.2.2) then adU (xj s s8.2.2.2 level) λv11=>bif (v11==(0:Int)) then aag (.inr<|.inr ((⟨s8.1,s8.2.1,s8.2.2.1⟩:aa),s8.2.2.2)) else gd (ZU .i64<|s8.2.2.2+(1:Int)) <|adU (rcf s (s8.2.2.2+(1:Int)) depth<|level-(1:Int)) λv14=>aag (.inl (v11,(⟨#[]⟩:BA),([(⟨s8.1,s8.2.1,s8.2.2.1⟩:aa).inn,(⟨v14.1.Op,v14.1.Name,v14.1.Kids⟩:aa).inn]:List ZTE),v14.2)) else aag (.inr<|.inl (s8.1,s8.2.1,s8.2.2.1))
def nu(rcf:BA->Int->Int->Int->Option (aa×Int))(s:BA)(at_:Int)(depth:Int)(level:Int):Option (aa×Int):=bif (level==(0:Int)) then adU (mq rcf s at_ depth) λv2=>aag ((⟨v2.1.Op,v2.1.Name,v2.1.Kids⟩:aa),v2.2) else gd (ZU .i64<|level-(1:Int)) <|adU (rcf s at_ depth<|level-(1:Int)) λv4=>sumK (aA (qp rcf s depth level) (v4.1.Op,v4.1.Name,v4.1.Kids,v4.2)) λs5=>aag ((⟨(0:Int),(⟨#[]⟩:BA),([]:List ZTE)⟩:aa),(-1:Int))
def j6:Nat->BA->Int->Int->Int->Option (aa×Int)
 |0=>λ_ _ _ _=>aah
 |n+1=>nu (j6 n)
def rz(s:BA)(at_:Int)(depth:Int)(level:Int):Option (aa×Int):=HT λnf=>j6 nf s at_ depth level
def dR(zG:aa->Option BA)(e_:aa)(level:Int):Option BA:=adU (ku e_.Op) λv1=>bif aai (level<v1) then adU (zG e_) λv3=>gd (aai<|(⟨#[40]⟩:BA).size+v3.size<=9223372036854775807) <|gd (aai<|((⟨#[40]⟩:BA)++v3).size+(⟨#[41]⟩:BA).size<=9223372036854775807) <|aag (((⟨#[40]⟩:BA)++v3)++(⟨#[41]⟩:BA)) else adU (zG e_) λv6=>aag v6
def pg(rcf:aa->Option BA)(e_:aa):Option BA:=adU (fF e_.Op) λv1=>bif (v1==(0:Int)) then aag e_.Name else bif (v1==(1:Int)) then adU (l7 e_.Op) λv4=>gd (aai<|0<=(0:Int)/\(0:Int)<(e_.Kids.length:Int)) <|adU (dR rcf ((J e_.Kids (0:Int)).out) (0:Int)) λv6=>gd (aai<|v4.size+v6.size<=9223372036854775807) <|aag (v4++v6) else adU (ku e_.Op) λv8=>gd (aai<|0<=(0:Int)/\(0:Int)<(e_.Kids.length:Int)) <|adU (dR rcf ((J e_.Kids (0:Int)).out) v8) λv10=>adU (l7 e_.Op) λv11=>gd (aai<|v10.size+v11.size<=9223372036854775807) <|gd (aai<|0<=(1:Int)/\(1:Int)<(e_.Kids.length:Int)) <|gd (ZU .i64<|v8-(1:Int)) <|adU (dR rcf ((J e_.Kids (1:Int)).out)<|v8-(1:Int)) λv15=>gd (aai<|(v10++v11).size+v15.size<=9223372036854775807) <|aag<|(v10++v11)++v15
def lG:Nat->aa->Option BA
 |0=>λ_=>aah
 |n+1=>pg (lG n)
def pq(e_:aa):Option BA:=HT λnf=>lG nf e_
def iJ(e_:aa):Option BA:=adU (cG e_) λv1=>bif !v1 then aag (⟨#[]⟩:BA) else adU (pq e_) λv3=>aag v3
def jv(text:BA):Option (aa×Bool):=bif aai ((300:Int)<(text.size:Int)) then aag ((⟨(0:Int),(⟨#[]⟩:BA),([]:List ZTE)⟩:aa),aaf) else adU (rz text (0:Int) (12:Int) (3:Int)) λv2=>adU (bif (v2.2 != (text.size:Int)) then aag aae else adU (iJ (⟨v2.1.Op,v2.1.Name,v2.1.Kids⟩:aa)) λv5=>aag<|!decide (v5=text)) λs3=>adU (bif s3 then aag aae else aag (aai<|text=(⟨#[]⟩:BA))) λs6=>bif s6 then aag ((⟨(0:Int),(⟨#[]⟩:BA),([]:List ZTE)⟩:aa),aaf) else aag ((⟨v2.1.Op,v2.1.Name,v2.1.Kids⟩:aa),aae)
def qq(m:List ah):LS (Int×BA) BA:=λs4=>bif aai (s4.1<(m.length:Int)) then adU (bif aai ((0:Int)<s4.1) then gd (aai<|s4.2.size+(⟨#[47]⟩:BA).size<=9223372036854775807) <|aag (s4.2++(⟨#[47]⟩:BA)) else aag s4.2) λs7=>adU (iE) λv10=>gd (aai<|0<=s4.1/\s4.1<(m.length:Int)) <|gd (aai<|0<=(J m s4.1).Kind/\(J m s4.1).Kind<(v10.length:Int)) <|gd (aai<|s7.size+(J v10<|(J m s4.1).Kind).size<=9223372036854775807) <|gd (aai<|(s7++(J v10<|(J m s4.1).Kind)).size+(⟨#[32]⟩:BA).size<=9223372036854775807) <|adU (pq<|(J m s4.1).Expr) λv15=>gd (aai<|((s7++(J v10<|(J m s4.1).Kind))++(⟨#[32]⟩:BA)).size+v15.size<=9223372036854775807) <|gd (ZU .i64<|s4.1+(1:Int)) <|aag (.inl ((s4.1+(1:Int)),(((s7++(J v10<|(J m s4.1).Kind))++(⟨#[32]⟩:BA))++v15))) else aag (.inr s4.2)
def mS(m:List ah):Option BA:=adU (aA (qq m) ((0:Int),(⟨#[]⟩:BA))) λs1=>aag s1
def lH(v14:(List BA)):LS (Int×Int) Int:=λs18=>adU (iE) λv20=>bif aai (s18.2<(v20.length:Int)) then adU (gd (aai<|0<=(0:Int)/\(0:Int)<(v14.length:Int)) <|adU (iE) λv24=>gd (aai<|0<=s18.2/\s18.2<(v24.length:Int)) <|bif aai ((J v14 (0:Int))=(J v24 s18.2)) then aag s18.2 else aag s18.1) λs22=>gd (ZU .i64<|s18.2+(1:Int)) <|aag (.inl (s22,(s18.2+(1:Int)))) else aag (.inr s18.1)
def mr(v1:(List BA)):LS ((List ah)×Int) ((List ah) ⊕ ((List ah)×Bool)):=λs6=>adU (bif aai (s6.2<(v1.length:Int)) then aag (aai<|s6.2<=(5:Int)) else aag aaf) λs9=>bif s9 then sumK (gd (aai<|0<=s6.2/\s6.2<(v1.length:Int)) <|adU (fH (J v1 s6.2) (32:Int)) λv14=>adU (aA (lH v14) ((0:Int),(1:Int))) λs15=>adU (bif ((v14.length:Int) != (2:Int)) then aag aae else aag (s15==(0:Int))) λs28=>bif s28 then aag (.inr<|.inr<|.inr (([]:List ah),aaf)) else gd (aai<|0<=(1:Int)/\(1:Int)<(v14.length:Int)) <|adU (jv<|J v14 (1:Int)) λv32=>bif !v32.2 then aag (.inr<|.inr<|.inr (([]:List ah),aaf)) else gd (aR (s6.1.length+1) 56) <|aag<|.inl<|s6.1++[(⟨s15,(⟨v32.1.Op,v32.1.Name,v32.1.Kids⟩:aa)⟩:ah)]) λs12=>gd (ZU .i64<|s6.2+(1:Int)) <|aag (.inl (s12,(s6.2+(1:Int)))) else aag (.inr<|.inl s6.1)
def iX(text:BA):Option ((List ah)×Bool):=adU (fH text (47:Int)) λv1=>sumK (aA (mr v1) (([]:List ah),(0:Int))) λs2=>adU (dN s2) λv38=>adU (bif !v38 then aag aae else adU (mS s2) λv41=>aag<|!decide (v41=text)) λs39=>bif s39 then aag (([]:List ah),aaf) else aag (s2,aae)
def vJ:LS ((LI)×Int×(List ah)×Int) ((LI)×Int×(List ah)):=λs13=>bif aai ((0:Int)<s13.2.2.2) then adU (av (⟨s13.1,s13.2.1⟩:ae) (3:Int)) λv17=>gd (ZU .i64<|(1:Int)+v17.2) <|adU (o9 (⟨v17.1.b,v17.1.p⟩:ae) (3:Int)) λv19=>gd (aR (s13.2.2.1.length+1) 56) <|gd (ZU .i64<|s13.2.2.2-(1:Int)) <|aag (.inl (v19.1.b,v19.1.p,(s13.2.2.1++[(⟨((1:Int)+v17.2),(⟨v19.2.Op,v19.2.Name,v19.2.Kids⟩:aa)⟩:ah)]),(s13.2.2.2-(1:Int)))) else aag (.inr (s13.1,s13.2.1,s13.2.2.1))
def rA(r_:ae):Option (ae×(List ah)):=adU (lF) λv1=>adU (av (⟨r_.b,r_.p⟩:ae) (3:Int)) λv2=>bif aai ((0:Int)<v2.2) then adU (av (⟨v2.1.b,v2.1.p⟩:ae) (v1.length:Int)) λv4=>gd (aai<|0<=v4.2/\v4.2<(v1.length:Int)) <|adU (iX<|J v1 v4.2) λv6=>aag ((⟨v4.1.b,v4.1.p⟩:ae),v6.1) else adU (adU (av (⟨v2.1.b,v2.1.p⟩:ae) (2:Int)) λv8=>gd (ZU .i64<|(1:Int)+v8.2) <|aA vJ (v8.1.b,v8.1.p,([]:List ah),((1:Int)+v8.2))) λs7=>aag ((⟨s7.1,s7.2.1⟩:ae),s7.2.2)
def kK(v3:ae×Int):LS (List ah) ((LI)×Int×(List ah)×(List ah)):=λs15=>bif aai ((s15.length:Int)<=(5:Int)) then gd (aai<|0<=(0:Int)/\(0:Int)<(s15.length:Int)) <|gd (aR (s15.length+1) 56) <|aag (.inl<|s15++[(s15.getD ((0:Int).toNat) aad)]) else aag (.inr (v3.1.b,v3.1.p,s15,s15))
def kW(r_:ae)(m:List ah):Option (ae×(List ah)):=gd (aR (([]:List ah).length+m.length) 56) <|adU (adU (av (⟨r_.b,r_.p⟩:ae) (24:Int)) λv3=>bif (v3.2==(0:Int)) then adU (bq (⟨v3.1.b,v3.1.p⟩:ae) ([(0:Int),(4:Int),(2:Int)]:LI)) λv5=>gd (aai<|0<=(0:Int)/\(0:Int)<(((([]:List ah)++m).length):Int)) <|aag (v5.1.b,v5.1.p,((([]:List ah)++m).set ((0:Int).toNat)<|{ ((([]:List ah)++m).getD ((0:Int).toNat) aad) with Kind:=v5.2 }),((([]:List ah)++m).set ((0:Int).toNat)<|{ ((([]:List ah)++m).getD ((0:Int).toNat) aad) with Kind:=v5.2 })) else bif (v3.2==(1:Int)) then gd (aai<|0<=(0:Int)/\(0:Int)<(((([]:List ah)++m).length):Int)) <|adU (lD (⟨v3.1.b,v3.1.p⟩:ae) (⟨(((([]:List ah)++m).getD ((0:Int).toNat) aad).Expr).Op,(((([]:List ah)++m).getD ((0:Int).toNat) aad).Expr).Name,(((([]:List ah)++m).getD ((0:Int).toNat) aad).Expr).Kids⟩:aa)) λv9=>aag (v9.1.b,v9.1.p,((([]:List ah)++m).set ((0:Int).toNat)<|{ ((([]:List ah)++m).getD ((0:Int).toNat) aad) with Expr:=v9.2 }),((([]:List ah)++m).set ((0:Int).toNat)<|{ ((([]:List ah)++m).getD ((0:Int).toNat) aad) with Expr:=v9.2 })) else bif (v3.2==(2:Int)) then aag (v3.1.b,v3.1.p,(([]:List ah)++m),([]:List ah)) else bif (v3.2==(3:Int)) then aA (kK v3) (([]:List ah)++m) else aag (v3.1.b,v3.1.p,(([]:List ah)++m),(([]:List ah)++m))) λs2=>aag ((⟨s2.1,s2.2.1⟩:ae),s2.2.2.2)
def tG(op:Int):Option Int:=
 bif (op==(1:Int)) then
  aag (0:Int)
 else
  adU (
   bif (op==(2:Int)) then
    aag (op==(2:Int))
   else
    bif (op==(3:Int)) then
     aag (op==(3:Int))
    else
     bif (op==(4:Int)) then
      aag (op==(4:Int))
     else
      aag (op==(5:Int))
  ) λs2=>
  bif s2 then
   aag (2:Int)
  else
   adU (
    bif (op==(6:Int)) then
     aag (op==(6:Int))
    else
     aag (op==(7:Int))
   ) λs7=>
   bif s7 then
    aag (1:Int)
   else
    aag (-1:Int)
theorem yg(op:Int):Le (tG op) (fF op):=by
 unfold tG fF
 solve_by_elim (maxDepth:=9999) only[*,Le.gd,Le.bif,Le.bind,Le.sumK,Le.loop,Le.nilK,Le.ifc,Le.refl]
def vX:Option (List BA):=
 aag ([(⟨#[112,111]⟩:BA),(⟨#[108,111,99]⟩:BA),(⟨#[101,120,116]⟩:BA),(⟨#[114,102]⟩:BA),(⟨#[99,111]⟩:BA),(⟨#[102,114]⟩:BA),(⟨#[102,101,110,99,101]⟩:BA),(⟨#[119,114]⟩:BA),(⟨#[119,119]⟩:BA),(⟨#[105,100]⟩:BA)]:List BA)
theorem Dc:Le (vX ) (dW ):=by
 unfold vX dW
 solve_by_elim (maxDepth:=9999) only[*,Le.gd,Le.bif,Le.bind,Le.sumK,Le.loop,Le.nilK,Le.ifc,Le.refl]
def qw(s:BA)(v1:(List BA)):Int->Option (Int ⊕ (Unit ⊕ Bool)):=λs5=>
 bif aai (s5<(v1.length:Int)) then
  gd (aai<|0<=s5/\s5<(v1.length:Int)) <|
  bif aai ((v1.getD s5.toNat aad)=s) then
   aag (.inr<|.inr aae)
  else
   gd (ZU .i64<|s5+(1:Int)) <|
   aag (.inl<|s5+(1:Int))
 else
  aag (.inr<|.inl ())
theorem zY(s:BA)(v1:(List BA))(sQ:_):Le (qw s v1 sQ) (l4 s v1 sQ):=by
 unfold qw l4 J
 solve_by_elim (maxDepth:=9999) only[*,Le.gd,Le.bif,Le.bind,Le.sumK,Le.loop,Le.nilK,Le.ifc,Le.refl]
def vY(s:BA):Option Bool:=
 adU (vX ) λv1=>
 sumK (
  pV 200 (qw s v1) (0:Int)
 ) λs2=>
 aag aaf
theorem De(s:BA):Le (vY s) (fO s):=by
 unfold vY fO
 solve_by_elim (maxDepth:=9999) only[*,Dc,zY,Le.gd,Le.bif,Le.bind,Le.sumK,Le.loop,Le.nilK,Le.ifc,Le.refl]
def pu(rcf:aa->Int->Option Bool)(e_:aa)(depth:Int):Int->Option (Int ⊕ (Unit ⊕ Bool)):=λs13=>
 bif aai (s13<(e_.Kids.length:Int)) then
  gd (aai<|0<=s13/\s13<(e_.Kids.length:Int)) <|
  gd (ZU .i64<|depth-(1:Int)) <|
  adU (rcf ((e_.Kids.getD s13.toNat aad).out)<|depth-(1:Int)) λv18=>
  bif !v18 then
   aag (.inr<|.inr aaf)
  else
   gd (ZU .i64<|s13+(1:Int)) <|
   aag (.inl<|s13+(1:Int))
 else
  aag (.inr<|.inl ())
theorem zo(rcf:aa->Int->Option Bool)(Ea:aa->Int->Option Bool)(hrcf:∀x0 x1,Le (rcf x0 x1)<|Ea x0 x1)(e_:aa)(depth:Int)(sQ:_):Le (pu rcf e_ depth sQ) (kP Ea e_ depth sQ):=by
 unfold pu kP J
 solve_by_elim (maxDepth:=9999) only[*,hrcf,Le.gd,Le.bif,Le.bind,Le.sumK,Le.loop,Le.nilK,Le.ifc,Le.refl]
def rZ(rcf:aa->Int->Option Bool)(e_:aa)(depth:Int):Option Bool:=
 sumK (
  adU (
   bif aai (depth<(1:Int)) then
    aag aae
   else
    adU (tG e_.Op) λv4=>
    bif ((e_.Kids.length:Int) != v4) then
     aag aae
    else
     adU (vY e_.Name) λv6=>
     bif (!((e_.Op==(1:Int))==v6)) then
      aag aae
     else
      bif (e_.Op != (1:Int)) then
       aag (!decide (e_.Name=(⟨#[]⟩:BA)))
      else
       aag aaf
  ) λs2=>
  bif s2 then
   aag (.inr aaf)
  else
   aag (.inl ())
 ) λs1=>
 sumK (
  pV 200 (pu rcf e_ depth) (0:Int)
 ) λs10=>
 aag aae
theorem AO(rcf:aa->Int->Option Bool)(Ea:aa->Int->Option Bool)(hrcf:∀x0 x1,Le (rcf x0 x1)<|Ea x0 x1)(e_:aa)(depth:Int):Le (rZ rcf e_ depth) (gP Ea e_ depth):=by
 unfold rZ gP
 solve_by_elim (maxDepth:=9999) only[*,yg,De,zo,hrcf,Le.gd,Le.bif,Le.bind,Le.sumK,Le.loop,Le.nilK,Le.ifc,Le.refl]
def r9:Nat->aa->Int->Option Bool
 |0=>λ_ _=>aah
 |n+1=>rZ (r9 n)
def Am(e_:aa)(depth:Int):Option Bool:=r9 40 e_ depth
theorem uM:∀(n m:Nat),n<=m->∀x0 x1,Le (r9 n x0 x1) (eT m x0 x1)
 |0,_,_=>λx0 x1 v h=>by cases h
 |n+1,0,h=>absurd h (aef _)
 |n+1,m+1,h=>λx0 x1=>AO _ _ (uM n m<|aeg h) x0 x1
theorem Df(e_:aa)(depth:Int):Le (Am e_ depth) (qN e_ depth):=λv h=>yQ 40 λm hm=>uM 40 m hm e_ depth v h
def qx(rcf:aa->Int->Option Int)(e_:aa)(most:Int):(Int×Int)->Option ((Int×Int) ⊕ Int):=λs4=>
 adU (bif aai (s4.1<(e_.Kids.length:Int)) then
  aag (aai<|s4.2<=most)
 else
  aag aaf
 ) λs6=>
 bif s6 then
  gd (aai<|0<=s4.1/\s4.1<(e_.Kids.length:Int)) <|
  gd (ZU .i64<|most-s4.2) <|
  adU (rcf ((e_.Kids.getD s4.1.toNat aad).out)<|most-s4.2) λv11=>
  gd (ZU .i64<|s4.2+v11) <|
  gd (ZU .i64<|s4.1+(1:Int)) <|
  aag (.inl ((s4.1+(1:Int)),(s4.2+v11)))
 else
  aag (.inr s4.2)
theorem zZ(rcf:aa->Int->Option Int)(Ea:aa->Int->Option Int)(hrcf:∀x0 x1,Le (rcf x0 x1)<|Ea x0 x1)(e_:aa)(most:Int)(sQ:_):Le (qx rcf e_ most sQ) (l5 Ea e_ most sQ):=by
 unfold qx l5 J
 solve_by_elim (maxDepth:=9999) only[*,hrcf,Le.gd,Le.bif,Le.bind,Le.sumK,Le.loop,Le.nilK,Le.ifc,Le.refl]
def si(rcf:aa->Int->Option Int)(e_:aa)(most:Int):Option Int:=
 adU (
  pV 200 (qx rcf e_ most) ((0:Int),(1:Int))
 ) λs1=>
 aag s1
theorem AP(rcf:aa->Int->Option Int)(Ea:aa->Int->Option Int)(hrcf:∀x0 x1,Le (rcf x0 x1)<|Ea x0 x1)(e_:aa)(most:Int):Le (si rcf e_ most) (gQ Ea e_ most):=by
 unfold si gQ
 solve_by_elim (maxDepth:=9999) only[*,zZ,hrcf,Le.gd,Le.bif,Le.bind,Le.sumK,Le.loop,Le.nilK,Le.ifc,Le.refl]
def sj:Nat->aa->Int->Option Int
 |0=>λ_ _=>aah
 |n+1=>si (sj n)
def Ao(e_:aa)(most:Int):Option Int:=sj 40 e_ most
theorem uN:∀(n m:Nat),n<=m->∀x0 x1,Le (sj n x0 x1) (eX m x0 x1)
 |0,_,_=>λx0 x1 v h=>by cases h
 |n+1,0,h=>absurd h (aef _)
 |n+1,m+1,h=>λx0 x1=>AP _ _ (uN n m<|aeg h) x0 x1
theorem Dg(e_:aa)(most:Int):Le (Ao e_ most) (qO e_ most):=λv h=>yQ 40 λm hm=>uN 40 m hm e_ most v h
def jw(e_:aa):Option Bool:=
 adU (Am e_ (12:Int)) λv1=>
 adU (bif v1 then
  adU (Ao e_ (40:Int)) λv4=>
  aag (aai<|v4<=(40:Int))
 else
  aag aaf
 ) λs2=>
 aag s2
theorem pX(e_:aa):Le (jw e_) (cG e_):=by
 unfold jw cG
 solve_by_elim (maxDepth:=9999) only[*,Df,Dg,Le.gd,Le.bif,Le.bind,Le.sumK,Le.loop,Le.nilK,Le.ifc,Le.refl]
def mD(m:List ah):Int->Option (Int ⊕ (Unit ⊕ Bool)):=λs4=>
 adU (bif aai (s4<(m.length:Int)) then
  aag (aai<|s4<=(5:Int))
 else
  aag aaf
 ) λs6=>
 bif s6 then
  gd (aai<|0<=s4/\s4<(m.length:Int)) <|
  adU (bif aai (((m.getD s4.toNat aad).Kind)<(1:Int)) then
   aag aae
  else
   aag (aai<|(3:Int)<((m.getD s4.toNat aad).Kind))
  ) λs10=>
  adU (bif s10 then
   aag aae
  else
   adU (jw<|(m.getD s4.toNat aad).Expr) λv14=>
   aag (!v14)
  ) λs12=>
  bif s12 then
   aag (.inr<|.inr aaf)
  else
   gd (ZU .i64<|s4+(1:Int)) <|
   aag (.inl<|s4+(1:Int))
 else
  aag (.inr<|.inl ())
theorem xk(m:List ah)(sQ:_):Le (mD m sQ) (iI m sQ):=by
 unfold mD iI J
 solve_by_elim (maxDepth:=9999) only[*,pX,Le.gd,Le.bif,Le.bind,Le.sumK,Le.loop,Le.nilK,Le.ifc,Le.refl]
def qy(m:List ah):Option Bool:=
 sumK (
  pV 200 (mD m) (0:Int)
 ) λs1=>
 adU (bif aai ((0:Int)<(m.length:Int)) then
  aag (aai<|(m.length:Int)<=(5:Int))
 else
  aag aaf
 ) λs17=>
 aag s17
theorem z7(m:List ah):Le (qy m) (dN m):=by
 unfold qy dN
 solve_by_elim (maxDepth:=9999) only[*,xk,Le.gd,Le.bif,Le.bind,Le.sumK,Le.loop,Le.nilK,Le.ifc,Le.refl]
def su(s:BA)(c:Int):((List BA)×Int×Int)->Option (((List BA)×Int×Int) ⊕ (List BA)):=λs5=>
 bif aai (s5.2.1<=(s.size:Int)) then
  adU (
   adU (bif (s5.2.1==(s.size:Int)) then
    aag aae
   else
    gd (aai<|0<=s5.2.1/\s5.2.1<(s.size:Int)) <|
    aag (((s.data.getD s5.2.1.toNat 0).toNat:Int)==c)
   ) λs10=>
   bif s10 then
    gd (aai<|0<=s5.2.2/\s5.2.2<=s5.2.1/\s5.2.1<=(s.size:Int)) <|
    gd (aR (s5.1.length+1) 16) <|
    gd (ZU .i64<|s5.2.1+(1:Int)) <|
    aag ((s5.1++[(s.extract s5.2.2.toNat s5.2.1.toNat)]),(s5.2.1+(1:Int)))
   else
    aag (s5.1,s5.2.2)
  ) λs9=>
  gd (ZU .i64<|s5.2.1+(1:Int)) <|
  aag (.inl (s9.1,(s5.2.1+(1:Int)),s9.2))
 else
  aag (.inr s5.1)
theorem AQ(s:BA)(c:Int)(sQ:_):Le (su s c sQ) (jZ s c sQ):=by
 unfold su jZ
 solve_by_elim (maxDepth:=9999) only[*,Le.gd,Le.bif,Le.bind,Le.sumK,Le.loop,Le.nilK,Le.ifc,Le.refl]
def tH(s:BA)(c:Int):Option (List BA):=
 adU (
  pV 200 (su s c) (([]:List BA),(0:Int),(0:Int))
 ) λs1=>
 aag s1
theorem yh(s:BA)(c:Int):Le (tH s c) (fH s c):=by
 unfold tH fH
 solve_by_elim (maxDepth:=9999) only[*,AQ,Le.gd,Le.bif,Le.bind,Le.sumK,Le.loop,Le.nilK,Le.ifc,Le.refl]
def mU:Option (List BA):=
 aag ([(⟨#[]⟩:BA),(⟨#[97,99,121,99,108,105,99]⟩:BA),(⟨#[105,114,114,101,102]⟩:BA),(⟨#[101,109,112,116,121]⟩:BA)]:List BA)
theorem wO:Le (mU ) (iE ):=by
 unfold mU iE
 solve_by_elim (maxDepth:=9999) only[*,Le.gd,Le.bif,Le.bind,Le.sumK,Le.loop,Le.nilK,Le.ifc,Le.refl]
def lI(v14:(List BA)):(Int×Int)->Option ((Int×Int) ⊕ Int):=λs18=>
 adU (mU ) λv20=>
 bif aai (s18.2<(v20.length:Int)) then
  adU (
   gd (aai<|0<=(0:Int)/\(0:Int)<(v14.length:Int)) <|
   adU (mU ) λv24=>
   gd (aai<|0<=s18.2/\s18.2<(v24.length:Int)) <|
   bif aai ((v14.getD (0:Int).toNat aad)=(v24.getD s18.2.toNat aad)) then
    aag s18.2
   else
    aag s18.1
  ) λs22=>
  gd (ZU .i64<|s18.2+(1:Int)) <|
  aag (.inl (s22,(s18.2+(1:Int))))
 else
  aag (.inr s18.1)
theorem wP(v14:(List BA))(sQ:_):Le (lI v14 sQ) (lH v14 sQ):=by
 unfold lI lH J
 solve_by_elim (maxDepth:=9999) only[*,wO,Le.gd,Le.bif,Le.bind,Le.sumK,Le.loop,Le.nilK,Le.ifc,Le.refl]
def xm(s:BA)(at_:Int)(c:Int):Option Bool:=
 adU (bif aai ((0:Int)<=at_) then
  aag (aai<|at_<(s.size:Int))
 else
  aag aaf
 ) λs1=>
 adU (bif s1 then
  gd (aai<|0<=at_/\at_<(s.size:Int)) <|
  aag (((s.data.getD at_.toNat 0).toNat:Int)==c)
 else
  aag aaf
 ) λs3=>
 aag s3
theorem Ap(s:BA)(at_:Int)(c:Int):Le (xm s at_ c) (uL s at_ c):=by
 unfold xm uL
 solve_by_elim (maxDepth:=9999) only[*,Le.gd,Le.bif,Le.bind,Le.sumK,Le.loop,Le.nilK,Le.ifc,Le.refl]
def iY(s:BA):Int->Option (Int ⊕ Int):=λs24=>
 adU (bif aai (s24<(s.size:Int)) then
  gd (aai<|0<=s24/\s24<(s.size:Int)) <|
  aag (aai<|(97:Int)<=((s.data.getD s24.toNat 0).toNat:Int))
 else
  aag aaf
 ) λs26=>
 adU (bif s26 then
  gd (aai<|0<=s24/\s24<(s.size:Int)) <|
  aag (aai<|((s.data.getD s24.toNat 0).toNat:Int)<=(122:Int))
 else
  aag aaf
 ) λs29=>
 bif s29 then
  gd (ZU .i64<|s24+(1:Int)) <|
  aag (.inl<|s24+(1:Int))
 else
  aag (.inr s24)
theorem uO(s:BA)(sQ:_):Le (iY s sQ) (iW s sQ):=by
 unfold iY iW
 solve_by_elim (maxDepth:=9999) only[*,Le.gd,Le.bif,Le.bind,Le.sumK,Le.loop,Le.nilK,Le.ifc,Le.refl]
def kM(eH:BA->Int->Int->Int->Option (aa×Int))(rcf:BA->Int->Int->Option (aa×Int))(s:BA)(at_:Int)(depth:Int):Option (aa×Int):=
 adU (bif aai (depth<(1:Int)) then
  aag aae
 else
  aag (aai<|at_<(0:Int))
 ) λs1=>
 adU (bif s1 then
  aag aae
 else
  aag (aai<|(s.size:Int)<=at_)
 ) λs3=>
 bif s3 then
  aag ((⟨(0:Int),(⟨#[]⟩:BA),([]:List ZTE)⟩:aa),(-1:Int))
 else
  gd (aai<|0<=at_/\at_<(s.size:Int)) <|
  bif (((s.data.getD at_.toNat 0).toNat:Int)==(40:Int)) then
   gd (ZU .i64<|at_+(1:Int)) <|
   adU (eH s (at_+(1:Int)) depth (3:Int)) λv9=>
   adU (xm s v9.2 (41:Int)) λv10=>
   bif !v10 then
    aag ((⟨(0:Int),(⟨#[]⟩:BA),([]:List ZTE)⟩:aa),(-1:Int))
   else
    gd (ZU .i64<|v9.2+(1:Int)) <|
    aag ((⟨v9.1.Op,v9.1.Name,v9.1.Kids⟩:aa),(v9.2+(1:Int)))
  else
   adU (
    bif (((s.data.getD at_.toNat 0).toNat:Int)==(126:Int)) then
     aag (((s.data.getD at_.toNat 0).toNat:Int)==(126:Int))
    else
     aag (((s.data.getD at_.toNat 0).toNat:Int)==(43:Int))
   ) λs13=>
   bif s13 then
    adU (
     bif (((s.data.getD at_.toNat 0).toNat:Int)==(43:Int)) then
      aag (7:Int)
     else
      aag (6:Int)
    ) λs16=>
    gd (ZU .i64<|at_+(1:Int)) <|
    gd (ZU .i64<|depth-(1:Int)) <|
    adU (rcf s (at_+(1:Int))<|depth-(1:Int)) λv20=>
    aag ((⟨s16,(⟨#[]⟩:BA),([(⟨v20.1.Op,v20.1.Name,v20.1.Kids⟩:aa).inn]:List ZTE)⟩:aa),v20.2)
   else
    adU (
     pV 200 (iY s) at_
    ) λs21=>
    bif (s21==at_) then
     aag ((⟨(0:Int),(⟨#[]⟩:BA),([]:List ZTE)⟩:aa),(-1:Int))
    else
     gd (aai<|0<=at_/\at_<=s21/\s21<=(s.size:Int)) <|
     aag ((⟨(1:Int),(s.extract at_.toNat s21.toNat),([]:List ZTE)⟩:aa),s21)
theorem vZ(eH:BA->Int->Int->Int->Option (aa×Int))(uZ:BA->Int->Int->Int->Option (aa×Int))(DT:∀x0 x1 x2 x3,Le (eH x0 x1 x2 x3)<|uZ x0 x1 x2 x3)(rcf:BA->Int->Int->Option (aa×Int))(Ea:BA->Int->Int->Option (aa×Int))(hrcf:∀x0 x1 x2,Le (rcf x0 x1 x2)<|Ea x0 x1 x2)(s:BA)(at_:Int)(depth:Int):Le (kM eH rcf s at_ depth) (gF uZ Ea s at_ depth):=by
 unfold kM gF
 solve_by_elim (maxDepth:=9999) only[*,Ap,uO,DT,hrcf,Le.gd,Le.bif,Le.bind,Le.sumK,Le.loop,Le.nilK,Le.ifc,Le.refl]
def kN(eH:BA->Int->Int->Int->Option (aa×Int)):Nat->BA->Int->Int->Option (aa×Int)
 |0=>λ_ _ _=>aah
 |n+1=>kM eH (kN eH n)
def sP(eH:BA->Int->Int->Int->Option (aa×Int))(s:BA)(at_:Int)(depth:Int):Option (aa×Int):=kN eH 40 s at_ depth
theorem mV(eH:BA->Int->Int->Int->Option (aa×Int))(uZ:BA->Int->Int->Int->Option (aa×Int))(DT:∀x0 x1 x2 x3,Le (eH x0 x1 x2 x3)<|uZ x0 x1 x2 x3):∀(n m:Nat),n<=m->∀x0 x1 x2,Le (kN eH n x0 x1 x2) (dA uZ m x0 x1 x2)
 |0,_,_=>λx0 x1 x2 v h=>by cases h
 |n+1,0,h=>absurd h (aef _)
 |n+1,m+1,h=>λx0 x1 x2=>vZ eH uZ DT _ _ (mV eH uZ DT n m<|aeg h) x0 x1 x2
theorem xn(eH:BA->Int->Int->Int->Option (aa×Int))(uZ:BA->Int->Int->Int->Option (aa×Int))(DT:∀x0 x1 x2 x3,Le (eH x0 x1 x2 x3)<|uZ x0 x1 x2 x3)(s:BA)(at_:Int)(depth:Int):Le (sP eH s at_ depth) (mq uZ s at_ depth):=λv h=>yQ 40 λm hm=>mV eH uZ DT 40 m hm s at_ depth v h
def mW(op:Int):Option Int:=
 bif (op==(2:Int)) then
  aag (3:Int)
 else
  adU (
   bif (op==(3:Int)) then
    aag (op==(3:Int))
   else
    aag (op==(4:Int))
  ) λs2=>
  bif s2 then
   aag (2:Int)
  else
   bif (op==(5:Int)) then
    aag (1:Int)
   else
    aag (0:Int)
theorem qz(op:Int):Le (mW op) (ku op):=by
 unfold mW ku
 solve_by_elim (maxDepth:=9999) only[*,Le.gd,Le.bif,Le.bind,Le.sumK,Le.loop,Le.nilK,Le.ifc,Le.refl]
def pz(op:Int):Option BA:=
 gd (aai<|0<=op/\op<(([(⟨#[]⟩:BA),(⟨#[]⟩:BA),(⟨#[124]⟩:BA),(⟨#[38]⟩:BA),(⟨#[45]⟩:BA),(⟨#[59]⟩:BA),(⟨#[126]⟩:BA),(⟨#[43]⟩:BA)]:List BA).length:Int)) <|
 aag (([(⟨#[]⟩:BA),(⟨#[]⟩:BA),(⟨#[124]⟩:BA),(⟨#[38]⟩:BA),(⟨#[45]⟩:BA),(⟨#[59]⟩:BA),(⟨#[126]⟩:BA),(⟨#[43]⟩:BA)]:List BA).getD op.toNat aad)
theorem yj(op:Int):Le (pz op) (l7 op):=by
 unfold pz l7 J
 solve_by_elim (maxDepth:=9999) only[*,Le.gd,Le.bif,Le.bind,Le.sumK,Le.loop,Le.nilK,Le.ifc,Le.refl]
def wh(s:BA)(at_:Int)(level:Int):Int->Option (Int ⊕ (Unit ⊕ Int)):=λs4=>
 bif aai (s4<=(5:Int)) then
  adU (mW s4) λv7=>
  adU (bif (v7==level) then
   adU (pz s4) λv10=>
   gd (aai<|0<=(0:Int)/\(0:Int)<(v10.size:Int)) <|
   adU (xm s at_ ((v10.data.getD (0:Int).toNat 0).toNat:Int)) λv12=>
   aag v12
  else
   aag aaf
  ) λs8=>
  bif s8 then
   aag (.inr<|.inr s4)
  else
   gd (ZU .i64<|s4+(1:Int)) <|
   aag (.inl<|s4+(1:Int))
 else
  aag (.inr<|.inl ())
theorem Dh(s:BA)(at_:Int)(level:Int)(sQ:_):Le (wh s at_ level sQ) (vW s at_ level sQ):=by
 unfold wh vW
 solve_by_elim (maxDepth:=9999) only[*,qz,yj,Ap,Le.gd,Le.bif,Le.bind,Le.sumK,Le.loop,Le.nilK,Le.ifc,Le.refl]
def AR(s:BA)(at_:Int)(level:Int):Option Int:=
 sumK (
  pV 200 (wh s at_ level) (2:Int)
 ) λs1=>
 aag (0:Int)
theorem G9(s:BA)(at_:Int)(level:Int):Le (AR s at_ level) (xj s at_ level):=by
 unfold AR xj
 solve_by_elim (maxDepth:=9999) only[*,Dh,Le.gd,Le.bif,Le.bind,Le.sumK,Le.loop,Le.nilK,Le.ifc,Le.refl]
def qA(rcf:BA->Int->Int->Int->Option (aa×Int))(s:BA)(depth:Int)(level:Int):(Int×ByteArray×(List ZTE)×Int)->Option ((Int×ByteArray×(List ZTE)×Int) ⊕ ((Int×ByteArray×(List ZTE)) ⊕ (aa×Int))):=λs8=>
 bif aai ((0:Int)<=s8.2.2.2) then
  adU (AR s s8.2.2.2 level) λv11=>
  bif (v11==(0:Int)) then
   aag (.inr<|.inr ((⟨s8.1,s8.2.1,s8.2.2.1⟩:aa),s8.2.2.2))
  else
   gd (ZU .i64<|s8.2.2.2+(1:Int)) <|
   adU (rcf s (s8.2.2.2+(1:Int)) depth<|level-(1:Int)) λv14=>
   aag (.inl (v11,(⟨#[]⟩:BA),([(⟨s8.1,s8.2.1,s8.2.2.1⟩:aa).inn,(⟨v14.1.Op,v14.1.Name,v14.1.Kids⟩:aa).inn]:List ZTE),v14.2))
 else
  aag (.inr<|.inl (s8.1,s8.2.1,s8.2.2.1))
theorem z8(rcf:BA->Int->Int->Int->Option (aa×Int))(Ea:BA->Int->Int->Int->Option (aa×Int))(hrcf:∀x0 x1 x2 x3,Le (rcf x0 x1 x2 x3)<|Ea x0 x1 x2 x3)(s:BA)(depth:Int)(level:Int)(sQ:_):Le (qA rcf s depth level sQ) (qp Ea s depth level sQ):=by
 unfold qA qp
 solve_by_elim (maxDepth:=9999) only[*,G9,hrcf,Le.gd,Le.bif,Le.bind,Le.sumK,Le.loop,Le.nilK,Le.ifc,Le.refl]
def sw(rcf:BA->Int->Int->Int->Option (aa×Int))(s:BA)(at_:Int)(depth:Int)(level:Int):Option (aa×Int):=
 bif (level==(0:Int)) then
  adU (sP rcf s at_ depth) λv2=>
  aag ((⟨v2.1.Op,v2.1.Name,v2.1.Kids⟩:aa),v2.2)
 else
  gd (ZU .i64<|level-(1:Int)) <|
  adU (rcf s at_ depth<|level-(1:Int)) λv4=>
  sumK (
   pV 200 (qA rcf s depth level) (v4.1.Op,v4.1.Name,v4.1.Kids,v4.2)
  ) λs5=>
  aag ((⟨(0:Int),(⟨#[]⟩:BA),([]:List ZTE)⟩:aa),(-1:Int))
theorem AU(rcf:BA->Int->Int->Int->Option (aa×Int))(Ea:BA->Int->Int->Int->Option (aa×Int))(hrcf:∀x0 x1 x2 x3,Le (rcf x0 x1 x2 x3)<|Ea x0 x1 x2 x3)(s:BA)(at_:Int)(depth:Int)(level:Int):Le (sw rcf s at_ depth level) (nu Ea s at_ depth level):=by
 unfold sw nu
 solve_by_elim (maxDepth:=9999) only[*,xn,z8,hrcf,Le.gd,Le.bif,Le.bind,Le.sumK,Le.loop,Le.nilK,Le.ifc,Le.refl]
def sx:Nat->BA->Int->Int->Int->Option (aa×Int)
 |0=>λ_ _ _ _=>aah
 |n+1=>sw (sx n)
def Aq(s:BA)(at_:Int)(depth:Int)(level:Int):Option (aa×Int):=sx 40 s at_ depth level
theorem uP:∀(n m:Nat),n<=m->∀x0 x1 x2 x3,Le (sx n x0 x1 x2 x3) (j6 m x0 x1 x2 x3)
 |0,_,_=>λx0 x1 x2 x3 v h=>by cases h
 |n+1,0,h=>absurd h (aef _)
 |n+1,m+1,h=>λx0 x1 x2 x3=>AU _ _ (uP n m<|aeg h) x0 x1 x2 x3
theorem Di(s:BA)(at_:Int)(depth:Int)(level:Int):Le (Aq s at_ depth level) (rz s at_ depth level):=λv h=>yQ 40 λm hm=>uP 40 m hm s at_ depth level v h
def gm(zG:aa->Option BA)(e_:aa)(level:Int):Option BA:=
 adU (mW e_.Op) λv1=>
 bif aai (level<v1) then
  adU (zG e_) λv3=>
  gd (aai<|(⟨#[40]⟩:BA).size+v3.size<=9223372036854775807) <|
  gd (aai<|((⟨#[40]⟩:BA)++v3).size+(⟨#[41]⟩:BA).size<=9223372036854775807) <|
  aag (((⟨#[40]⟩:BA)++v3)++(⟨#[41]⟩:BA))
 else
  adU (zG e_) λv6=>
  aag v6
theorem yC(zG:aa->Option BA)(rcf188':aa->Option BA)(hrcf188:∀x0,Le (zG x0)<|rcf188' x0)(e_:aa)(level:Int):Le (gm zG e_ level) (dR rcf188' e_ level):=by
 unfold gm dR
 solve_by_elim (maxDepth:=9999) only[*,qz,hrcf188,Le.gd,Le.bif,Le.bind,Le.sumK,Le.loop,Le.nilK,Le.ifc,Le.refl]
def uQ(rcf:aa->Option BA)(e_:aa):Option BA:=
 adU (tG e_.Op) λv1=>
 bif (v1==(0:Int)) then
  aag e_.Name
 else
  bif (v1==(1:Int)) then
   adU (pz e_.Op) λv4=>
   gd (aai<|0<=(0:Int)/\(0:Int)<(e_.Kids.length:Int)) <|
   adU (gm rcf ((e_.Kids.getD (0:Int).toNat aad).out) (0:Int)) λv6=>
   gd (aai<|v4.size+v6.size<=9223372036854775807) <|
   aag (v4++v6)
  else
   adU (mW e_.Op) λv8=>
   gd (aai<|0<=(0:Int)/\(0:Int)<(e_.Kids.length:Int)) <|
   adU (gm rcf ((e_.Kids.getD (0:Int).toNat aad).out) v8) λv10=>
   adU (pz e_.Op) λv11=>
   gd (aai<|v10.size+v11.size<=9223372036854775807) <|
   gd (aai<|0<=(1:Int)/\(1:Int)<(e_.Kids.length:Int)) <|
   gd (ZU .i64<|v8-(1:Int)) <|
   adU (gm rcf ((e_.Kids.getD (1:Int).toNat aad).out)<|v8-(1:Int)) λv15=>
   gd (aai<|(v10++v11).size+v15.size<=9223372036854775807) <|
   aag ((v10++v11)++v15)
theorem BP(rcf:aa->Option BA)(Ea:aa->Option BA)(hrcf:∀x0,Le (rcf x0)<|Ea x0)(e_:aa):Le (uQ rcf e_) (pg Ea e_):=by
 unfold uQ pg J
 solve_by_elim (maxDepth:=9999) only[*,yg,yj,yC,qz,hrcf,Le.gd,Le.bif,Le.bind,Le.sumK,Le.loop,Le.nilK,Le.ifc,Le.refl]
def uR:Nat->aa->Option BA
 |0=>λ_=>aah
 |n+1=>uQ (uR n)
def xp(e_:aa):Option BA:=uR 40 e_
theorem vK:∀(n m:Nat),n<=m->∀x0,Le (uR n x0) (lG m x0)
 |0,_,_=>λx0 v h=>by cases h
 |n+1,0,h=>absurd h (aef _)
 |n+1,m+1,h=>λx0=>BP _ _ (vK n m<|aeg h) x0
theorem yl(e_:aa):Le (xp e_) (pq e_):=λv h=>yQ 40 λm hm=>vK 40 m hm e_ v h
def mE(e_:aa):Option BA:=
 adU (jw e_) λv1=>
 bif !v1 then
  aag (⟨#[]⟩:BA)
 else
  adU (xp e_) λv3=>
  aag v3
theorem xq(e_:aa):Le (mE e_) (iJ e_):=by
 unfold mE iJ
 solve_by_elim (maxDepth:=9999) only[*,pX,yl,Le.gd,Le.bif,Le.bind,Le.sumK,Le.loop,Le.nilK,Le.ifc,Le.refl]
def nR(text:BA):Option (aa×Bool):=
 bif aai ((300:Int)<(text.size:Int)) then
  aag ((⟨(0:Int),(⟨#[]⟩:BA),([]:List ZTE)⟩:aa),aaf)
 else
  adU (Aq text (0:Int) (12:Int) (3:Int)) λv2=>
  adU (bif (v2.2 != (text.size:Int)) then
   aag aae
  else
   adU (mE (⟨v2.1.Op,v2.1.Name,v2.1.Kids⟩:aa)) λv5=>
   aag (!decide (v5=text))
  ) λs3=>
  adU (bif s3 then
   aag aae
  else
   aag (aai<|text=(⟨#[]⟩:BA))
  ) λs6=>
  bif s6 then
   aag ((⟨(0:Int),(⟨#[]⟩:BA),([]:List ZTE)⟩:aa),aaf)
  else
   aag ((⟨v2.1.Op,v2.1.Name,v2.1.Kids⟩:aa),aae)
theorem yD(text:BA):Le (nR text) (jv text):=by
 unfold nR jv
 solve_by_elim (maxDepth:=9999) only[*,Di,xq,Le.gd,Le.bif,Le.bind,Le.sumK,Le.loop,Le.nilK,Le.ifc,Le.refl]
def mF(v1:(List BA)):((List ah)×Int)->Option (((List ah)×Int) ⊕ ((List ah) ⊕ ((List ah)×Bool))):=λs6=>
 adU (bif aai (s6.2<(v1.length:Int)) then
  aag (aai<|s6.2<=(5:Int))
 else
  aag aaf
 ) λs9=>
 bif s9 then
  sumK (
   gd (aai<|0<=s6.2/\s6.2<(v1.length:Int)) <|
   adU (tH (v1.getD s6.2.toNat aad) (32:Int)) λv14=>
   adU (
    pV 200 (lI v14) ((0:Int),(1:Int))
   ) λs15=>
   adU (bif ((v14.length:Int) != (2:Int)) then
    aag aae
   else
    aag (s15==(0:Int))
   ) λs28=>
   bif s28 then
    aag (.inr<|.inr<|.inr (([]:List ah),aaf))
   else
    gd (aai<|0<=(1:Int)/\(1:Int)<(v14.length:Int)) <|
    adU (nR<|v14.getD (1:Int).toNat aad) λv32=>
    bif !v32.2 then
     aag (.inr<|.inr<|.inr (([]:List ah),aaf))
    else
     gd (aR (s6.1.length+1) 56) <|
     aag (.inl<|s6.1++[(⟨s15,(⟨v32.1.Op,v32.1.Name,v32.1.Kids⟩:aa)⟩:ah)])
  ) λs12=>
  gd (ZU .i64<|s6.2+(1:Int)) <|
  aag (.inl (s12,(s6.2+(1:Int))))
 else
  aag (.inr<|.inl s6.1)
theorem xu(v1:(List BA))(sQ:_):Le (mF v1 sQ) (mr v1 sQ):=by
 unfold mF mr J
 solve_by_elim (maxDepth:=9999) only[*,yh,wP,yD,Le.gd,Le.bif,Le.bind,Le.sumK,Le.loop,Le.nilK,Le.ifc,Le.refl]
def qC(m:List ah):(Int×BA)->Option ((Int×BA) ⊕ BA):=λs4=>
 bif aai (s4.1<(m.length:Int)) then
  adU (
   bif aai ((0:Int)<s4.1) then
    gd (aai<|s4.2.size+(⟨#[47]⟩:BA).size<=9223372036854775807) <|
    aag (s4.2++(⟨#[47]⟩:BA))
   else
    aag s4.2
  ) λs7=>
  adU (mU ) λv10=>
  gd (aai<|0<=s4.1/\s4.1<(m.length:Int)) <|
  gd (aai<|0<=(m.getD s4.1.toNat aad).Kind/\(m.getD s4.1.toNat aad).Kind<(v10.length:Int)) <|
  gd (aai<|s7.size+(v10.getD ((m.getD s4.1.toNat aad).Kind).toNat aad).size<=9223372036854775807) <|
  gd (aai<|(s7++(v10.getD ((m.getD s4.1.toNat aad).Kind).toNat aad)).size+(⟨#[32]⟩:BA).size<=9223372036854775807) <|
  adU (xp<|(m.getD s4.1.toNat aad).Expr) λv15=>
  gd (aai<|((s7++(v10.getD ((m.getD s4.1.toNat aad).Kind).toNat aad))++(⟨#[32]⟩:BA)).size+v15.size<=9223372036854775807) <|
  gd (ZU .i64<|s4.1+(1:Int)) <|
  aag (.inl ((s4.1+(1:Int)),(((s7++(v10.getD ((m.getD s4.1.toNat aad).Kind).toNat aad))++(⟨#[32]⟩:BA))++v15)))
 else
  aag (.inr s4.2)
theorem Aa(m:List ah)(sQ:_):Le (qC m sQ) (qq m sQ):=by
 unfold qC qq J
 solve_by_elim (maxDepth:=9999) only[*,wO,yl,Le.gd,Le.bif,Le.bind,Le.sumK,Le.loop,Le.nilK,Le.ifc,Le.refl]
def wm(m:List ah):Option BA:=
 adU (
  pV 200 (qC m) ((0:Int),(⟨#[]⟩:BA))
 ) λs1=>
 aag s1
theorem Dj(m:List ah):Le (wm m) (mS m):=by
 unfold wm mS
 solve_by_elim (maxDepth:=9999) only[*,Aa,Le.gd,Le.bif,Le.bind,Le.sumK,Le.loop,Le.nilK,Le.ifc,Le.refl]
def l8(text:BA):Option ((List ah)×Bool):=
 adU (tH text (47:Int)) λv1=>
 sumK (
  pV 200 (mF v1) (([]:List ah),(0:Int))
 ) λs2=>
 adU (qy s2) λv38=>
 adU (bif !v38 then
  aag aae
 else
  adU (wm s2) λv41=>
  aag (!decide (v41=text))
 ) λs39=>
 bif s39 then
  aag (([]:List ah),aaf)
 else
  aag (s2,aae)
theorem Ab(text:BA):Le (l8 text) (iX text):=by
 unfold l8 iX
 solve_by_elim (maxDepth:=9999) only[*,yh,xu,z7,Dj,Le.gd,Le.bif,Le.bind,Le.sumK,Le.loop,Le.nilK,Le.ifc,Le.refl]
def lJ(rcf:ae->Int->Option (ae×aa))(r_:ae)(depth:Int):Option (ae×aa):=
 adU (dW ) λv1=>
 bif aai (depth<(2:Int)) then
  adU (av (⟨r_.b,r_.p⟩:ae) (v1.length:Int)) λv3=>
  gd (aai<|0<=v3.2/\v3.2<(v1.length:Int)) <|
  aag ((⟨v3.1.b,v3.1.p⟩:ae),(⟨(1:Int),(v1.getD v3.2.toNat aad),([]:List ZTE)⟩:aa))
 else
  adU (av (⟨r_.b,r_.p⟩:ae) (3:Int)) λv5=>
  bif (v5.2==(0:Int)) then
   adU (av (⟨v5.1.b,v5.1.p⟩:ae) (v1.length:Int)) λv7=>
   gd (aai<|0<=v7.2/\v7.2<(v1.length:Int)) <|
   aag ((⟨v7.1.b,v7.1.p⟩:ae),(⟨(1:Int),(v1.getD v7.2.toNat aad),([]:List ZTE)⟩:aa))
  else
   adU (av (⟨v5.1.b,v5.1.p⟩:ae) (4:Int)) λv9=>
   bif (v9.2==(0:Int)) then
    adU (bq (⟨v9.1.b,v9.1.p⟩:ae) ([(6:Int),(7:Int)]:LI)) λv11=>
    gd (ZU .i64<|depth-(1:Int)) <|
    adU (rcf (⟨v11.1.b,v11.1.p⟩:ae)<|depth-(1:Int)) λv13=>
    aag ((⟨v13.1.b,v13.1.p⟩:ae),(⟨v11.2,(⟨#[]⟩:BA),([v13.2.inn]:List ZTE)⟩:aa))
   else
    adU (bq (⟨v9.1.b,v9.1.p⟩:ae) ([(2:Int),(3:Int),(4:Int),(5:Int)]:LI)) λv14=>
    gd (ZU .i64<|depth-(1:Int)) <|
    adU (rcf (⟨v14.1.b,v14.1.p⟩:ae)<|depth-(1:Int)) λv16=>
    adU (rcf (⟨v16.1.b,v16.1.p⟩:ae)<|depth-(1:Int)) λv17=>
    aag ((⟨v17.1.b,v17.1.p⟩:ae),(⟨v14.2,(⟨#[]⟩:BA),([v16.2.inn,v17.2.inn]:List ZTE)⟩:aa))
theorem BQ(rcf:ae->Int->Option (ae×aa))(Ea:ae->Int->Option (ae×aa))(hrcf:∀x0 x1,Le (rcf x0 x1)<|Ea x0 x1)(r_:ae)(depth:Int):Le (lJ rcf r_ depth) (o8 Ea r_ depth):=by
 unfold lJ o8 J
 solve_by_elim (maxDepth:=9999) only[*,hrcf,Le.gd,Le.bif,Le.bind,Le.sumK,Le.loop,Le.nilK,Le.ifc,Le.refl]
def lK:Nat->ae->Int->Option (ae×aa)
 |0=>λ_ _=>aah
 |n+1=>lJ (lK n)
def Ja(r_:ae)(depth:Int):Option (ae×aa):=lK 40 r_ depth
theorem vL:∀(n m:Nat),n<=m->∀x0 x1,Le (lK n x0 x1) (lC m x0 x1)
 |0,_,_=>λx0 x1 v h=>by cases h
 |n+1,0,h=>absurd h (aef _)
 |n+1,m+1,h=>λx0 x1=>BQ _ _ (vL n m<|aeg h) x0 x1
theorem El(r_:ae)(depth:Int):Le (Ja r_ depth) (o9 r_ depth):=λv h=>yQ 40 λm hm=>vL 40 m hm r_ depth v h
def Gg(m:List ah):Bool:=m.all λr=>aai<|r.Expr.Kids.length<=1000
def LZ(t:BA):Bool:=match l8 t with
 |some v=>aai (1<=v.1.length)&&aai (v.1.length<=5)&&Gg v.1
 |none=>aaf
theorem Ox:∀l,lF=aag l->l.all LZ=aae:=by
 intro l h;obtain rfl:=osl h
 decide +kernel
theorem L6{t:BA}(h:LZ t=aae):Z1 (iX t) λv=>1<=v.1.length/\v.1.length<=5/\Gg v.1=aae:=by
 unfold LZ at h
 cases hc:l8 t with
 |none=>rw[hc] at h;cases h
 |some v=>
  rw[hc] at h;simp only[bae,dte] at h;exact⟨v,Ab t v hc,h.1.1,h.1.2,h.2⟩
def bD:Nat->Int
 |0=>4
 |d+1=>4+2*bD d
theorem RI:∀d,4<=bD d
 |0=>adX _
 |d+1=>by have:=RI d;unfold bD;omega
theorem BR:∀(d n:Nat)(k:Int)(r:ae)(dep:Int),d<n->d<=4->Rd k r->k+bD d<=1000000 -> -100<=dep->dep<=(d:Int)+1->Z1 (lK n r dep) λv=>Rd (k+bD d) v.1/\v.2.Kids.length<=2
 |d,0,_,_,_,h,_,_,_,_,_=>absurd h (ad3 _)
 |d,n+1,k,r,dep,hn,hd,h,hk,h1,h2=>by
  show Z1 (lJ (lK n) r dep) _;have e1:∃l,dW=aag l/\0<l.length:=⟨_,rfl,by decide⟩;obtain⟨l,e1,e2⟩:=e1;have hp4:=RI d;unfold lJ;refine(Z1.of (P:=(· =l)) e1 rfl).bind λv1 hv1=>?_;subst hv1;refine .bifD (λ_=>?_) λhge=>?_
  .refine(bM h.mk' (by omega) _).bind λv3 ⟨a1,a2,a3⟩=>.gdD ⟨a2,by omega⟩<|.pure ⟨a1.mk'.mono (by omega),by simp⟩
  match d,hn,hd,hk,h2,hp4 with
  |0,_,_,_,h2,_=>exact absurd hge (by omega)
  |d+1,hn,hd,hk,h2,hp4=>
   have hb:bD (d+1)=4+2*bD d:=rfl;have hp:=RI d;refine(bM h.mk' (by omega) 3).bind λv5 ⟨a1,a2,a3⟩=>.bif (λ_=>?_) λ_=>(bM a1.mk' (by omega) 4).bind λv9 ⟨b1,b2,b3⟩=>.bif (λ_=>?_) λ_=>?_
   .refine(bM a1.mk' (by omega) _).bind λv3 ⟨c1,c2,c3⟩=>.gdD ⟨c2,by omega⟩<|.pure ⟨c1.mk'.mono (by omega),by simp⟩
   .refine(AJ b1.mk' (by omega) _<|by simp).bind λv11 ⟨c1,_⟩=>.gdI (by omega)<|(BR d n (k+1+1+1) _ (dep-1) (by omega) (by omega) c1.mk' (by omega) (by omega)<|by omega).bind λv13 ⟨d1,_⟩=>.pure ⟨d1.mk'.mono (by omega),by simp⟩
   refine(AJ b1.mk' (by omega) _ (by simp)).bind λv11 ⟨c1,_⟩=>.gdI (by omega) ((BR d n (k+1+1+1) _ (dep-1) (by omega) (by omega) c1.mk' (by omega) (by omega) (by omega)).bind λv13 ⟨d1,_⟩=>
    (BR d n (k+1+1+1+bD d) _ (dep-1) (by omega) (by omega) d1.mk' (by omega) (by omega) (by omega)).bind λv14 ⟨f1,_⟩=>.pure ⟨f1.mk'.mono (by omega),by simp⟩)
theorem Ij{k:Int}{r:ae}(h:Rd k r)(hk:k<=100000){dep:Int}(h1 : -100<=dep)(h2:dep<=3):Z1 (o9 r dep) λv=>Rd (k+28) v.1/\v.2.Kids.length<=2:=by
 obtain⟨v,e,h3⟩:=BR 2 40 k r dep (by omega) (by omega) h (by show k+28<=_;omega) h1 h2;exact⟨v,El r dep v e,h3⟩
theorem RJ{k:Int}{r:ae}(h:Rd k r)(hk:k<=10000):Z1 (rA r) λv=>Rd (k+100) v.1/\1<=v.2.length/\v.2.length<=5/\Gg v.2=aae:=by
 unfold rA J;have e1:∃l,lF=aag l/\0<l.length:=⟨_,rfl,by decide⟩;obtain⟨l,e1,e2⟩:=e1;have hall:=Ox l e1;refine(Z1.of (P:=(· =l)) e1 rfl).bind λv1 hv=>?_;subst hv;refine(bM h.mk' (by omega) 3).bind λv2 ⟨a1,a2,a3⟩=>.bifD (λ_=>?_) λ_=>?_
 .refine(bM a1.mk' (by omega) _).bind λv4 ⟨b1,b2,b3⟩=>.gdD ⟨b2,by omega⟩ ?_;have hlt:v4.2.toNat<v1.length:=by omega
  exact(L6<|adW.1 hall _<|getD_in hlt).bind λv6 h6=>.pure ⟨b1.mk'.mono (by omega),h6⟩
 refine Z1.bind (P:=λv=>Rd (k+100) ⟨v.1,v.2.1⟩/\1<=v.2.2.length/\v.2.2.length<=5/\Gg v.2.2=aae) ?_ λv hv=>.pure hv;refine(bM a1.mk' (by omega) 2).bind λv8 ⟨b1,b2,b3⟩=>.gdI (by omega) ?_;refine Z1.loop (λs=>Rd (k+2+40*(2-s.2.2.2)) ⟨s.1,s.2.1⟩/\(0<=s.2.2.2/\s.2.2.2<=2)/\(s.2.2.1.length:Int)+s.2.2.2=1+v8.2/\Gg s.2.2.1=aae) (λs=>s.2.2.2.toNat) ⟨b1.mk'.mono (by simp only[];omega),by simp only[];omega,by simp,rfl⟩ λs ⟨h1,h2,h3,h4⟩=>?_;unfold vJ;refine .bifD (λh0=>?_) λh0=>.pure (by
  have h2':s.2.2.2=0:=by omega
  refine⟨h1.mono (by omega),?_,?_,h4⟩ <;> simp only[] <;> omega)
 refine(bM h1 (by omega) 3).bind λv17 ⟨c1,c2,c3⟩=>.gdI (by omega)<|(Ij c1.mk' (by omega) (by omega)<|by omega).bind λv19 ⟨d1,d2⟩=>.gd (aK (by omega) rfl)<|.gdI (by omega)<|.pure ⟨⟨d1.mk'.mono (by simp only[];omega),by simp only[];omega,by simp only[lla,aeI];omega,?_⟩,by simp only[];omega⟩;unfold Gg at h4 ⊢;simp only[List.all_append,h4,adZ,aei,List.all_nil,Bool.and_true];exact decide_eq_true (by omega)
theorem Kj{k:Int}{r:ae}{e:aa}(h:Rd k r)(hk:k<=10000)(he:e.Kids.length<=1000):Z1 (lD r e) λv=>Rd (k+30) v.1:=by
 unfold lD;refine .gdD (by omega)<|(bM h (by omega) 24).bind λv ⟨a1,a2,a3⟩=>.bif (λ_=>(AJ a1 (by omega) _<|by simp).bind λa ⟨b1,_⟩=>.pure<|b1.mono<|by omega) λ_=>.bif (λ_=>(X5 a1 (by omega) _<|by simp).bind λa ⟨b1,_⟩=>.pure<|b1.mono<|by omega) λ_=>.bif (λ_=>(Ij a1 (by omega) (by omega)<|by omega).bind λa ⟨b1,_⟩=>.pure<|b1.mono<|by omega) λ_=>.bif (λ_=>.pure<|a1.mono<|by omega) λ_=>.pure<|a1.mono (by omega)
theorem Jb{k:Int}{r:ae}{m:List ah}(h:Rd k r)(hk:k<=9000)(hm:1<=m.length)(hm5:m.length<=5)(hks:Gg m=aae):Z1 (kW r m) λv=>Rd (k+40) v.1/\v.2.length<=10:=by
 unfold kW;have h0:((m.getD 0 aad).Expr).Kids.length<=1000:=of_decide_eq_true<|adW.1 hks _<|getD_in (by omega);refine .gd (aK (by simp;omega) rfl) (Z1.bind (P:=λv=>Rd (k+40) ⟨v.1,v.2.1⟩/\v.2.2.2.length<=10) ?_ λv hv=>.pure hv);refine(bM h.mk' (by omega) 24).bind λv3 ⟨a1,a2,a3⟩=>.bif (λ_=>?_) λ_=>.bif (λ_=>?_) λ_=>.bif (λ_=>.pure ⟨a1.mk'.mono (by omega),by simp⟩) λ_=>.bif (λ_=>?_) λ_=>.pure ⟨a1.mk'.mono (by omega),by simp;omega⟩
 .refine(AJ a1.mk' (by omega) _<|by simp).bind λv5 ⟨b1,_⟩=>.gdD ⟨by omega,by simp;omega⟩ (.pure ⟨b1.mk'.mono (by omega),by simp;omega⟩)
 .refine .gdD ⟨by omega,by simp;omega⟩ ((Kj a1.mk' (by omega) h0).bind λv9 b1=>.pure ⟨b1.mk'.mono (by omega),by simp;omega⟩)
 refine Z1.loop (λs=>1<=s.length/\s.length<=6) (λs=>6-s.length) ⟨by simpa using hm,by simp;omega⟩ λs ⟨h1,h2⟩=>?_;unfold kK;refine .bifD (λh0=>.gdD ⟨by omega,by omega⟩<|.gd (aK (by omega) rfl)<|.pure ⟨by simp;omega,by simp;omega⟩) λ_=>.pure ⟨a1.mk'.mono (by omega),by simp only[];omega⟩
theorem Ik{α:Type}[Inhabited α]{l:List α}{i:Int}(h0:0<=i)(h:i<(l.length:Int)):l.take (i+1).toNat=l.take i.toNat++[l.getD i.toNat aad]:=by
 have hi:i.toNat<l.length:=by omega
 have e:(i+1).toNat=i.toNat+1:=by omega
 rw[e,gdq,geq hi];exact(List.take_append_getElem hi).symm
theorem Kl{α:Type}[Inhabited α]{l:List α}{i:Int}(h0:0<=i)(h:i<(l.length:Int)):l.getD i.toNat aad∈l:=by
 have hi:i.toNat<l.length:=by omega
 rw[gdq,geq hi];exact ad9 _
theorem zU{l base:LI}{step:List Int×Int->Option ((List Int×Int) ⊕ LI)}(hs:∀s,step s=bif aai (s.2<(l.length:Int)) then
   gd (aai<|0<=s.2/\s.2<(l.length:Int))<|gd (ZU .u8<|l.getD s.2.toNat aad)<|gd (aR (s.1.length+1) 1)<|gd (ZU .i64<|s.2+(1:Int))<|aag (.inl ((s.1++[(l.getD s.2.toNat aad)]),(s.2+(1:Int))))
  else aag (.inr s.1))(hl:l.length+base.length<=1000000)(hv:∀v∈l,0<=v/\v<=255):Z1 (aA step (base,(0:Int))) (· =base++l):=by
 refine Z1.loop (λs=>0<=s.2/\s.2<=(l.length:Int)/\s.1=base++l.take s.2.toNat) (λs=>((l.length:Int)-s.2).toNat) ⟨adX _,by simp only[];omega,by simp⟩ λs ⟨h1,h2,h3⟩=>?_;rw[hs];refine .bifD (λh0=>?_) λh0=>.pure ?_
 .have hln:s.1.length<=l.length+base.length:=by rw[h3,lla,ad5];omega
  refine .gdD ⟨h1,h0⟩<|.gdY (hv _<|Kl h1 h0)<|.gdC (by omega) rfl<|.gdI (by omega)<|.pure ⟨⟨by simp only[];omega,by simp only[];omega,?_⟩,by simp only[];omega⟩;simp only[h3,Ik h1 h0,ad2]
 have : s.2=(l.length:Int):=by omega
 rw[h3,this,tnn,aed]
theorem Uj(s:BA)(i:Nat):0<=((s.data.getD i 0).toNat:Int)/\((s.data.getD i 0).toNat:Int)<=255:=by
 have:=(s.data.getD i 0).toNat_lt;omega
theorem RL(s:BA)(hs:s.size<=1000000):Z1 (bX s) λv=>0<=v/\v<4096:=by
 unfold bX;refine Z1.bind (P:=λv:Int=>0<=v/\v<4096) ?_ λv hv=>.pure hv;refine Z1.loop (λz=>0<=z.1/\z.1<=(s.size:Int)/\0<=z.2/\z.2<4096) (λz=>((s.size:Int)-z.1).toNat) ⟨adX _,by simp only[];omega,adX _,by decide⟩ λz ⟨h1,h2,h3,h4⟩=>?_;unfold xX;have hb:=Uj s z.1.toNat;refine .bifD (λh0=>.gdI (by omega)<|.gdD ⟨h1,h0⟩<|.gdI (by omega)<|.gdI (by omega)<|.gdD (by decide)<|.gdI (by omega)<|.pure ⟨⟨by simp only[];omega,by simp only[];omega,?_,?_⟩,by simp only[];omega⟩) λ_=>.pure ⟨h3,h4⟩
 .exact Int.tmod_nonneg _ (by omega)
 exact Int.tmod_lt_of_pos _ (by decide)
def hfZ(k:BA):Nat:=match bX k with
 |some v=>v.toNat
 |none=>0
theorem RN(k:BA)(hk:k.size<=1000000):bX k=aag (hfZ k:Int)/\hfZ k<4096:=by
 obtain⟨v,e,h1,h2⟩:=RL k hk;have hf:hfZ k=v.toNat:=by unfold hfZ;rw[e]
 rw[e,hf];exact⟨congrArg aag (by omega),by omega⟩
theorem Oy{t:Tb}(k:BA)(hk:k.size<=1000000)(hl:t.length=4096)(hr:∀i,(t.getD i []).length<=1099511627776):Z1 (fP t k) λb=>(b=aae↔k∈t.getD (hfZ k) []):=by
 obtain⟨e,h2⟩:=RN k hk;unfold fP;refine(Z1.of (P:=(· =(hfZ k:Int))) e rfl).bind λw hw=>?_;subst hw;have hr:=hr (hfZ k);have hd:t.getD ((hfZ k:Nat):Int).toNat aad=t.getD (hfZ k) []:=rfl;refine .gdD ⟨by omega,by omega⟩ (Z1.sum (PS:=λ_=>k∉t.getD (hfZ k) []) (PW:=λb:Bool=>(b=aae↔k∈t.getD (hfZ k) [])) ?_ λ_ h=>.pure ⟨nofun,λh'=>absurd h' h⟩);refine Z1.loop (λz=>0<=z/\z<=((t.getD (hfZ k) []).length:Int)/\k∉(t.getD (hfZ k) []).take z.toNat) (λz=>(((t.getD (hfZ k) []).length:Int)-z).toNat) ⟨adX _,by omega,by simp⟩ λz ⟨g1,g2,g3⟩=>?_;unfold wL J;simp only[hd];refine .bifD (λh0=>.gdD ⟨g1,h0⟩ ?_) λh0=>.pure (by
  have : z=((t.getD (hfZ k) []).length:Int):=by omega
  rw[this,tnn,aed] at g3;exact g3)
 refine .bifD (λhe=>.pure ⟨λ_=>(congrArg (· ∈ t.getD (hfZ k) []) he).mp<|Kl g1 h0,λ_=>rfl⟩) λhne=>.gdI (by omega)<|.pure ⟨⟨by omega,by omega,?_⟩,by omega⟩;rw[Ik g1 h0,aec,aej];rintro (h|h)
 .exact g3 h
 exact hne h.symm
theorem ZA:Sok bX fP hfZ:=⟨λk hk=>(RN k hk).1,λk hk=>(RN k hk).2,λ_ k hk hl hr=>Oy k hk hl hr⟩
theorem Gh(l:LI):(strOfNums l).size=l.length:=by
 unfold strOfNums;show(List.toArray _).size=_;simp
def L8(s:ZZ):Bool:=aai (s.at_.length<=1048576/\s.regs.length<=1048576/\s.mem.length<=1048576/\s.buf.length<=1048576)&&s.buf.all λr=>aai<|r.length<=1048576
def Ni(p:List<|List ZW)(s:ZZ)(t:Int):ZW:=(p.getD t.toNat aad).getD (s.at_.getD t.toNat aad).toNat aad
def zq(s:ZZ)(t:Int)(x:ZW):Option ZZ:=adU (adU (bN x) λv8=>bif v8 then adU (lu t x.Reg) λv10=>gd (aai<|0<=x.Loc/\x.Loc<(s.mem.length:Int)) <|gd (aai<|0<=v10/\v10<(s.regs.length:Int)) <|aag (s.regs.set v10.toNat<|J s.mem x.Loc) else aag s.regs) λs7=>adU (adU (bF x) λv15=>bif v15 then adU (kr s t x) λv17=>gd (aai<|0<=x.Loc/\x.Loc<(s.mem.length:Int)) <|aag (s.mem.set x.Loc.toNat v17) else aag s.mem) λs14=>aag (⟨(s.at_.set t.toNat<|(J s.at_ t)+(1:Int)),s7,s14,s.buf⟩:ZZ)
def uS(p:List<|List ZW)(s:ZZ)(t:Int):Option ZZ:=gd (L8 s) <|gd (aai<|0<=t/\t<(p.length:Int)) <|gd (aai<|0<=t/\t<(s.at_.length:Int)) <|gd (aai<|0<=(J s.at_ t)/\(J s.at_ t)<((J p t).length:Int)) <|gd (ZU .i64<|(J s.at_ t)+(1:Int)) <|zq s t<|Ni p s t
def zt(s:ZZ)(b:Int)(r:LI):Option ZZ:=gd (aai<|2<=r.length) <|gd (aai<|0<=(J r (0:Int))/\(J r (0:Int))<(s.mem.length:Int)) <|aag (⟨s.at_,s.regs,s.mem.set (J r (0:Int)).toNat<|J r (1:Int),s.buf.set b.toNat<|r.drop 2⟩:ZZ)
def zu(p:List<|List ZW)(s:ZZ)(split:Bool)(move:Int)(x:ZW):Option ZZ:=adU (bif x.Op==(5:Int) then aag aae else aag (x.Op==(4:Int))) λs6=>bif s6 then adU (uS p s move) λv9=>aag v9 else gd (ZU .i64<|(J s.at_ move)+(1:Int)) <|bif x.Op==(1:Int) then adU (lu move x.Reg) λv13=>adU (oU s move x.Loc split) λv14=>gd (aai<|0<=v13/\v13<(s.regs.length:Int)) <|aag (⟨(s.at_.set move.toNat<|(J s.at_ move)+(1:Int)),(s.regs.set v13.toNat v14),s.mem,s.buf⟩:ZZ) else adU (fQ move x.Loc split) λv20=>gd (aai<|0<=v20/\v20<(s.buf.length:Int)) <|adU (kr s move x) λv21=>aag (⟨(s.at_.set move.toNat<|(J s.at_ move)+(1:Int)),s.regs,s.mem,s.buf.set v20.toNat<|s.buf.getD v20.toNat aad++[x.Loc,v21]⟩:ZZ)
def lL(p:List<|List ZW)(s:ZZ)(split:Bool)(move:Int):Option ZZ:=gd (L8 s) <|bif aai ((p.length:Int)<=move) then gd (ZU .i64<|move-(p.length:Int)) <|gd (aai<|0<=(move-(p.length:Int))/\(move-(p.length:Int))<(s.buf.length:Int)) <|zt s (move-(p.length:Int)) (J s.buf<|move-(p.length:Int)) else gd (aai<|0<=move/\move<(p.length:Int)) <|gd (aai<|0<=move/\move<(s.at_.length:Int)) <|gd (aai<|0<=(J s.at_ move)/\(J s.at_ move)<((J p move).length:Int)) <|zu p s split move<|Ni p s move
def rK(p:List<|List ZW)(split:Bool):Option cg:=adU (Yv bX fP je (λs _ i=>jf p s split i) (λs _ i=>lL p s split i) (λg:Int=>g) (λs=>gd (ZU .i64<|(p.length:Int)+(s.buf.length:Int))<|aag<|(p.length:Int)+(s.buf.length:Int)) (jq p) dm jg 96<|mN p split) λy=>aag ⟨y.1,y.2⟩
section
variable{p:List (List ZW)}{sp:Bool}{s:ZZ}
structure NZ(p:List (List ZW))(sp:Bool)(s:ZZ):Prop where
 iz:IZ p sp s
 n:0<p.length/\p.length<=3
 a:∀t:Nat,0<=s.at_.getD t aad/\s.at_.getD t aad<=((p.getD t aad).length:Int)/\s.at_.getD t aad<=7
 r:∀v∈s.regs,0<=v/\v<=3
 m:∀v∈s.mem,0<=v/\v<=3
 b:∀i:Nat,(∀v∈s.buf.getD i aad,0<=v/\v<=3)/\(∀e∈prs (s.buf.getD i aad),0<=e.1/\e.1<=2)/\(s.buf.getD i aad).length<=14
 x:∀t:Nat,s.at_.getD t aad<((p.getD t aad).length:Int)->InR (Be p s t)/\1<=(Be p s t).Op/\(Be p s t).Op<=5
 k:∀v∈LA s,0<=v/\v<=255
theorem NZ.of(hp:PW p)(hs:Rea (UN p sp) (nT p sp) s):NZ p sp s:=by
 obtain⟨h,hr⟩:=(vI hp sp).rea hs;have hi:=InT.of hp.pv.prg hr;exact⟨h,⟨hp.pv.pos,hp.pv.vs.1⟩,λt=>⟨h.a0 t,h.at7 hp.pv hi t⟩,h.r3 hi,h.m3 hi,h.b3 hp.pv hi,λt hc=>⟨hp.pv.prg _ _ _<|(BK h).1 hc,hp.op _ _ _<|(BK h).1 hc⟩,h.key255 hp.pv hi⟩
theorem NZ.bl(h:NZ p sp s):s.buf.length=Z5 sp p.length/\Z5 sp p.length<=9/\p.length<=Z5 sp p.length:=by
 have:=h.n;refine⟨h.iz.bl,?_⟩;unfold Z5
 cases sp <;> simp only[cond_true,cond_false] <;> omega
theorem YR(sp:Bool):Z5 sp 1=if sp then 3 else 1:=by cases sp <;> rfl
theorem RO{α:Type}[Inhabited α]{l:List α}{i:Nat}(h:i<l.length):l.getD i aad∈l:=by
 rw[gdq,geq h];exact ad9 _
theorem Gi(k:Nat):∀l:LL,(∀r∈l,r.length<=k)->(l.flatMap λw=>(255:Int)::w).length<=l.length*(k+1)
 |[],_=>by simp
 |a::l,h=>by
  have h1:=Gi k l λr hr=>h r<|aeH _ hr;have h2:=h a List.mem_cons_self;rw[List.flatMap_cons,lla,llc,llc,Nat.add_mul];omega
theorem NZ.keyLen(h:NZ p sp s):(LA s).length<=1000:=by
 have hb:=h.bl;have hn:=h.n;have h1:=Gi 14 s.buf λr hr=>by
  obtain⟨i,_,rfl⟩:=CY hr;exact(h.b i).2.2
 have h2:s.buf.length*(14+1)<=9*15:=aeJ _ (by omega);unfold LA;simp only[lla,h.iz.al,h.iz.rl,h.iz.ml];omega
theorem Uk(h:NZ p sp s):Z1 (je s) (· =strOfNums (LA s)):=by
 have hb:=h.bl;have hn:=h.n;have ha:=h.iz.al;have hr:=h.iz.rl;have hm:=h.iz.ml;have hk:=h.keyLen;unfold je;refine(zU (l:=s.at_) (base:=[]) (λ_=>rfl) (by simp;omega) λv hv=>h.k v<|by unfold LA;simp[hv]).bind λv1 e1=>?_;subst e1;refine(zU (l:=s.regs) (λ_=>rfl) (by simp;omega) λv hv=>h.k v<|by unfold LA;simp[hv]).bind λv1 e1=>?_;subst e1;refine(zU (l:=s.mem) (λ_=>rfl) (by simp;omega) λv hv=>h.k v<|by unfold LA;simp[hv]).bind λv1 e1=>?_;subst e1;rw[ad7];refine Z1.bind (P:=(· =LA s)) ?_ λv e=>.pure (by rw[e]);have hbase:(s.at_++s.regs++s.mem).length<=30:=by simp only[lla,ha,hr,hm];omega
 generalize hbs:s.at_++s.regs++s.mem=base at hbase ⊢;refine Z1.loop (λz=>∃n:Nat,n<=s.buf.length/\z=(base++(s.buf.take n).flatMap λw=>(255:Int)::w,(n:Int))) (λz=>((s.buf.length:Int)-z.2).toNat) ⟨0,by omega,by simp⟩ λz ⟨n,n1,n2⟩=>?_;subst n2;unfold xW;simp only[tnn];have hfl:=Gi 14 (s.buf.take n) λr hr=>by
  obtain⟨i,_,rfl⟩:=CY<|aeG hr;exact(h.b i).2.2
 have hfl2:(s.buf.take n).length*(14+1)<=9*15:=aeJ _ (by rw[ad5];omega);refine .bifD (λh0=>?_) λh0=>.pure ?_
 .have hlt:n<s.buf.length:=by omega
  refine Z1.bind (P:=(· =base++(s.buf.take<|n+1).flatMap λw=>(255:Int)::w)) (.gdC (by simp only[lla];omega) rfl ?_) λv hv=>.gdI (by omega) (.pure ⟨⟨n+1,by omega,by rw[hv];rfl⟩,by simp only[];omega⟩);have hrow:=h.b n;refine(zU (l:=s.buf.getD n aad) (λz=>?_) (by simp only[lla,aeI];omega) λv hv=>?_).mono λv hv=>?_
  .unfold xU J;exact gJ<|decide_eq_true ⟨by simp only[];omega,by simp only[];omega⟩
  .have:=hrow.1 v hv;omega
  rw[hv,zQ hlt,List.flatMap_append,ad2,ad2];simp
 obtain rfl:n=s.buf.length:=by omega
 rw[aed,<- hbs]
 rfl
theorem Oz(h:NZ p sp s):Z1 (tz p s) (· =(adV p.length).all λt=>!decide (s.at_.getD t aad<((p.getD t aad).length:Int))):=by
 have hn:=h.n;have ha:=h.iz.al;unfold tz;refine Z1.sum (PS:=λ_=>((adV p.length).all λt=>!decide (s.at_.getD t aad<((p.getD t aad).length:Int)))=aae) (PW:=(· =(adV p.length).all λt=>!decide (s.at_.getD t aad<((p.getD t aad).length:Int)))) ?_ λ_ h=>.pure h.symm;refine Z1.loop (λz=>∃n:Nat,n<=p.length/\z=(n:Int)/\∀t:Nat,t<n -> ¬ s.at_.getD t aad<((p.getD t aad).length:Int)) (λz=>((p.length:Int)-z).toNat) ⟨0,by omega,rfl,λt ht=>absurd ht<|ad3 t⟩ λz ⟨n,n1,n2,n3⟩=>?_;subst n2;unfold xY J;simp only[tnn];refine .bifD (λh0=>.gdD ⟨by omega,by omega⟩<|.gdD ⟨by omega,by omega⟩<|.bifD (λhlt=>.pure ?_) λhge=>.gdI (by omega)<|.pure ⟨⟨n+1,by omega,rfl,λt ht=>?_⟩,by omega⟩) λh0=>.pure ?_
 .show aaf=_;refine(aeh.2 λe=>?_).symm;have:=adW.1 e n<|ad4.2 (by omega);rw[decide_eq_true hlt] at this
  cases this
 .rcases aee t n with g|g
  .exact n3 t g
  rw[show t=n by omega];exact hge
 refine adW.2 λt ht=>?_;rw[decide_eq_false (n3 t (by have:=ad4.1 ht;omega))]
 rfl
theorem RP(h:NZ p sp s):Z1 (jq p s) (· =dnZ p s):=by
 have hb:=h.bl;have hn:=h.n;unfold jq dnZ;refine Z1.sum (PS:=λ_=>s.buf.all List.isEmpty=aae) (PW:=(· =(s.buf.all List.isEmpty&&(adV p.length).all λt=>!decide (s.at_.getD t aad<((p.getD t aad).length:Int))))) ?_ λ_ hh=>(Oz h).bind λv hv=>.pure (by rw[hv,hh];rfl);refine Z1.loop (λz=>∃n:Nat,n<=s.buf.length/\z=(n:Int)/\∀t:Nat,t<n->(s.buf.getD t aad).isEmpty=aae) (λz=>((s.buf.length:Int)-z).toNat) ⟨0,by omega,rfl,λt ht=>absurd ht<|ad3 t⟩ λz ⟨n,n1,n2,n3⟩=>?_;subst n2;unfold xZ J;simp only[tnn];refine .bifD (λh0=>.gdD ⟨by omega,by omega⟩<|.bifD (λhlt=>.pure ?_) λhge=>.gdI (by omega)<|.pure ⟨⟨n+1,by omega,rfl,λt ht=>?_⟩,by omega⟩) λh0=>.pure ?_
 .show aaf=_;refine(aeh.2 λe=>?_).symm;rw[bae] at e;have:=adW.1 e.1 _<|RO (l:=s.buf) (i:=n) (by omega);rw[aep] at this;rw[this] at hlt;exact absurd hlt (by simp)
 .rcases aee t n with g|g
  .exact n3 t g
  rw[show t=n by omega,aep];exact aeK (by omega)
 refine adW.2 λr hr=>?_;obtain⟨i,hi,rfl⟩:=CY hr;exact n3 i (by omega)
theorem Km(h:NZ p sp s):Z1 (dm s) (· =s.regs++s.mem):=by
 have hn:=h.n;have hr:=h.iz.rl;have hm:=h.iz.ml;unfold dm;exact .gdC (by simp;omega) rfl (.gdC (by simp;omega) rfl<|.pure<|by simp)
theorem OA(h:NZ p sp s){t:Nat}(ht:t<p.length):Z1 (rf s (t:Int) sp) (· =emZ sp s t):=by
 have hb:=h.bl;have hn:=h.n;have h1:=YR sp;have hbuf:jY sp=aag ((Z5 sp 1:Nat):Int):=by cases sp <;> rfl
 have hin:t*Z5 sp 1+Z5 sp 1<=s.buf.length:=by
  rw[hb.1];unfold Z5
  cases sp <;> simp only[cond_true,cond_false] <;> omega
 have hle:Z5 sp 1<=3:=by rw[h1];split <;> omega
 unfold rf emZ;refine(Z1.of (P:=(· =((Z5 sp 1:Nat):Int))) hbuf rfl).bind λv hv=>?_;subst hv;refine Z1.sum (PS:=λ_=>((adV<|Z5 sp 1).all λi=>(s.buf.getD (t*Z5 sp 1+i) aad).isEmpty)=aae) (PW:=(· =(adV<|Z5 sp 1).all λi=>(s.buf.getD (t*Z5 sp 1+i) aad).isEmpty)) ?_ λ_ h=>.pure h.symm;refine Z1.loop (λz=>∃n:Nat,n<=Z5 sp 1/\z=(n:Int)/\∀i:Nat,i<n->(s.buf.getD (t*Z5 sp 1+i) aad).isEmpty=aae) (λz=>(((Z5 sp 1:Nat):Int)-z).toNat) ⟨0,by omega,rfl,λt ht=>absurd ht<|ad3 t⟩ λz ⟨n,n1,n2,n3⟩=>?_;subst n2;have hmul:(t:Int)*((Z5 sp 1:Nat):Int)=((t*Z5 sp 1:Nat):Int):=(Int.natCast_mul _ _).symm;have hsum:(t:Int)*((Z5 sp 1:Nat):Int)+(n:Int)=((t*Z5 sp 1+n:Nat):Int):=by rw[hmul];rfl
 have htl:t*Z5 sp 1<=9:=by omega
 unfold wM J;rw[hsum];simp only[tnn];refine .bifD (λh0=>.gdI (by omega)<|.gdI (by omega)<|.gdD ⟨by omega,by omega⟩<|.bifD (λhlt=>.pure ?_) λhge=>.gdI (by omega)<|.pure ⟨⟨n+1,by omega,rfl,λi hi=>?_⟩,by omega⟩) λh0=>.pure ?_
 .show aaf=_;refine(aeh.2 λe=>?_).symm;have:=adW.1 e n<|ad4.2 (by omega);rw[aep] at this;rw[this] at hlt;exact absurd hlt (by simp)
 .rcases aee i n with g|g
  .exact n3 i g
  rw[show i=n by omega,aep];exact aeK (by omega)
 refine adW.2 λi hi=>n3 i (by have:=ad4.1 hi;omega)
theorem Ul(h:NZ p sp s){i:Nat}(hi:i<p.length+s.buf.length):Z1 (jf p s sp (i:Int)) (· =cbZ p sp s i):=by
 have hb:=h.bl;have hn:=h.n;have ha:=h.iz.al;unfold jf J;refine Z1.bind (P:=(· =aaf)) (.bifD (λh0=>absurd h0<|by omega) λ_=>.gdI (by omega)<|.pure<|decide_eq_false<|by omega) λv hv=>?_;subst hv;refine .bif (λh=>by cases h) λ_=>.bifD (λh0=>?_) λh0=>?_
 .have e:((i:Int)-(p.length:Int))=((i-p.length:Nat):Int):=by omega
  rw[e];simp only[tnn];refine .gdI (by omega)<|.gdD ⟨by omega,by omega⟩<|.pure ?_;unfold cbZ;rw[if_neg (by omega)];have key:∀x:LI,aai ((0:Int)<(x.length:Int))= !x.isEmpty:=λx=>by
   cases x with
   |nil=>rfl
   |cons a l=>exact decide_eq_true (by simp only[llc];omega)
  exact key _
 have hlt:i<p.length:=by omega
 have hai:=h.a i;simp only[tnn];unfold cbZ cnZ;rw[if_pos hlt];refine .gdD ⟨by omega,by omega⟩<|.gdD ⟨by omega,by omega⟩<|.bif (λhe=>.pure ?_) λhe=>?_
 .rw[beq_iff_eq] at he;rw[decide_eq_false (by omega)];rfl
 have hne:s.at_.getD i aad≠((p.getD i aad).length:Int):=by simpa using he
 have hc:s.at_.getD i aad<((p.getD i aad).length:Int):=by omega
 rw[decide_eq_true hc,adZ];show Z1 (gd _<|adU (bif (Be p s i).Op != 4 then _ else _) _) _;refine .gdD ⟨by omega,hc⟩ (Z1.bind (P:=(· =((Be p s i).Op != 4&&(Be p s i).Op != 5))) (.bif (λe=>.pure<|by rw[e];rfl) λe=>.pure<|by rw[e];rfl) λv hv=>?_);subst hv;refine Z1.bind (P:=(· =((Be p s i).Op != 4&&(Be p s i).Op != 5||emZ sp s i))) (.bif (λe=>.pure<|by rw[e];rfl) λe=>(OA h hlt).bind λv hv=>.pure<|by rw[hv,e];rfl) λv hv=>.pure hv
end
section
variable{p:List (List ZW)}{sp:Bool}{s:ZZ}
theorem Il{t:Nat}(ht:t<=3){l:Int}(hl:0<=l/\l<=2):fQ (t:Int) l sp=aag ((plZ sp t l:Nat):Int):=by
 unfold fQ plZ ixB clB
 cases sp with
 |true=>
  show gd _ (gd _<|aag _)=_;rw[gJ (DX<|by omega),gJ (DX<|by omega)];exact congrArg aag (by simp only[cond_true];omega)
 |false=>rfl
theorem Jc{t:Nat}(ht:t<=3){g:Int}(hg:0<=g/\g<=2):lu (t:Int) g=aag ((3*t+g.toNat:Nat):Int):=by
 unfold lu;rw[gJ (DX<|by omega),gJ (DX<|by omega)];exact congrArg aag (by omega)
theorem U4(h:NZ p sp s){t:Nat}(ht:t<p.length){l:Int}(hl:0<=l/\l<=2):plZ sp t l<s.buf.length:=UO h.iz ht hl
theorem RQ(h:NZ p sp s){t:Nat}(ht:t<p.length){l:Int}(hl:0<=l/\l<=2):Z1 (oU s (t:Int) l sp) (· =J4 sp s t l):=by
 have hn:=h.n;have hb:=h.bl;have hpl:=U4 h ht hl;have hml:=h.iz.ml;have hev:=h.iz.ev<|plZ sp t l;have h14:=(h.b<|plZ sp t l).2.2;unfold oU J4 J;refine(Z1.of (P:=(· =((plZ sp t l:Nat):Int))) (Il (by omega) hl) rfl).bind λv hv=>?_;subst hv;generalize hd:s.mem.getD l.toNat aad=d;refine .gdD ⟨by omega,by omega⟩ (Z1.sum (PS:=λ_=>yd l (prs<|s.buf.getD (plZ sp t l) aad) d=d) (PW:=(· =yd l (prs<|s.buf.getD (plZ sp t l) aad) d)) (.gdI (by simp only[tnn];omega) ?_) λ_ hh=>.gdD ⟨by omega,by omega⟩<|.pure<|by rw[hh]);simp only[tnn];generalize hrow:s.buf.getD (plZ sp t l) aad=row at hev h14 ⊢;refine Z1.loop (λz=>∃j:Nat,2*j<=row.length/\z=2*(j:Int)-2/\yd l (prs row) d=yd l (prs<|row.take<|2*j) d) (λz=>(z+2).toNat) ⟨row.length / 2,by omega,by omega,by rw[show 2*(row.length / 2)=row.length by omega,aed]⟩ λz ⟨j,j1,j2,j3⟩=>?_;subst j2;unfold yc J;simp only[tnn,hrow];refine .bifD (λh0=>?_) λh0=>.pure ?_
 .obtain⟨k,rfl⟩:∃k,j=k+1:=⟨j-1,by omega⟩;have e1:(2*((k+1:Nat):Int)-2).toNat=2*k:=by omega
  have e2:(2*((k+1:Nat):Int)-2+1).toNat=2*k+1:=by omega
  have htk:row.take (2*(k+1))=row.take (2*k)++[row.getD (2*k) aad,row.getD (2*k+1) aad]:=by
   rw[show 2*(k+1)=2*k+1+1 by omega,zQ (by omega),zQ (by omega),ad2]
   rfl
  have hpr:prs (row.take<|2*(k+1))=prs (row.take<|2*k)++[(row.getD (2*k) aad,row.getD (2*k+1) aad)]:=by
   rw[htk,Ly (by rw[ad5];omega)]
   rfl
  rw[hpr,Lv] at j3;rw[e1,e2];refine .gdD ⟨by omega,by omega⟩<|.bif (λhe=>.gdI (by omega)<|.gdD ⟨by omega,by omega⟩<|.pure ?_) λhe=>.gdI (by omega)<|.pure ⟨⟨k,by omega,by omega,?_⟩,by omega⟩
  .rw[beq_iff_eq] at he;rw[if_pos he] at j3;exact j3.symm
  rw[if_neg (by simpa using he)] at j3;exact j3
 obtain rfl:j=0:=by omega
 rw[j3]
 rfl
theorem Nj(h:NZ p sp s){t:Nat}(ht:t<p.length){x:ZW}(hx:InR x):Z1 (kr s (t:Int) x) (· =TQ s t x):=by
 have hn:=h.n;have hr:=h.iz.rl;unfold kr TQ J;refine .bif (λhe=>?_) λhe=>.pure (by rw[if_neg (by simpa using he)]);rw[if_pos (by simpa using he)];refine(Z1.of (P:=(· =((3*t+x.Reg.toNat:Nat):Int))) (Jc (by omega) ⟨hx.2.2.1,hx.2.2.2.1⟩) rfl).bind λv hv=>?_;subst hv;have:=hx.2.2.1;have:=hx.2.2.2.1;exact .gdD ⟨by omega,by omega⟩<|.pure rfl
theorem RR(h:NZ p sp s):L8 s=aae:=by
 have hn:=h.n;have hb:=h.bl;unfold L8;rw[bae];refine⟨decide_eq_true ⟨by rw[h.iz.al];omega,by rw[h.iz.rl];omega,by rw[h.iz.ml];omega,by omega⟩,adW.2 λr hr=>?_⟩;obtain⟨i,_,rfl⟩:=CY hr;have:=(h.b i).2.2;exact decide_eq_true (by omega)
theorem Um(h:NZ p sp s){t:Nat}(ht:t<p.length)(hc:s.at_.getD t aad<((p.getD t aad).length:Int))(ho:(Be p s t).Op=4\/(Be p s t).Op=5)(he:emZ sp s t=aae):Z1 (uS p s (t:Int)) (· =exZ sp s t (Be p s t)):=by
 have hn:=h.n;have ha:=h.iz.al;have hr:=h.iz.rl;have hml:=h.iz.ml;have hat:=h.a t;obtain⟨hx,_⟩:=h.x t hc;unfold uS J;rw[show Ni p s (t:Int)=Be p s t from rfl];simp only[tnn];refine .gd (RR h)<|.gdD ⟨by omega,by omega⟩<|.gdD ⟨by omega,by omega⟩<|.gdD ⟨by omega,hc⟩<|.gdI (by omega) ?_;have hseen:J4 sp s t (Be p s t).Loc=s.mem.getD (Be p s t).Loc.toNat aad:=by
  have hb0:=(h.iz.empty ht).1 he<|clB sp (Be p s t).Loc;rw[h.iz.bf ht (J3 sp ⟨hx.1,hx.2.1⟩)] at hb0;unfold J4 plZ;rw[hb0]
  rfl
 generalize Be p s t=x at ho hx hseen ⊢;have g1:=hx.1;have g2:=hx.2.1;have g3:=hx.2.2.1;have g4:=hx.2.2.2.1;unfold zq exZ J;simp only[tnn];have hst:KP x=aaf:=by unfold KP;rcases ho with h|h <;> rw[h] <;> rfl
 rw[hst];have hrd:bN x=aag (rdX x):=by
  unfold bN rdX;rcases ho with h|h <;> rw[h] <;> rfl
 have hwr:bF x=aag (x.Op==5):=by
  unfold bF;rcases ho with h|h <;> rw[h] <;> rfl
 refine Z1.bind (P:=(· =if rdX x then s.regs.set (3*t+x.Reg.toNat) (J4 sp s t x.Loc) else s.regs)) ((Z1.of (P:=(· =rdX x)) hrd rfl).bind λv hv=>?_) λs7 h7=>?_
 .subst hv;refine .bif (λe=>?_) λe=>.pure (by rw[e];rfl);refine(Z1.of (P:=(· =((3*t+x.Reg.toNat:Nat):Int))) (Jc (by omega) ⟨g3,g4⟩) rfl).bind λv hv=>?_;subst hv;exact .gdD ⟨by omega,by omega⟩<|.gdD ⟨by omega,by omega⟩<|.pure (by rw[if_pos e,hseen];rfl)
 subst h7;refine Z1.bind (P:=(· =if x.Op=5 then s.mem.set x.Loc.toNat x.Val else s.mem)) ((Z1.of (P:=(· =(x.Op==5))) hwr rfl).bind λv hv=>?_) λs14 h14=>.pure (by rw[h14];rfl);subst hv;refine .bif (λe=>(Nj h ht hx).bind λv hv=>.gdD ⟨by omega,by omega⟩<|.pure ?_) λe=>.pure ?_
 .rw[beq_iff_eq] at e;subst hv;unfold TQ;rw[if_pos e,if_neg (by omega)]
 rw[if_neg (by simpa using e)]
theorem Wm(h:NZ p sp s){i:Nat}(hi:i<p.length+s.buf.length)(hc:cbZ p sp s i=aae):Z1 (lL p s sp (i:Int)) (· =afZ p sp s i):=by
 have hn:=h.n;have hb:=h.bl;have ha:=h.iz.al;have hr:=h.iz.rl;have hml:=h.iz.ml;unfold lL afZ J;refine .gd (RR h)<|.bifD (λh0=>?_) λh0=>?_
 .have e:((i:Int)-(p.length:Int))=((i-p.length:Nat):Int):=by omega
  have hge : ¬ i<p.length:=by omega
  rw[if_neg hge,e];unfold cbZ at hc;rw[if_neg hge] at hc;simp only[tnn];have hrow:=h.b<|i-p.length;obtain⟨l,v,r,hrr⟩:=Fu h.iz (b:=i-p.length) (by simpa using hc);refine .gdI (by omega)<|.gdD ⟨by omega,by omega⟩ ?_;unfold zt flZ J;rw[hrr] at hrow ⊢;have hl:=hrow.2.1 (l,v) (by simp[prs]);simp only[] at hl;refine .gdD (by simp)<|.gdD ?_<|.pure rfl;show 0<=l/\l<_;omega
 have hlt:i<p.length:=by omega
 have hai:=h.a i;rw[if_pos hlt];unfold cbZ at hc;rw[if_pos hlt] at hc;unfold cnZ at hc;simp only[bae,dte,aez,bne_iff_ne] at hc;obtain⟨hx,ho1,ho2⟩:=h.x i hc.1;simp only[tnn];refine .gdD ⟨by omega,by omega⟩<|.gdD ⟨by omega,by omega⟩<|.gdD ⟨by omega,hc.1⟩ ?_;rw[show Ni p s (i:Int)=Be p s i from rfl];unfold zu J;simp only[tnn];have hl3:=Um h hlt hc.1;have hpl:=U4 h hlt ⟨hx.1,hx.2.1⟩;generalize Be p s i=x at hx ho1 ho2 hc hl3 hpl ⊢;have g1:=hx.1;have g2:=hx.2.1;have g3:=hx.2.2.1;have g4:=hx.2.2.2.1;refine Z1.bind (P:=(· =(x.Op==5||x.Op==4))) (.bif (λe=>.pure<|by rw[e];rfl) λe=>.pure<|by rw[e];rfl) λv hv=>?_;subst hv;refine .bif (λe=>?_) λe=>?_
 .rw[aez,beq_iff_eq,beq_iff_eq] at e;exact(hl3 (by omega) (by rcases hc.2 with k|k <;> first|exact k|omega)).bind λv hv=>.pure hv
 rw[Bool.or_eq_false_iff,beq_eq_false_iff_ne,beq_eq_false_iff_ne] at e;refine .gdI (by omega)<|.bif (λe1=>?_) λe1=>?_
 .rw[beq_iff_eq] at e1;refine(Z1.of (P:=(· =((3*i+x.Reg.toNat:Nat):Int))) (Jc (by omega) ⟨g3,g4⟩) rfl).bind λv hv=>?_;subst hv;refine(RQ h hlt ⟨g1,g2⟩).bind λw hw=>.gdD ⟨by omega,by omega⟩<|.pure ?_;subst hw;unfold exZ rdX KP;rw[e1]
  rfl
 rw[beq_eq_false_iff_ne] at e1;refine(Z1.of (P:=(· =((plZ sp i x.Loc:Nat):Int))) (Il (by omega) ⟨g1,g2⟩) rfl).bind λv hv=>?_;subst hv;refine .gdD ⟨by omega,by omega⟩<|(Nj h hlt hx).bind λw hw=>.pure ?_;subst hw;have hst:KP x=aae:=by
  unfold KP;rcases (show x.Op=2\/x.Op=3 by omega) with k|k <;> rw[k] <;> rfl
 have hrd:rdX x=aaf:=by
  unfold rdX;rcases (show x.Op=2\/x.Op=3 by omega) with k|k <;> rw[k] <;> rfl
 unfold exZ;rw[hst,hrd,if_neg e.1]
 rfl
theorem OB(hp:PV p)(sp:Bool):mN p sp=aag (nT p sp):=by
 have h1:=hp.pos;have h2:=hp.vs.1;have hbuf:jY sp=aag ((Z5 sp 1:Nat):Int):=by cases sp <;> rfl
 have hmul:(p.length:Int)*((Z5 sp 1:Nat):Int)=((Z5 sp p.length:Nat):Int):=by
  unfold Z5
  cases sp <;> simp only[cond_true,cond_false] <;> omega
 have hle:Z5 sp p.length<=9:=by
  unfold Z5
  cases sp <;> simp only[cond_true,cond_false] <;> omega
 unfold mN;rw[hbuf,Option.bind_some,hmul,gJ (DX<|by omega)];unfold qZ;rw[gJ (decide_eq_true ⟨by omega,by omega,by omega,by omega⟩),gJ (DX<|by omega),gJ (decide_eq_true ⟨by omega,by omega,by omega,by omega⟩),gJ (by decide),gJ (decide_eq_true ⟨by omega,by omega,by omega,by omega⟩),Option.bind_some];refine congrArg aag ?_;unfold nT;rw[show((p.length:Int)*3).toNat=3*p.length by omega]
 rfl
theorem Un(hp:PW p)(sp:Bool):Mst je (λs (_:Int) i=>jf p s sp i) (λs _ i=>lL p s sp i) (λg:Int=>g) (λs=>gd (ZU .i64<|(p.length:Int)+(s.buf.length:Int))<|aag<|(p.length:Int)+(s.buf.length:Int)) (jq p) dm (UN p sp) (nT p sp) (λs=>p.length+s.buf.length) (cbZ p sp) where
 pre:=λs hs=>by
  have h:=NZ.of hp hs;have hn:=h.n;have hb:=h.bl;exact .gdI (by omega)<|.pure ⟨by omega,λi hi=>Ul h hi,λi hi hc=>Wm h hi hc⟩
 mv:=λ_ _=>rfl
 n:=λs hs=>by
  have h:=NZ.of hp hs;have hn:=h.n;have hb:=h.bl;omega
 ky:=λs hs=>by
  have h:=NZ.of hp hs;refine⟨Uk h,?_⟩;show(strOfNums<|LA s).size<=_;rw[Gh];have:=h.keyLen;omega
 dn:=λs hs=>RP<|NZ.of hp hs
 oc:=λs hs _=>Km<|NZ.of hp hs
theorem Wn{n N:Nat}(hN:N<=1099511627000)(hn:n<=1000):∀l o:List _,List.Pairwise ltL l->(∀x∈l,(λx:LI=>x.length=n) x)->(λx:LI=>x.length=n) o->l.length<=N->Z1 (jg l o) λq=>q.Pairwise ltL/\(∀x,x∈q↔x∈l\/x=o)/\q.length<=l.length+1:=
 λl o h1 h2 h3 h4=>VX h1 (by omega) (λr hr=>(h2 r hr).trans h3.symm) (by rw[show o.length=n from h3];exact hn)
theorem Uo(hp:PW p)(sp:Bool):Z1 (rK p sp) λq=>q.gH.Pairwise ltL/\(∀o,o∈q.gH↔YG (prg p) aaf (clB sp) p.length o)/\q.gH.length<=549755813888:=by
 unfold rK;have hn:=hp.pv.vs.1;refine(TP (lt:=ltL) (L:=λx=>x.length=3*p.length+3) (TU hp sp) (M8 hp sp) (Un hp sp) ZA (by decide) rfl (λs hs _=>?_) (Wn (by decide)<|by omega)<|OB hp.pv sp).bind λq ⟨q1,q2,q3⟩=>.pure ⟨q1,λo=>(q2 o).trans<|(vI hp sp).outs o,q3⟩;have h:=NZ.of hp hs;show(s.regs++s.mem).length=_;rw[lla,h.iz.rl,h.iz.ml]
theorem Wo(hp:PW p)(sp:Bool):∃o,YG (prg p) aaf (clB sp) p.length o:=by
 obtain⟨o,ho⟩:=VS (M8 hp sp)<|VW hp sp;exact⟨o,((vI hp sp).outs o).1 ho⟩
theorem Wp(hp:PW p){sp:Bool}{o:LI}(h:YG (prg p) aaf (clB sp) p.length o):o.length=3*p.length+3/\∀v∈o,0<=v/\v<=3:=by
 obtain⟨s,hs,_,rfl⟩:=((vI hp sp).outs o).2 h;have h:=NZ.of hp hs;refine⟨?_,λv hv=>?_⟩
 .show(s.regs++s.mem).length=_;rw[lla,h.iz.rl,h.iz.ml]
 rcases aec.1 (show v∈s.regs++s.mem from hv) with hv|hv
 .exact h.r v hv
 exact h.m v hv
end
def kX(code:LI):Option ((List<|List ZW)×(List ah)×(LI)):=adU (mP code) λv1=>adU (ry (⟨v1.b,v1.p⟩:ae)) λv2=>adU (rA (⟨v2.1.b,v2.1.p⟩:ae)) λv3=>adU (kW (⟨v3.1.b,v3.1.p⟩:ae) v3.2) λv4=>adU (rK v2.2 aae) λv5=>adU (av (⟨v4.1.b,v4.1.p⟩:ae) (v5.gH.length:Int)) λv6=>gd (aai<|0<=v6.2/\v6.2<(v5.gH.length:Int)) <|gd (aR (([]:LI).length+(J v5.gH v6.2).length) 8) <|adU (adU (av (⟨v6.1.b,v6.1.p⟩:ae) (6:Int)) λv10=>bif (v10.2==(0:Int)) then adU (av (⟨v10.1.b,v10.1.p⟩:ae) ((([]:LI)++(J v5.gH v6.2)).length:Int)) λv12=>adU (bq (⟨v12.1.b,v12.1.p⟩:ae) ([(1:Int),(0:Int),(3:Int),(4:Int)]:LI)) λv13=>gd (aai<|0<=v12.2/\v12.2<(((([]:LI)++(J v5.gH v6.2)).length):Int)) <|aag (v13.1.b,v13.1.p,((([]:LI)++(J v5.gH v6.2)).set v12.2.toNat v13.2)) else aag (v10.1.b,v10.1.p,(([]:LI)++(J v5.gH v6.2)))) λs9=>aag (v2.2,v4.2,s9.2.2)
def ym(a:LI)(b:LI):LS Int (Unit ⊕ Bool):=λs5=>bif aai (s5<(a.length:Int)) then gd (aai<|0<=s5/\s5<(a.length:Int)) <|gd (aai<|0<=s5/\s5<(b.length:Int)) <|bif ((J a s5) != (J b s5)) then aag (.inr<|.inr aaf) else gd (ZU .i64<|s5+(1:Int)) <|aag (.inl<|s5+(1:Int)) else aag (.inr<|.inl ())
def l9(a:LI)(b:LI):Option Bool:=bif ((a.length:Int) != (b.length:Int)) then aag aaf else sumK (aA (ym a b) (0:Int)) λs2=>aag aae
def uT(list:LL)(o_:LI):LS Int (Unit ⊕ Bool):=λs4=>bif aai (s4<(list.length:Int)) then gd (aai<|0<=s4/\s4<(list.length:Int)) <|adU (l9 (J list s4) o_) λv8=>bif v8 then aag (.inr<|.inr aae) else gd (ZU .i64<|s4+(1:Int)) <|aag (.inl<|s4+(1:Int)) else aag (.inr<|.inl ())
def kg(list:LL)(o_:LI):Option Bool:=sumK (aA (uT list o_) (0:Int)) λs1=>aag aaf
def gX(code:LI):Option Bool:=bif aai ((1048576:Int)<(code.length:Int)) then aag aae else adU (kX code) λv2=>adU (qM v2.1 v2.2.1 v2.2.2) λv3=>adU (qY v2.1 v2.2.1 v2.2.2) λv4=>adU (bif (!(v3.2==v4.2)) then aag aae else adU (gb (⟨v3.1.From,v3.1.Order⟩:ZX) (⟨v4.1.From,v4.1.Order⟩:ZX)) λv7=>aag<|!v7) λs5=>adU (bif s5 then aag aae else adU (dE v2.1 v2.2.2) λv10=>aag<|!v10) λs8=>adU (bif s8 then aag aae else adU (dJ v2.2.1) λv13=>aag<|!v13) λs11=>bif s11 then adU (bif (v3.2==v4.2) then adU (gb (⟨v3.1.From,v3.1.Order⟩:ZX) (⟨v4.1.From,v4.1.Order⟩:ZX)) λv17=>aag v17 else aag aaf) λs15=>aag s15 else adU (ni v2.1 (⟨v3.1.From,v3.1.Order⟩:ZX)) λv18=>adU (fu v2.1 v2.2.1) λv19=>adU (kg v19 v2.2.2) λv20=>adU (bif (v3.2==v20) then adU (bif !v3.2 then aag aae else adU (bif v18.2 then adU (l9 v18.1 v2.2.2) λv27=>aag v27 else aag aaf) λs25=>aag s25) λs23=>aag s23 else aag aaf) λs21=>aag s21
theorem OC{b:LI}(hb:Bts b):Z1 (kX b) λv=>smP v.1=aae/\bh (Z4 v.1)=aae/\v.2.1.length<=10/\v.2.2.length=3*v.1.length+3:=by
 unfold kX J;refine(Ui hb).bind λr h=>(Ki h.mk'<|by omega).bind λv2 ⟨a1,a2,a3⟩=>(RJ a1.mk'<|by omega).bind λv3 ⟨b1,b2,b3,b4⟩=>(Jb b1.mk' (by omega) b2 b3 b4).bind λv4 ⟨c1,c2⟩=>?_;have hw:PW v2.2:=PW.of a3;have hn:=hw.pv.vs.1;refine(Uo hw aae).bind λv5 ⟨d1,d2,d3⟩=>(bM c1.mk' (by omega) _).bind λv6 ⟨e1,e2,e3⟩=>?_;have hne:0<v5.gH.length:=by
  obtain⟨o,ho⟩:=Wo hw aae;exact List.length_pos_of_mem<|(d2 o).2 ho
 have hlt:v6.2<(v5.gH.length:Int):=by omega
 have ho:=(Wp hw<|(d2 _).1<|getD_in (l:=v5.gH) (i:=v6.2.toNat)<|by omega).1;rw[ad7];generalize v5.gH.getD v6.2.toNat aad=o at ho ⊢;refine .gdD ⟨e2,hlt⟩<|.gd (aK (by rw[aey];omega) rfl)<|Z1.bind (P:=λs=>s.2.2.length=3*v2.2.length+3) ((bM e1.mk' (by omega) 6).bind λv10 ⟨f1,f2,f3⟩=>.bif (λ_=>(bM f1.mk' (by omega) _).bind λv12 ⟨g1,g2,g3⟩=>(AJ g1.mk' (by omega) _<|by simp).bind λv13 _=>.gdD ⟨g2,by omega⟩<|.pure<|by simp only[List.length_set];exact ho) λ_=>.pure ho) λs hs=>.pure ⟨a2,a3,c2,hs⟩
section
variable{p:List (List ZW)}{m:List ah}{o:LI}
theorem U5(p:List<|List ZW)(m:List ah)(o:LI):((exF p m o).2=aaf/\(exF p m o).1=⟨[],[]⟩/\((vaO p o&&vaM m)=aae->∀c∈(aY p).filter (alw p m),gO p o c=aaf))\/((exF p m o).2=aae/\(vaO p o&&vaM m)=aae/\(exF p m o).1∈(aY p).filter (alw p m)/\gO p o (exF p m o).1=aae):=by
 unfold exF
 by_cases h:(vaO p o&&vaM m)=aae
 .rw[if_pos h]
  cases e:((aY p).filter<|alw p m).find? (gO p o) with
  |none=>
   refine .inl ⟨rfl,rfl,λ_ c hc=>?_⟩;have:=aew.1 e c hc;simpa using this
  |some c=>exact .inr ⟨rfl,h,List.mem_of_find?_eq_some e,List.find?_some e⟩
 rw[if_neg h];exact .inl ⟨rfl,rfl,λh'=>absurd h' h⟩
theorem X6(p:List<|List ZW)(m:List ah)(o:LI):EB (exF p m o).1:=by
 rcases U5 p m o with⟨_,e,_⟩|⟨_,h,hc,_⟩
 .rw[e];exact⟨by decide,by decide,λi=>Nat.zero_le _⟩
 obtain⟨hvo,_⟩:=ael.1 h;have hv:=(Rz hvo).1;have hp:=PV.of hv;have hx:=smx hp hv<|nO hp (aeb.1 hc).1;have hf:=hx.f;have ho:=hx.o;refine⟨by simp only[] at hf;omega,by simp only[] at ho;omega,λi=>?_⟩
 by_cases hi:i<(exF p m o).1.Order.length
 .have h20:((exF p m o).1.Order.getD i aad).length<=20:=(hx.ov _<|getD_in (l:=(exF p m o).1.Order) hi).l;exact ad8 h20 (by decide)
 rw[gdq,gen (Nat.le_of_not_lt hi)]
 decide
theorem RS(e:ZX):same e e=aae:=by simp[same]
theorem Nk{a b:LI}(h:a.length=b.length)(hl:a.length<=1048576):Z1 (l9 a b) (· =aai (a=b)):=by
 unfold l9;refine .bif (λe=>by rw[h] at e;simp at e) λ_=>Z1.sum (PS:=λ_=>a=b) (PW:=(· =aai (a=b))) ?_ λ_ e=>.pure (by rw[decide_eq_true e]);refine Z1.loop (λz=>∃n:Nat,n<=a.length/\z=(n:Int)/\∀j:Nat,j<n->a.getD j aad=b.getD j aad) (λz=>((a.length:Int)-z).toNat) ⟨0,by omega,rfl,λj hj=>absurd hj<|ad3 j⟩ λz ⟨n,n1,n2,n3⟩=>?_;subst n2;unfold ym J;simp only[tnn];refine .bifD (λhk=>.gdD ⟨by omega,hk⟩<|.gdD ⟨by omega,by omega⟩<|.bif (λe=>.pure ?_) λe=>.gdI (by omega)<|.pure ⟨⟨n+1,by omega,rfl,λj hj=>?_⟩,by omega⟩) λhk=>.pure<|IX h λi hi=>n3 i (by omega)
 .show aaf=_;refine(decide_eq_false λhe=>?_).symm;rw[he] at e;simp at e
 rcases aee j n with g|g
 .exact n3 j g
 rw[show j=n by omega];simpa using e
theorem RU{l:LL}{o:LI}(h:∀r∈l,r.length=o.length)(hl:l.length<=1099511627776)(ho:o.length<=1048576):Z1 (kg l o) (· =aai (o∈l)):=by
 unfold kg;refine Z1.sum (PS:=λ_=>o∉l) (PW:=(· =aai (o∈l))) ?_ λ_ e=>.pure (by rw[decide_eq_false e]);refine Z1.loop (λz=>∃n:Nat,n<=l.length/\z=(n:Int)/\o∉l.take n) (λz=>((l.length:Int)-z).toNat) ⟨0,by omega,rfl,by simp⟩ λz ⟨n,n1,n2,n3⟩=>?_;subst n2;unfold uT J;simp only[tnn];refine .bifD (λhk=>?_) λhk=>.pure (by rwa [aev (by omega)] at n3);have hn:n<l.length:=by omega
 have hm:=getD_in hn;refine .gdD ⟨by omega,hk⟩<|(Nk (h _ hm)<|by rw[h _ hm];exact ho).bind λv hv=>?_;subst hv;refine .bifD (λe=>.pure ?_) λe=>.gdI (by omega)<|.pure ⟨⟨n+1,by omega,rfl,?_⟩,by omega⟩
 .show aae=_;rw[decide_eq_true (e ▸ hm)]
 rw[dO hn,aec,aej];rintro (g|g)
 .exact n3 g
 exact e g.symm
end
theorem YS{b:LI}(hb:Bts b):gX b=aag aae:=by
 refine Z1.eq ?_;unfold gX;refine .bifD (λ_=>.pure rfl) λ_=>(OC hb).bind λv ⟨hs,hv,hm,ho⟩=>?_;obtain⟨p,m,o⟩:=v;simp only at hs hv hm ho ⊢;have hsz:=U3 hs;have hp:=PV.of hv;have hp3:=hp.vs.1;have hex:=U5 p m o;have hEB:=X6 p m o;refine(RA hsz (m:=m) (by omega) (o:=o)<|by omega).bind λv3 h3=>(RB hsz (m:=m) (by omega) (o:=o)<|by omega).bind λv4 h4=>?_;subst h3 h4;generalize exF p m o=e at hex hEB ⊢;have hsame:Z1 (gb ⟨e.1.From,e.1.Order⟩ ⟨e.1.From,e.1.Order⟩) (· =aae):=(Qz hEB).mono λv hv=>by rw[hv];exact RS _
 refine Z1.bind (P:=(· =aaf)) (.bif (λh=>by simp at h) λ_=>hsame.bind λv hv=>.pure<|by rw[hv];rfl) λs5 h5=>?_;subst h5;refine Z1.bind (P:=(· = !vaO p o)) (.bif (λh=>by cases h) λ_=>(U2 hsz<|by omega).bind λv hv=>.pure<|by rw[hv]) λs8 h8=>?_;subst h8;refine Z1.bind (P:=(· = !(vaO p o&&vaM m))) (.bif (λh=>.pure<|by rw[(ad0 _).mp h];rfl) λh=>(LK<|by omega).bind λw hw=>.pure<|by rw[(ad1 _).mp h,hw];rfl) λu hu=>?_;subst hu;refine .bif (λ_=>Z1.bind (P:=(· =aae)) (.bif (λ_=>hsame.bind λv hv=>.pure hv) λh=>by simp at h) λv hv=>.pure hv) λh=>?_;have hb:=(ad1 _).mp h;obtain⟨hvo,hvm⟩:=ael.1 hb;have hoc:Z1 (ni p ⟨e.1.From,e.1.Order⟩) λq=>e.2=aae->q.2=aae/\q.1=o:=by
  unfold ni;rcases hex with⟨e1,e2,_⟩|⟨e1,_,e3,e4⟩
  .rw[e2,e1];refine(UR (x:=(([]:LI),([]:LL))) hp hv hsz<|by simp).bind λb hb=>.bif (λ_=>.pure nofun) λh=>?_;exact absurd (hb.1<|by simpa using h)<|RF hp
  have hc:=nO hp (aeb.1 e3).1;refine(RE hp hv hsz hc).bind λb hb=>.bif (λh=>by rw[hb] at h;cases h) λ_=>?_;obtain⟨V,W,R,k,H,g⟩:=Ng (o:=o) hv hvm hc (aeb.1 e3).2;refine(XY hp hc H.v H.vok).bind λq ⟨q1,q2⟩=>.pure λ_=>⟨q1,?_⟩;rw[q2 rfl];rw[show gO p o e.1=_ from g] at e4;exact of_decide_eq_true e4
 refine hoc.bind λv18 h18=>(C8 hv hsz hvm).bind λv19 h19=>?_;have hlen:((aY p).filter<|alw p m).length<=3000:=ad8 (aek _ _)<|zT hv;have hmem:∀r∈v19,∃n,n<((aY p).filter<|alw p m).length/\r=ocV p (((aY p).filter<|alw p m).getD n aad):=λr hr=>by
  obtain⟨c,hc,rfl⟩:=aex.1<|(h19.mem r).1 hr;obtain⟨n,hn,rfl⟩:=RD hc;exact⟨n,hn,rfl⟩
 refine(RU (λr hr=>?_) (by have:=h19.len;rw[llm] at this;omega)<|by omega).bind λv20 h20=>?_
 .obtain⟨n,hn,rfl⟩:=hmem r hr;rw[(Ry (o:=o) hv hvm hn).2,ho]
 have hiff:e.2=v20:=by
  rw[h20];rcases hex with⟨e1,_,e3⟩|⟨e1,_,e3,e4⟩
  .rw[e1];refine(decide_eq_false λhin=>?_).symm;obtain⟨n,hn,rfl⟩:=hmem _ hin;have:=e3 hb _<|getD_in hn;rw[(Ry hv hvm hn).1] at this;simp at this
  rw[e1];refine(decide_eq_true<|(h19.mem o).2<|aex.2 ⟨e.1,e3,?_⟩).symm;obtain⟨n,hn,hne⟩:=RD e3;rw[<- hne] at e4 ⊢;rw[(Ry hv hvm hn).1] at e4;exact of_decide_eq_true e4
 subst hiff;refine Z1.bind (P:=(· =aae)) (.bif (λ_=>Z1.bind (P:=(· =aae)) (.bif (λ_=>.pure rfl) λh=>?_) λv hv=>.pure hv) λh=>by simp at h) λv hv=>.pure hv;obtain⟨q1,q2⟩:=h18 (by simpa using h);exact Z1.bind (P:=(· =aae)) (.bif (λ_=>(Nk (by rw[q2])<|by rw[q2];omega).bind λw hw=>.pure<|by rw[hw,q2];simp) λh=>by rw[q1] at h;cases h) λv hv=>.pure hv
theorem Z8:TyF aaj 3 aaf 1:=⟨by kernel_rfl,by kernel_rfl,by kernel_rfl,by kernel_rfl⟩
theorem zs3:TyZ aaj 3 [I (0:Int)]:=⟨by kernel_rfl,by kernel_rfl⟩
theorem ty4:TyF aaj 4 aaf 1:=⟨by kernel_rfl,by kernel_rfl,by kernel_rfl,by kernel_rfl⟩
theorem zs4:TyZ aaj 4 [Bo aaf]:=⟨by kernel_rfl,by kernel_rfl⟩
theorem bt4:wW aaj 4=aae:=by kernel_rfl
theorem ty5:TyF aaj 5 aaf 1:=⟨by kernel_rfl,by kernel_rfl,by kernel_rfl,by kernel_rfl⟩
theorem zs5:TyZ aaj 5 [Y (0:Int)]:=⟨by kernel_rfl,by kernel_rfl⟩
theorem ty9:TyF aaj 9 aaf 1:=⟨by kernel_rfl,by kernel_rfl,by kernel_rfl,by kernel_rfl⟩
theorem zs9:TyZ aaj 9 [St (⟨#[]⟩:BA)]:=⟨by kernel_rfl,by kernel_rfl⟩
theorem Wq:TyF aaj 22 aaf 1:=⟨by kernel_rfl,by kernel_rfl,by kernel_rfl,by kernel_rfl⟩
theorem ZB:TyF aaj 23 aaf 1:=⟨by kernel_rfl,by kernel_rfl,by kernel_rfl,by kernel_rfl⟩
theorem AX:TyF aaj 25 aaf 1:=⟨by kernel_rfl,by kernel_rfl,by kernel_rfl,by kernel_rfl⟩
theorem ZC:TyZ aaj 25 [.nil]:=⟨by kernel_rfl,by kernel_rfl⟩
theorem Jd:TyF aaj 28 aaf 1:=⟨by kernel_rfl,by kernel_rfl,by kernel_rfl,by kernel_rfl⟩
theorem ZE:TyZ aaj 28 [.nil]:=⟨by kernel_rfl,by kernel_rfl⟩
theorem O3:TyF aaj 30 aae 2:=⟨by kernel_rfl,by kernel_rfl,by kernel_rfl,by kernel_rfl⟩
theorem X7:TyZ aaj 30 [.nil,.nil]:=⟨by kernel_rfl,by kernel_rfl⟩
theorem WS:TyS aaj 30 [(0,1),(1,1)]:=⟨by kernel_rfl⟩
theorem Yw:TyF aaj 53 aae 2:=⟨by kernel_rfl,by kernel_rfl,by kernel_rfl,by kernel_rfl⟩
theorem YT:TyZ aaj 53 [I (0:Int),.nil]:=⟨by kernel_rfl,by kernel_rfl⟩
theorem ZF:TyS aaj 53 [(0,1),(1,1)]:=⟨by kernel_rfl⟩
theorem YU:TyF aaj 66 aaf 1:=⟨by kernel_rfl,by kernel_rfl,by kernel_rfl,by kernel_rfl⟩
theorem OD:TyF aaj 68 aae 3:=⟨by kernel_rfl,by kernel_rfl,by kernel_rfl,by kernel_rfl⟩
theorem X8:TyZ aaj 68 [I (0:Int),St (⟨#[]⟩:BA),.nil]:=⟨by kernel_rfl,by kernel_rfl⟩
theorem Uq:TyS aaj 68 [(0,1),(1,1),(2,1)]:=⟨by kernel_rfl⟩
theorem Zj:TyF aaj 70 aae 4:=⟨by kernel_rfl,by kernel_rfl,by kernel_rfl,by kernel_rfl⟩
theorem ZG:TyZ aaj 70 [I (0:Int),I (0:Int),St (⟨#[]⟩:BA),.nil]:=⟨by kernel_rfl,by kernel_rfl⟩
theorem Yx:TyS aaj 70 [(0,1),(1,3)]:=⟨by kernel_rfl⟩
theorem SZ:TyS aaj 80 [(0,1),(1,1)]:=⟨by kernel_rfl⟩
theorem YV:TyF aaj 85 aaf 1:=⟨by kernel_rfl,by kernel_rfl,by kernel_rfl,by kernel_rfl⟩
theorem ZH:TyZ aaj 85 [.nil]:=⟨by kernel_rfl,by kernel_rfl⟩
theorem yn:TyF aaj 92 aae 4:=⟨by kernel_rfl,by kernel_rfl,by kernel_rfl,by kernel_rfl⟩
theorem RX:TyZ aaj 92 [.nil,.nil,.nil,.nil]:=⟨by kernel_rfl,by kernel_rfl⟩
theorem D7:TyS aaj 92 [(0,1),(1,1),(2,1),(3,1)]:=⟨by kernel_rfl⟩
theorem YW:TyF aaj 104 aae 3:=⟨by kernel_rfl,by kernel_rfl,by kernel_rfl,by kernel_rfl⟩
theorem X9:TyF aaj 108 aaf 1:=⟨by kernel_rfl,by kernel_rfl,by kernel_rfl,by kernel_rfl⟩
theorem YX:TyZ aaj 108 [.nil]:=⟨by kernel_rfl,by kernel_rfl⟩
theorem YY:TyF aaj 111 aae 5:=⟨by kernel_rfl,by kernel_rfl,by kernel_rfl,by kernel_rfl⟩
theorem Ws:TyZ aaj 111 [I (0:Int),I (0:Int),I (0:Int),Bo aaf,Bo aaf]:=⟨by kernel_rfl,by kernel_rfl⟩
theorem xw:TyF aaj 113 aae 4:=⟨by kernel_rfl,by kernel_rfl,by kernel_rfl,by kernel_rfl⟩
theorem L9:TyZ aaj 113 [I (0:Int),I (0:Int),I (0:Int),I (0:Int)]:=⟨by kernel_rfl,by kernel_rfl⟩
theorem Em:TyS aaj 113 [(0,1),(1,1),(2,1),(3,1)]:=⟨by kernel_rfl⟩
theorem YZ:TyE aaj 113:=⟨by kernel_rfl,by kernel_rfl,by kernel_rfl⟩
theorem Ko:TyF aaj 114 aaf 1:=⟨by kernel_rfl,by kernel_rfl,by kernel_rfl,by kernel_rfl⟩
theorem Y0:TyZ aaj 114 [.nil]:=⟨by kernel_rfl,by kernel_rfl⟩
theorem RY:SlT aaj 22 5 aaf 1 [Y (0:Int)] 1:=⟨underlying22,ty5,zs5,rfl,rfl,by kernel_rfl⟩
theorem Ha:SlT aaj 23 114 aaf 1 [.nil] 24:=⟨underlying23,Ko,Y0,rfl,rfl,by kernel_rfl⟩
theorem Im:SlT aaj 24 70 aae 4 [I (0:Int),I (0:Int),St (⟨#[]⟩:BA),.nil] 56:=⟨underlying24,Zj,ZG,rfl,rfl,by kernel_rfl⟩
theorem iq:SlT aaj 25 3 aaf 1 [I (0:Int)] 8:=⟨underlying25,Z8,zs3,rfl,rfl,by kernel_rfl⟩
theorem wo:SlT aaj 28 25 aaf 1 [.nil] 24:=⟨underlying28,AX,ZC,rfl,rfl,by kernel_rfl⟩
theorem Wt:SlT aaj 43 30 aae 2 [.nil,.nil] 48:=⟨underlying43,O3,X7,rfl,rfl,by kernel_rfl⟩
theorem Je:SlT aaj 66 68 aae 3 [I (0:Int),St (⟨#[]⟩:BA),.nil] 48:=⟨underlying66,OD,X8,rfl,rfl,by kernel_rfl⟩
theorem Ur:SlT aaj 85 9 aaf 1 [St (⟨#[]⟩:BA)] 16:=⟨underlying85,ty9,zs9,rfl,rfl,by kernel_rfl⟩
theorem Y1:SlT aaj 90 85 aaf 1 [.nil] 24:=⟨underlying90,YV,ZH,rfl,rfl,by kernel_rfl⟩
theorem U6:SlT aaj 94 92 aae 4 [.nil,.nil,.nil,.nil] 96:=⟨underlying94,yn,RX,rfl,rfl,by kernel_rfl⟩
theorem Kq:SlT aaj 108 111 aae 5 [I (0:Int),I (0:Int),I (0:Int),Bo aaf,Bo aaf] 32:=⟨underlying108,YY,Ws,rfl,rfl,by kernel_rfl⟩
theorem BS:SlT aaj 114 113 aae 4 [I (0:Int),I (0:Int),I (0:Int),I (0:Int)] 32:=⟨underlying114,xw,L9,rfl,rfl,by kernel_rfl⟩
theorem Kr:SlT aaj 141 28 aaf 1 [.nil] 24:=⟨underlying141,Jd,ZE,rfl,rfl,by kernel_rfl⟩
theorem Y2:SlT aaj 165 4 aaf 1 [Bo aaf] 1:=⟨underlying165,ty4,zs4,rfl,rfl,by kernel_rfl⟩

end
end Go.Proofs.YtoagamanbofngaaGreatDoor
