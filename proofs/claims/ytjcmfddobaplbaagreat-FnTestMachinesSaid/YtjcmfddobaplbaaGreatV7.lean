/- Texts joined. No conditions. -/
import Derived.Test.YtjcmfddobaplbaaGreatProg
import Derived.Test.YtjcmfddobaplbaaGreatV6
namespace Go.Proofs.YtjcmfddobaplbaaGreat
noncomputable section
open _root_.Option renaming bind -> Nw
open _root_.List renaming range -> Ny, append_assoc -> Nz, mem_range -> NB, countP -> NC, length_nil -> NF, length_take -> NH, mem_flatMap -> NJ, getElem_mem -> NL, mem_append -> NM, mem_map -> NP, length_drop -> NQ, mem_singleton -> NS, map_append -> NY, flatMap_cons -> N7, flatMap_append -> N8, mem_cons -> N9, mem_append_left -> Ob, take_succ_eq_append_getElem -> Oc, map_congr_left -> Od, ext_getElem? -> Oe, getElem?_map -> Og, cons_append -> Oi, append_inj -> Oj, range_succ -> Ol, not_mem_nil -> Om, take_succ_cons -> Oo, mem_append_right -> Ot, mem_cons_of_mem -> Ou, isEmpty_eq_false_iff -> Ov
open _root_.Nat renaming le_trans -> NA, mul_le_mul -> NI, mul_right_comm -> NR, zero_le -> NT, mul_assoc -> NV, pow_le_pow_right -> Oa, lt_or_ge -> Oh, mul_le_mul_right -> Oq
open _root_.Int renaming le_refl -> ND, eq_ofNat_of_zero_le -> NE
open _root_.Bool renaming or_eq_true -> NU
open _root_.Prod.mk renaming injEq -> NW
open _root_.List.cons renaming injEq -> NZ
open Go.RowKit
set_option maxRecDepth 100000
section
variable {P:Nat->List Ji} {d:Bool} {cl:Int->Int}
end
structure Ms where
 val:Int
 lk:Bool
 vw:Int->Nat
structure RS where
 pc:Nat->Nat
 rg:Nat->Int->Int
 li:Int->List Ms
 ow:Nat->Int->Nat
theorem RS.ext {a b:RS} (h1:a.pc=b.pc) (h2:a.rg=b.rg) (h3:a.li=b.li) (h4:a.ow=b.ow):a=b:=by
 cases a;cases b;simp only at h1 h2 h3 h4;subst h1 h2 h3 h4;rfl
def mvV (l:Int) (k:Nat) (w:Int->Nat):Int->Nat:=ud w l (if k<=w l then w l+1 else w l)
def mvM (l:Int) (k:Nat) (m:Ms):Ms:=⟨m.val,m.lk,mvV l k m.vw⟩
def joV (v w:Int->Nat):Int->Nat:=λl=>max (v l)<|w l
def CH (a:RS) (t:Nat) (l:Int) (k:Nat) (v:Int):RS where
 pc:=a.pc
 rg:=a.rg
 li:=ud (λl'=>(a.li l').map<|mvM l k) l (((a.li l).map<|mvM l k).take k++⟨v,false,ud (a.ow t) l k⟩::((a.li l).map<|mvM l k).drop k)
 ow:=ud (λu=>mvV l k<|a.ow u) t<|ud (a.ow t) l k
def GX (a:RS) (t:Nat) (x:Ji):Int:=if x.Op=3 then a.rg t x.Reg else x.Val
def lkM (m:Ms):Ms:=⟨m.val,true,m.vw⟩
def rdR (a:RS) (t:Nat) (x:Ji) (m:Ms):RS where
 pc:=ud a.pc t<|a.pc t+1
 rg:=ud a.rg t<|ud (a.rg t) x.Reg m.val
 li:=a.li
 ow:=ud a.ow t<|joV (a.ow t) m.vw
def pcR (a:RS) (t:Nat):RS:={ a with pc:=ud a.pc t (a.pc t+1) }
def lkR (a:RS) (l:Int) (k:Nat):RS:={ a with li:=ud a.li l ((a.li l).modify k lkM) }
inductive StR (P:Nat->List Ji):RS->RS->Prop
 | fen {a:RS} {t:Nat} {x:Ji} (h:(P t)[a.pc t]? = some x) (o:x.Op=4):StR P a (pcR a t)
 | ld {a:RS} {t k:Nat} {x:Ji} {m:Ms} (h:(P t)[a.pc t]? = some x) (o:x.Op=1) (hk:a.ow t x.Loc<=k) (hm:(a.li x.Loc)[k]? = some m):StR P a (rdR a t x m)
 | st {a:RS} {t k:Nat} {x:Ji} {m:Ms} (h:(P t)[a.pc t]? = some x) (o:x.Op=2\/x.Op=3) (hk:a.ow t x.Loc<=k) (hm:(a.li x.Loc)[k]? = some m) (hl:m.lk=false):StR P a (CH (pcR a t) t x.Loc (k+1)<|GX a t x)
 | sw {a:RS} {t k:Nat} {x:Ji} {m:Ms} (h:(P t)[a.pc t]? = some x) (o:x.Op=5) (hk:a.ow t x.Loc<=k) (hm:(a.li x.Loc)[k]? = some m) (hl:m.lk=false):StR P a (lkR (CH (rdR a t x m) t x.Loc (k+1) x.Val) x.Loc k)
def a0R:RS:=⟨λ_=>0,λ_ _=>0,λ_=>[⟨0,false,λ_=>0⟩],λ_ _=>0⟩
def Ft (a:RS) (l:Int):Int:=match (a.li l).getLast? with
 | some m=>m.val
 | none=>0
def Gc (n:Nat) (a:RS):LI:=((Ny n).flatMap λt=>(Ny 3).map λg:Nat=>a.rg t g)++(Ny 3).map λl:Nat=>Ft a l
def DnR (P:Nat->List Ji) (a:RS):Prop:=∀ t,(P t).length<=a.pc t
def I3 (P:Nat->List Ji) (n:Nat):LI->Prop:=Ij (StR P) a0R (DnR P)<|Gc n
section
variable {P:Nat->List Ji}
end
def evs (P:Nat->List Ji) (t:Nat):List Ji:=(P t).filter λx=>x.Op != 4
def Jn (P:Nat->List Ji) (a:RS) (t:Nat):Nat:=Jm<|(P t).take<|a.pc t
def sm (f:List Ji->Nat) (P:Nat->List Ji) (e:Nat->Nat):Nat:=f ((evs P 0).take<|e 0)+f ((evs P 1).take<|e 1)+f ((evs P 2).take<|e 2)
def sW (f:List Ji->Nat) (P:Nat->List Ji):Nat:=f (evs P 0)+f (evs P 1)+f (evs P 2)
def dt (a:RS):RS:={ a with pc:=λ_=>0 }
def dfM:Ms:=⟨0,false,λ_=>0⟩
def scc (t:Nat) (x:Ji) (n:Nat) (d:RS):List RS:=
 (Ny n).map λk=>dt (if x.Op=1 then rdR d t x ((d.li x.Loc).getD k dfM) else if x.Op=5 then lkR (CH (rdR d t x<|(d.li x.Loc).getD k dfM) t x.Loc (k+1) x.Val) x.Loc k else CH (pcR d t) t x.Loc (k+1) (GX d t x))
theorem Fu (t:Nat) (x:Ji) (n:Nat) (d:RS):(scc t x n d).length=n:=by simp [scc]
theorem yV {α:Type} (f:α->Bool) {x:α} (hx:f x=true):∀ (l:List α) (k:Nat),l[k]? = some x->(l.filter f)[(l.take k).countP f]? = some x
 | [],k,h=>by simp at h
 | y::l,0,h=>by
  obtain rfl:y=x:=by simpa using h
  simp [hx]
 | y::l,k+1,h=>by
  have ih:=yV f hx l k (by simpa using h)
  by_cases hy:f y=true
  ·rw [List.filter_cons_of_pos hy,Oo,List.countP_cons_of_pos hy];simpa using ih
  rw [List.filter_cons_of_neg hy,Oo,List.countP_cons_of_neg hy];exact ih
section
variable {P:Nat->List Ji}
theorem rD {a b:RS} {t:Nat} {x:Ji} (hx:(P t)[a.pc t]? = some x) (hb:b.pc=ud a.pc t (a.pc t+1)):Jn P b=if x.Op=4 then Jn P a else ud (Jn P a) t (Jn P a t+1):=by
 have hk:=(ges hx).1;have e1:Jn P b t=Jn P a t+if x.Op=4 then 0 else 1:=by
  unfold Jn;rw [hb,dx,List.take_add_one,hx];unfold Jm;rw [List.countP_append]
  by_cases h:x.Op=4 <;> simp [h]
 have e2:∀ u,u≠t->Jn P b u=Jn P a u:=λu hu=>by
  unfold Jn;rw [hb,iO hu]
 funext u
 by_cases hu:u=t
 ·subst hu;rw [e1]
  split
  ·omega
  rw [dx]
 rw [e2 u hu]
 split
 ·rfl
 rw [iO hu]
theorem yX (a:RS) (t:Nat) (l:Int) (k:Nat) (v:Int) (hk:k<=(a.li l).length) (j:Int):((CH a t l k v).li j).length=(a.li j).length+if l=j then 1 else 0:=by
 unfold CH;simp only [mG]
 by_cases h:j=l
 ·subst h;rw [if_pos rfl,if_pos rfl];simp only [lla,llc,NH,NQ,llm];omega
 rw [if_neg h,if_neg (Ne.symm h),llm];rfl
theorem Fv (a:RS) (l:Int) (k:Nat) (j:Int):((lkR a l k).li j).length=(a.li j).length:=by
 unfold lkR;simp only [mG]
 split
 ·rename_i h;rw [List.length_modify,h]
 rfl
theorem Cb (h3:∀ t,3<=t->P t=[]) {a b:RS} (h:StR P a b):(Jn P b=Jn P a/\dt b=dt a/\∀ l,(b.li l).length=(a.li l).length) \/
  ∃ (t:Nat) (x:Ji),t<3/\(∃ k:Nat,(P t)[k]? = some x)/\x.Op≠4/\(evs P t)[Jn P a t]? = some x/\Jn P b=ud (Jn P a) t (Jn P a t+1)/\dt b∈scc t x (a.li x.Loc).length (dt a)/\∀ l,(b.li l).length=(a.li l).length+if wrX x&&x.Loc==l then 1 else 0:=by
 have ht:∀ {t k:Nat} {x:Ji},(P t)[k]? = some x->t<3:=λ{t k x} h=>by
  refine Decidable.byContradiction λg=>?_;rw [h3 t (by omega)] at h;simp at h
 have he:∀ {t:Nat} {x:Ji},(P t)[a.pc t]? = some x->x.Op≠4->(evs P t)[Jn P a t]? = some x:=λh o=>yV _ (by simpa using o) _ _ h
 cases h with
 | @fen t x h o=>
  refine .inl ⟨?_,rfl,λ_=>rfl⟩;rw [rD h rfl,if_pos o]
 | @ld t k x m h o hk hm=>
  refine .inr ⟨t,x,ht h,⟨_,h⟩,by omega,he h (by omega),?_,?_,λl=>?_⟩
  ·rw [rD h rfl,if_neg (by omega)]
  ·refine NP.2 ⟨k,NB.2 (ges hm).1,?_⟩;rw [if_pos o,show (dt a).li=a.li from rfl,gdq,hm]
   rfl
  simp [wrX,o,rdR]
 | @st t k x m h o hk hm hl=>
  have hlt:=(ges hm).1;refine .inr ⟨t,x,ht h,⟨_,h⟩,by omega,he h (by omega),?_,?_,λl=>?_⟩
  ·rw [rD h rfl,if_neg (by omega)]
  ·refine NP.2 ⟨k,NB.2 hlt,?_⟩;rw [if_neg (by omega),if_neg (by omega)]
   rfl
  rw [yX _ _ _ _ _ (by exact hlt)];have : wrX x=true:=by rcases o with o | o <;> simp [wrX,o]
  rw [this];simp [pcR]
 | @sw t k x m h o hk hm hl=>
  have hlt:=(ges hm).1;refine .inr ⟨t,x,ht h,⟨_,h⟩,by omega,he h (by omega),?_,?_,λl=>?_⟩
  ·rw [rD h rfl,if_neg (by omega)]
  ·refine NP.2 ⟨k,NB.2 hlt,?_⟩;rw [if_neg (by omega),if_pos o,show (dt a).li=a.li from rfl,gdq,hm]
   rfl
  rw [Fv,yX _ _ _ _ _ (by exact hlt)];have : wrX x=true:=by simp [wrX,o]
  rw [this];simp [rdR]
theorem xP {f:Ji->Bool} {e:Nat->Nat} {t:Nat} {x:Ji} (ht:t<3) (hx:(evs P t)[e t]? = some x):sm (NC f) P (ud e t<|e t+1)=sm (NC f) P e+if f x=true then 1 else 0:=by
 have key:((evs P t).take<|e t+1).countP f=((evs P t).take<|e t).countP f+if f x=true then 1 else 0:=by
  rw [List.take_add_one,hx,List.countP_append]
  by_cases h:f x=true <;> simp [h]
 unfold sm;obtain rfl | rfl | rfl:t=0\/t=1\/t=2:=by omega
 ·rw [dx,iO (by decide),iO (by decide),key];omega
 ·rw [dx,iO (by decide),iO (by decide),key];omega
 rw [dx,iO (by decide),iO (by decide),key];omega
theorem Dn (f:Ji->Bool) (e:Nat->Nat):sm (NC f) P e<=sW (NC f) P:=by
 have : ∀ t k,((evs P t).take k).countP f<=(evs P t).countP f:=λt k=>(List.take_sublist _ _).countP_le;unfold sm sW;have h0:=this 0<|e 0;have h1:=this 1<|e 1;have h2:=this 2<|e 2;omega
def fwL (l:Int) (x:Ji):Bool:=wrX x&&x.Loc==l
def flL (l:Int) (x:Ji):Bool:=x.Op==1&&x.Loc==l
def wC (P:Nat->List Ji) (l:Int) (e:Nat->Nat):Nat:=sm (NC<|fwL l) P e
def rC (P:Nat->List Ji) (l:Int) (e:Nat->Nat):Nat:=sm (NC<|flL l) P e
def WT (P:Nat->List Ji) (l:Int):Nat:=sW (NC<|fwL l) P
def RT (P:Nat->List Ji) (l:Int):Nat:=sW (NC<|flL l) P
theorem En (h3:∀ t,3<=t->P t=[]) {a:RS} (h:Rch (StR P) a0R a) (l:Int):(a.li l).length=1+wC P l (Jn P a):=by
 induction h with
 | base=>simp [a0R,wC,sm,Jn,Jm]
 | step _ s ih=>
  rcases Cb h3 s with ⟨e1,_,e2⟩ | ⟨t,x,ht,_,_,hx,e1,_,e2⟩
  ·rw [e1,e2,ih]
  rw [e1,e2,ih];unfold wC;rw [xP ht hx];unfold fwL;omega
theorem Eo (h3:∀ t,3<=t->P t=[]) {a:RS} (h:Rch (StR P) a0R a):(Jn P a=(λ_=>0)/\dt a=a0R) \/
  ∃ (a':RS) (t:Nat) (x:Ji),Rch (StR P) a0R a'/\t<3/\(∃ k:Nat,(P t)[k]? = some x)/\x.Op≠4/\(evs P t)[Jn P a' t]? = some x/\Jn P a=ud (Jn P a') t (Jn P a' t+1)/\dt a∈scc t x (1+wC P x.Loc (Jn P a')) (dt a'):=by
 induction h with
 | base=>exact .inl ⟨by funext t;simp [Jn,a0R,Jm],rfl⟩
 | step h s ih=>
  rcases Cb h3 s with ⟨e1,e3,_⟩ | ⟨t,x,ht,hk,ho,hx,e1,e3,_⟩
  ·rw [e1,e3];exact ih
  exact .inr ⟨_,t,x,h,ht,hk,ho,hx,e1,by rw [<- En h3 h];exact e3⟩
def phl (P:Nat->List Ji) (l:Int) (e:Nat->Nat):Nat:=(WT P l+1) ^ rC P l e*fct (wC P l e)
def phi (P:Nat->List Ji) (e:Nat->Nat):Nat:=phl P 0 e*phl P 1 e*phl P 2 e
theorem yY {a b:Nat} (h:a<=b):fct a<=fct b:=by
 induction h with
 | refl=>exact Nat.le_refl _
 | step _ ih=>exact NA ih (Nat.le_mul_of_pos_right _<|by omega)
theorem GY (l:Int) (e:Nat->Nat):phl P l e<=(WT P l+1) ^ RT P l*fct (WT P l):=
 NI (Oa (by omega)<|Dn _ _) (yY<|Dn _ _)
theorem vk {e:Nat->Nat} {t:Nat} {x:Ji} (ht:t<3) (hx:(evs P t)[e t]? = some x) (ho:x.Op=1\/wrX x=true/\x.Op≠1) (l:Int):phl P l e*(if l=x.Loc then 1+wC P l e else 1)<=phl P l (ud e t<|e t+1):=by
 unfold phl rC wC;rw [xP ht hx,xP ht hx];have hw:=Dn (P:=P) (fwL l) e
 by_cases hl:l=x.Loc
 ·subst hl;rw [if_pos rfl];rcases ho with ho | ⟨ho,hn⟩
  ·have h1:flL x.Loc x=true:=by simp [flL,ho]
   have h2:fwL x.Loc x=false:=by simp [fwL,wrX,ho]
   rw [h1,h2];simp only [if_true,Bool.false_eq_true,if_false,Nat.add_zero];rw [Nat.pow_succ,NR];refine Oq _<|Nat.mul_le_mul_left _ ?_;unfold WT;omega
  have h1:flL x.Loc x=false:=by simp [flL,hn]
  have h2:fwL x.Loc x=true:=by simp [fwL,ho]
  rw [h1,h2];simp only [if_true,Bool.false_eq_true,if_false,Nat.add_zero,fct];rw [NV,Nat.add_comm 1];exact Nat.le_refl _
 have h1:flL l x=false:=by simp [flL,Ne.symm hl]
 have h2:fwL l x=false:=by simp [fwL,Ne.symm hl]
 rw [h1,h2,if_neg hl];simp
theorem Dq {e:Nat->Nat} {t:Nat} {x:Ji} (ht:t<3) (hx:(evs P t)[e t]? = some x) (ho:x.Op=1\/wrX x=true/\x.Op≠1) (hl:x.Loc=0\/x.Loc=1\/x.Loc=2):phi P e*(1+wC P x.Loc e)<=phi P (ud e t<|e t+1):=by
 have h0:=vk ht hx ho 0;have h1:=vk ht hx ho 1;have h2:=vk ht hx ho 2;have key:=NI (NI h0 h1) h2;unfold phi;refine NA (Nat.le_of_eq ?_) key;rcases hl with hl | hl | hl <;> rw [hl] <;> simp only [if_true,Nat.mul_one,if_neg (by decide : ¬ (1:Int)=0),if_neg (by decide : ¬ (2:Int)=0),if_neg (by decide : ¬ (0:Int)=1),if_neg (by decide : ¬ (2:Int)=1),if_neg (by decide : ¬ (0:Int)=2),if_neg (by decide : ¬ (1:Int)=2)]
 ·generalize phl P 0 e=p;generalize phl P 1 e=q;generalize phl P 2 e=r;generalize 1+wC P 0 e=s;rw [NR p s q,NR (p*q) s r]
 ·generalize phl P 0 e=p;generalize phl P 1 e=q;generalize phl P 2 e=r;generalize 1+wC P 1 e=s;rw [<- NV p q s,NR (p*q) s r]
 rw [NV (phl P 0 e*phl P 1 e)]
theorem Dr (f:List Ji->Nat) {e e':Nat->Nat} (h0:e 0=e' 0) (h1:e 1=e' 1) (h2:e 2=e' 2):sm f P e=sm f P e':=by unfold sm;rw [h0,h1,h2]
theorem Fw (e:Nat->Nat):1<=phi P e:=by
 have : ∀ l,0<phl P l e:=λl=>Nat.mul_pos (Nat.pow_pos<|by omega)<|EU _;exact Nat.mul_pos (Nat.mul_pos (this 0)<|this 1)<|this 2
theorem cov (h3:∀ t,3<=t->P t=[]) (hP:∀ (t k:Nat) (x:Ji),(P t)[k]? = some x->InR x) (hO:∀ (t k:Nat) (x:Ji),(P t)[k]? = some x->1<=x.Op/\x.Op<=5):∀ (n:Nat) (e:Nat->Nat),e 0+e 1+e 2=n ->
  ∃ L:List RS,L.length<=3 ^ n*phi P e/\∀ a,Rch (StR P) a0R a->Jn P a 0=e 0->Jn P a 1=e 1->Jn P a 2=e 2->dt a∈L
 | 0,e,he=>by
  refine ⟨[a0R],by simpa using Fw e,λa ha g0 g1 g2=>?_⟩;rcases Eo h3 ha with ⟨_,h⟩ | ⟨a',t,x,_,ht,_,_,_,h,_⟩
  ·rw [h];exact NS.2 rfl
  have := congrFun h t;rw [dx] at this;obtain rfl | rfl | rfl:t=0\/t=1\/t=2:=by omega
  all_goals omega
 | n+1,e,he=>by
  have part:∀ t,t<3->∃ Lt:List RS,Lt.length<=3 ^ n*phi P e/\∀ (a' a:RS) (x:Ji),Rch (StR P) a0R a'->(∃ k:Nat,(P t)[k]? = some x)->x.Op≠4->(evs P t)[Jn P a' t]? = some x->Jn P a=ud (Jn P a') t (Jn P a' t+1) ->
    Jn P a 0=e 0->Jn P a 1=e 1->Jn P a 2=e 2->dt a∈scc t x (1+wC P x.Loc (Jn P a')) (dt a')->dt a∈Lt:=by
   intro t ht;have pv:∀ {a' a:RS},Jn P a=ud (Jn P a') t (Jn P a' t+1)->Jn P a 0=e 0->Jn P a 1=e 1->Jn P a 2=e 2->e t=Jn P a' t+1/\∀ u,u<3->Jn P a' u=ud e t (e t-1) u:=λ{a' a} h g0 g1 g2=>by
    have hu:∀ u,u<3->Jn P a u=e u:=λu hu=>by
     obtain rfl | rfl | rfl:u=0\/u=1\/u=2:=by omega
     all_goals assumption
    have e1:e t=Jn P a' t+1:=by rw [<- hu t ht,h,dx]
    refine ⟨e1,λu h3=>?_⟩
    by_cases k:u=t
    ·subst k;rw [dx];omega
    rw [iO k,<- hu u h3,h,iO k]
   cases hx:(evs P t)[e t-1]? with
   | none=>
    refine ⟨[],NT _,λa' a x h1 h2 h4 h5 h6 g0 g1 g2 h7=>?_⟩;obtain ⟨k1,_⟩:=pv h6 g0 g1 g2;rw [k1,Nat.add_sub_cancel,h5] at hx
    cases hx
   | some x=>
    by_cases hpos:0<e t
    ·have hsum:(ud e t<|e t-1) 0+(ud e t<|e t-1) 1+(ud e t<|e t-1) 2=n:=by
      obtain rfl | rfl | rfl:t=0\/t=1\/t=2:=by omega
      ·rw [dx,iO (by decide),iO (by decide)];omega
      ·rw [dx,iO (by decide),iO (by decide)];omega
      rw [dx,iO (by decide),iO (by decide)];omega
     obtain ⟨L,hL,hc⟩:=cov h3 hP hO n _ hsum;have hmem:x∈evs P t:=List.mem_of_getElem? hx;unfold evs at hmem;obtain ⟨hm1,hm2⟩:=List.mem_filter.1 hmem;obtain ⟨k,hk⟩:=List.getElem?_of_mem hm1;have hr:=hP t k x hk;have hro:=hO t k x hk;have ho:x.Op≠4:=by simpa using hm2
     have hst:phi P (ud e t<|e t-1)*(1+wC P x.Loc (ud e t<|e t-1))<=phi P e:=by
      have := Dq (P:=P) (e:=ud e t<|e t-1) (t:=t) (x:=x) ht (by rw [dx];exact hx) (by unfold InR at hr;unfold wrX;simp only [NU,beq_iff_eq];omega) (by unfold InR at hr;omega);rw [dx,Nat.sub_add_cancel hpos,wH,GG] at this;exact this
     refine ⟨L.flatMap<|scc t x<|1+wC P x.Loc (ud e t<|e t-1),?_,λa' a y h1 h2 h4 h5 h6 g0 g1 g2 h7=>?_⟩
     ·refine NA (tP λd _=>Nat.le_of_eq<|Fu _ _ _ d) ?_;refine NA (Oq _ hL) ?_;rw [NV];exact Nat.mul_le_mul_left _ hst
     obtain ⟨k1,k2⟩:=pv h6 g0 g1 g2;rw [k1,Nat.add_sub_cancel,h5] at hx;obtain rfl:=osl hx;refine NJ.2 ⟨dt a',hc a' h1 (k2 0<|by omega) (k2 1<|by omega)<|k2 2 (by omega),?_⟩;have : wC P y.Loc (ud e t<|e t-1)=wC P y.Loc (Jn P a'):=Dr _ (k2 0<|by omega).symm (k2 1<|by omega).symm (k2 2<|by omega).symm;rw [this];exact h7
    refine ⟨[],NT _,λa' a x h1 h2 h4 h5 h6 g0 g1 g2 h7=>?_⟩;obtain ⟨k1,_⟩:=pv h6 g0 g1 g2;omega
  obtain ⟨A,hA,kA⟩:=part 0 (by omega);obtain ⟨B,hB,kB⟩:=part 1 (by omega);obtain ⟨C,hC,kC⟩:=part 2 (by omega);refine ⟨A++B++C,?_,λa ha g0 g1 g2=>?_⟩
  ·rw [lla,lla,Nat.pow_succ,NR];omega
  rcases Eo h3 ha with ⟨h,_⟩ | ⟨a',t,x,h1,ht,h2,h4,h5,h6,h7⟩
  ·rw [h] at g0 g1 g2;simp only at g0 g1 g2;omega
  obtain rfl | rfl | rfl:t=0\/t=1\/t=2:=by omega
  ·exact Ob _<|Ob _<|kA a' a x h1 h2 h4 h5 h6 g0 g1 g2 h7
  ·exact Ob _<|Ot _<|kB a' a x h1 h2 h4 h5 h6 g0 g1 g2 h7
  exact Ot _<|kC a' a x h1 h2 h4 h5 h6 g0 g1 g2 h7
theorem GZ {a:RS} (h:Rch (StR P) a0R a) (t:Nat):a.pc t<=(P t).length:=by
 induction h with
 | base=>exact NT _
 | @step a b h s ih=>
  have key:∀ {u:Nat} {x:Ji},(P u)[a.pc u]? = some x->b.pc=ud a.pc u (a.pc u+1)->b.pc t<=(P t).length:=λ{u x} h1 h2=>by
   have := (ges h1).1;rw [h2,mG]
   split
   ·rename_i e;subst e;omega
   exact ih
  cases s with
  | fen h1 _=>exact key h1 rfl
  | ld h1 _ _ _=>exact key h1 rfl
  | st h1 _ _ _ _=>exact key h1 rfl
  | sw h1 _ _ _ _=>exact key h1 rfl
theorem I4 (h3:∀ t,3<=t->P t=[]) (hP:∀ (t k:Nat) (x:Ji),(P t)[k]? = some x->InR x) (hO:∀ (t k:Nat) (x:Ji),(P t)[k]? = some x->1<=x.Op/\x.Op<=5) (h7:∀ t,(P t).length<=7) (he:Jm (P 0)+Jm (P 1)+Jm (P 2)<=12) (hx:∀ e,phi P e<=3000)
  (V:List RS) (hn:V.Nodup) (hV:∀ v∈V,Rch (StR P) a0R v):V.length<=816293376000:=by
 have C:=λi j k:Nat=>cov h3 hP hO _ (λt=>if t=0 then Jm ((P 0).take i) else if t=1 then Jm ((P 1).take j) else Jm ((P 2).take k)) rfl;have hs:=wI hn (l:=(Ny 8).flatMap λi=>(Ny 8).flatMap λj=>(Ny 8).flatMap λk=>(Classical.choose<|C i j k).map λd=>({ d with pc:=λt=>if t=0 then i else if t=1 then j else if t=2 then k else 0 }:RS)) λv hv=>?_
 ·have k3:∀ i j k,((Classical.choose<|C i j k).map λd=>({ d with pc:=λt=>if t=0 then i else if t=1 then j else if t=2 then k else 0 }:RS)).length<=1594323000:=λi j k=>by
   rw [llm];refine NA (Classical.choose_spec<|C i j k).1 ?_;refine NA (NI (Oa (by decide)<|show _<=12 from ?_)<|hx _) (by decide);have a0:=ry (P 0) i;have a1:=ry (P 1) j;have a2:=ry (P 2) k;simp only [if_true,if_neg (by decide : ¬ (1:Nat)=0),if_neg (by decide : ¬ (2:Nat)=0),if_neg (by decide : ¬ (2:Nat)=1)];omega
  have hl:(Ny 8).length=8:=by simp
  have k2:=λi j=>tP (l:=Ny 8) λk _=>k3 i j k;have k1:=λi=>tP (l:=Ny 8) λj _=>k2 i j;have k0:=tP (l:=Ny 8) λi _=>k1 i;rw [hl] at k0;exact NA hs<|NA k0 (by decide)
 have hr:=hV v hv;have hp:=GZ hr;have p0:=hp 0;have p1:=hp 1;have p2:=hp 2;have q0:=h7 0;have q1:=h7 1;have q2:=h7 2;refine NJ.2 ⟨v.pc 0,NB.2 (by omega),NJ.2 ⟨v.pc 1,NB.2 (by omega),NJ.2 ⟨v.pc 2,NB.2 (by omega),NP.2 ⟨dt v,(Classical.choose_spec<|C _ _ _).2 v hr rfl rfl rfl,?_⟩⟩⟩⟩;refine RS.ext ?_ rfl rfl rfl
 funext t
 simp only
 split
 ·rename_i e;rw [e]
 split
 ·rename_i e;rw [e]
 split
 ·rename_i e;rw [e]
 have := hp t;rw [h3 t (by omega)] at this;simp at this;omega
end
def vwF (v:ah):Int->Nat:=λl=>if 0<=l/\l<=2 then (ah.get v l).toNat else 0
def sK (w:ai):Ms:=⟨w.value,w.taken,vwF w.view⟩
def liF (a:ae):Int->List Ms:=λl=>if 0<=l/\l<=2 then (ae.get a l).map sK else [⟨0,false,λ_=>0⟩]
def owF (a:aa):Nat->Int->Nat:=λt=>if t<3 then vwF (aa.get a t) else λ_=>0
def AW (s:ak):RS:=⟨pcF s.values.pc,rgF s.values.reg,liF s.lists,owF s.own⟩
def VB (n:Int) (v:ah):Prop:=∀ l,0<=l/\l<=2->0<=ah.get v l/\ah.get v l<=n
theorem vp (v:ah) {q j:Int} (z:Int) (hq:0<=q/\q<=2) (hj:0<=j/\j<=2):ah.get (ah.set v q z) j=if j=q then z else ah.get v j:=by
 have h1:q=0\/q=1\/q=2:=by omega
 have h2:j=0\/j=1\/j=2:=by omega
 rcases h1 with rfl | rfl | rfl <;> rcases h2 with rfl | rfl | rfl <;> rfl
theorem mX (v:aa) {q j:Int} (z:ah) (hq:0<=q/\q<=2) (hj:0<=j/\j<=2):aa.get (aa.set v q z) j=if j=q then z else aa.get v j:=by
 have h1:q=0\/q=1\/q=2:=by omega
 have h2:j=0\/j=1\/j=2:=by omega
 rcases h1 with rfl | rfl | rfl <;> rcases h2 with rfl | rfl | rfl <;> rfl
theorem vq (v:ae) {q j:Int} (z:List ai) (hq:0<=q/\q<=2) (hj:0<=j/\j<=2):ae.get (ae.set v q z) j=if j=q then z else ae.get v j:=by
 have h1:q=0\/q=1\/q=2:=by omega
 have h2:j=0\/j=1\/j=2:=by omega
 rcases h1 with rfl | rfl | rfl <;> rcases h2 with rfl | rfl | rfl <;> rfl
theorem xQ (v:ah) {l:Int} (hl:0<=l/\l<=2) (z:Int):vwF (ah.set v l z)=ud (vwF v) l z.toNat:=by
 funext j
 simp only [vwF,mG]
 by_cases h:0<=j/\j<=2
 ·rw [if_pos h,if_pos h,vp _ _ hl h]
  split <;> rfl
 rw [if_neg h,if_neg h,if_neg λe=>h (by rw [e];exact hl)]
theorem Cc (a:aa) {t:Nat} (ht:t<3) (v:ah):owF (aa.set a t v)=ud (owF a) t (vwF v):=by
 funext u
 simp only [owF,mG]
 by_cases h:u<3
 ·rw [if_pos h,if_pos h,mX _ _ (by omega) (by omega)]
  by_cases e:u=t
  ·rw [if_pos (by omega),if_pos e]
  rw [if_neg (by omega),if_neg e]
 rw [if_neg h,if_neg h,if_neg (by omega)]
theorem Fx (a:ae) {l:Int} (hl:0<=l/\l<=2) (w:List ai):liF (ae.set a l w)=ud (liF a) l (w.map sK):=by
 funext j
 simp only [liF,mG]
 by_cases h:0<=j/\j<=2
 ·rw [if_pos h,if_pos h,vq _ _ hl h]
  split <;> rfl
 rw [if_neg h,if_neg h,if_neg λe=>h (by rw [e];exact hl)]
def mvP (v:ah) (l k:Int):ah:=ah.set v l (if k<=ah.get v l then ah.get v l+1 else ah.get v l)
def mvW (l k:Int) (w:ai):ai:={ w with view:=mvP w.view l k }
theorem Dt (v:ah) (l:Int):ah.set v l (ah.get v l)=v:=by
 unfold ah.set ah.get
 split
 ·rfl
 split <;> rfl
theorem j4 {v:ah} {l k:Int} (hl:0<=l/\l<=2) (hv:VB 254 v):Jl (aL v l k) (· = mvP v l k):=by
 have h:=hv l hl;unfold aL;refine Jl.bind (P:=λz=>(⟨z.1,z.2.1,z.2.2⟩:ah)=mvP v l k) (.gdD (by omega)<|.bifD (λhk => .gdY (by omega)<|.pure ?_) λhk => .pure ?_) λz hz => .pure hz
 ·unfold mvP;rw [if_pos hk]
 unfold mvP;rw [if_neg hk,Dt]
theorem yZ {v:ah} {l:Int} (hl:0<=l/\l<=2) (hv:VB 254 v) (k:Nat):vwF (mvP v l k)=mvV l k (vwF v):=by
 have h:=hv l hl;unfold mvP mvV;rw [xQ _ hl]
 congr 1
 have : vwF v l=(ah.get v l).toNat:=if_pos hl;rw [this]
 split <;> split <;> omega
def joP (v o:ah):ah:=⟨max v.x0 o.x0,max v.x1 o.x1,max v.x2 o.x2⟩
theorem zV (v o:ah):Jl (fO v o) (· = joP v o):=by
 have mx:∀ a b:Int,(if b>a then b else a)=max a b:=λa b=>by split <;> omega
 unfold fO;refine Jl.bind (P:=λz=>(⟨z.1,z.2.1,z.2.2⟩:ah)=joP v o) ?_ λz hz => .pure hz;refine Jl.loop (λz=>(z.2.2.2=0/\(z.1,z.2.1,z.2.2.1)=(v.x0,v.x1,v.x2))\/(z.2.2.2=1/\(z.1,z.2.1,z.2.2.1)=(max v.x0 o.x0,v.x1,v.x2))\/(z.2.2.2=2/\(z.1,z.2.1,z.2.2.1)=(max v.x0 o.x0,max v.x1 o.x1,v.x2))\/(z.2.2.2=3/\(z.1,z.2.1,z.2.2.1)=(max v.x0 o.x0,max v.x1 o.x1,max v.x2 o.x2))) (λz=>(3-z.2.2.2).toNat) (.inl ⟨rfl,rfl⟩) λz hz=>?_;obtain ⟨a,b,c,i⟩:=z;unfold jd;simp only [NW] at hz;rcases hz with ⟨rfl,rfl,rfl,rfl⟩ | ⟨rfl,rfl,rfl,rfl⟩ | ⟨rfl,rfl,rfl,rfl⟩ | ⟨rfl,rfl,rfl,rfl⟩
 ·refine .bifD (λ_ => .gdD (by simp only [];omega)<|.gdI (by simp only [];omega)<|.pure ⟨.inr<|.inl ⟨rfl,?_⟩,by simp only [];omega⟩) λh=>absurd (by simp only [];omega) h;simp only [ah.set,ah.get,if_true,mx]
 ·refine .bifD (λ_ => .gdD (by simp only [];omega)<|.gdI (by simp only [];omega)<|.pure ⟨.inr<|.inr<|.inl ⟨rfl,?_⟩,by simp only [];omega⟩) λh=>absurd (by simp only [];omega) h;simp only [ah.set,ah.get,if_true,if_neg (by decide : ¬ (1:Int)=0),mx]
 ·refine .bifD (λ_ => .gdD (by simp only [];omega)<|.gdI (by simp only [];omega)<|.pure ⟨.inr<|.inr<|.inr ⟨rfl,?_⟩,by simp only [];omega⟩) λh=>absurd (by simp only [];omega) h;simp only [ah.set,ah.get,if_neg (by decide : ¬ (2:Int)=0),if_neg (by decide : ¬ (2:Int)=1),mx]
 exact .bifD (λh=>absurd h<|by simp only [];omega) λ_ => .pure rfl
theorem G3 {v o:ah} (hv:VB 254 v) (ho:VB 254 o):vwF (joP v o)=joV (vwF v) (vwF o):=by
 funext l
 unfold joV;simp only [vwF]
 by_cases h:0<=l/\l<=2
 ·rw [if_pos h,if_pos h,if_pos h];have h1:=hv l h;have h2:=ho l h;have : l=0\/l=1\/l=2:=by omega
  rcases this with rfl | rfl | rfl
  all_goals
   simp only [ah.get,joP,if_true,if_neg (by decide : ¬ (1:Int)=0),if_neg (by decide : ¬ (2:Int)=0),if_neg (by decide : ¬ (2:Int)=1)] at *;omega
 rw [if_neg h,if_neg h,if_neg h];rfl
theorem mY {l k:Int} {xs:List ai} {f:(List ai×Int)->Option ((List ai×Int) ⊕ List ai)} (hl:0<=l/\l<=2) (hb:∀ w∈xs,VB 254 w.view) (hx:xs.length<=254)
  (hf:∀ z,f z=bif decide (z.2<(xs.length:Int)) then (gd (decide<|0<=z.2/\z.2<(z.1.length:Int))<|Nw (aL ((z.1.getD z.2.toNat default).view) l k) λv=>gd (Jg .i64<|z.2+(1:Int))<|some<|.inl ((z.1.set z.2.toNat<|{ (z.1.getD z.2.toNat default) with view:=v }),(z.2+(1:Int)))) else some (.inr z.1)) :
  Jl (bQ f (xs,(0:Int))) (· = xs.map (mvW l k)):=by
 refine Jl.loop (λz=>(0<=z.2/\z.2<=(xs.length:Int))/\z.1=(xs.take z.2.toNat).map (mvW l k)++xs.drop z.2.toNat) (λz=>((xs.length:Int)-z.2).toNat) ⟨⟨ND _,by simp only [];omega⟩,by simp⟩ λz ⟨⟨h1,h2⟩,h3⟩ => ?_;rw [hf];obtain ⟨ys,i⟩:=z;simp only at h1 h2 h3;obtain ⟨n,rfl⟩:=NE h1;simp only [tnn] at h3 ⊢;have hyl:ys.length=xs.length:=by rw [h3];simp;omega
 refine .bifD (λhlt => .gdD ⟨h1,by rw [hyl];exact hlt⟩ ?_) λhge => .pure ?_
 ·have hn:n<xs.length:=by omega
  have hg:ys.getD n default=xs[n]:=by
   rw [h3,gdq,gar (by simp;omega)];simp [Nat.min_eq_left (Nat.le_of_lt hn),hn]
  rw [hg];refine (j4 hl<|hb _<|NL hn).bind λv hv => .gdI (by omega)<|.pure ⟨⟨⟨by omega,by omega⟩,?_⟩,by omega⟩;subst hv;show ys.set n (mvW l k xs[n])=_;rw [show ((n:Int)+1).toNat=n+1 by omega,h3,List.set_append_right _ _ (by simp;omega)];simp only [llm,NH,Nat.min_eq_left (Nat.le_of_lt hn),Nat.sub_self];rw [List.drop_eq_getElem_cons hn,List.set_cons_zero,Oc hn,NY,Nz]
  rfl
 rw [h3,show n=xs.length by omega];simp
def Ce (L:ae) (O:aa) (t l k v:Int):ae×aa:=
 let O2:aa:=⟨mvP O.x0 l k,mvP O.x1 l k,mvP O.x2 l k⟩;let O3:=aa.set O2 t<|ah.set (aa.get O2 t) l k;let L2:ae:=⟨L.x0.map<|mvW l k,L.x1.map<|mvW l k,L.x2.map<|mvW l k⟩;let M:=ae.get L2 l
 (ae.set L2 l<|M.take k.toNat++[⟨v,false,aa.get O3 t⟩]++M.drop k.toNat,O3)
def Ep (s:ak) (x:Ji) (k:Int):ai:=(ae.get s.lists x.Loc).getD k.toNat default
def xS (s:ak) (t k:Int) (x:Ji):Z33:=if rdX x=true then Z33.set s.values.reg t (Z3b.set (Z33.get s.values.reg t) x.Reg (Ep s x k).value) else s.values.reg
def tQ (s:ak) (t k:Int) (x:Ji):aa:=if rdX x=true then aa.set s.own t (joP (aa.get s.own t) (Ep s x k).view) else s.own
def Du (L:ae) (l k:Int):ae:=ae.set L l<|(ae.get L l).set k.toNat { ((ae.get L l).getD k.toNat default) with taken:=true }
def zW (s:ak) (t k:Int) (x:Ji) (O:aa):ae×aa:=
 if x.Op=2\/x.Op=3 then Ce s.lists O t x.Loc k (pK s.values t x)
 else if x.Op=5 then (Du (Ce s.lists O t x.Loc (k+1) x.Val).1 x.Loc k,(Ce s.lists O t x.Loc (k+1) x.Val).2)
 else (s.lists,O)
def Fy (s:ak) (t:Int) (R:Z33) (q:ae×aa):ak:=
 ⟨⟨s.values.p,Z3b.set s.values.pc t<|Z3b.get s.values.pc t+1,R,s.values.mem⟩,q.1,q.2⟩
def afW (s:ak) (t k:Int) (x:Ji):ak:=Fy s t (xS s t k x)<|zW s t k x<|tQ s t k x
section
variable {p:List (List Ji)} {s:ak}
structure IW (p:List (List Ji)) (s:ak):Prop where
 iv:Iv p s.values
 m0:s.values.mem=⟨0,0,0⟩
 ln:∀ l,0<=l/\l<=2->1<=(ae.get s.lists l).length
 wv:∀ l,0<=l/\l<=2->∀ w∈ae.get s.lists l,(0<=w.value/\w.value<=3)/\∀ j,0<=j/\j<=2->0<=ah.get w.view j/\ah.get w.view j<((ae.get s.lists j).length:Int)
 ow:∀ t:Nat,t<3->∀ j,0<=j/\j<=2->0<=ah.get (aa.get s.own t) j/\ah.get (aa.get s.own t) j<((ae.get s.lists j).length:Int)
def SmL (s:ak):Prop:=∀ l,0<=l/\l<=2->(ae.get s.lists l).length<=13
theorem IW.vbw (h:IW p s) (hs:SmL s) {l:Int} (hl:0<=l/\l<=2) {w:ai} (hw:w∈ae.get s.lists l):VB 254 w.view:=λj hj=>by
 have := (h.wv l hl w hw).2 j hj;have := hs j hj;omega
theorem IW.vbo (h:IW p s) (hs:SmL s) {t:Nat} (ht:t<3):VB 254 (aa.get s.own t):=λj hj=>by
 have := h.ow t ht j hj;have := hs j hj;omega
theorem VB.jo {n:Int} {v o:ah} (hv:VB n v) (ho:VB n o):VB n (joP v o):=λj hj=>by
 have h1:=hv j hj;have h2:=ho j hj;have : j=0\/j=1\/j=2:=by omega
 rcases this with rfl | rfl | rfl
 all_goals
  simp only [ah.get,joP,if_true,if_neg (by decide : ¬ (1:Int)=0),if_neg (by decide : ¬ (2:Int)=0),if_neg (by decide : ¬ (2:Int)=1)] at *;omega
theorem qh (w:List ai) (h:w.length<=13):Jl (aT w) (· = w):=
 ve (λe=>by rw [List.isEmpty_iff.1 e]) (mo<|dM (by simp;omega) rfl)
theorem iW {xs:List ai} {k:Int} {w:ai} (hk:0<=k/\k<=(xs.length:Int)) (h0:0<xs.length) (h1:xs.length<=1000):Jl (cg xs k [w]) (· = xs.take k.toNat++[w]++xs.drop k.toNat):=
 .gdD ⟨hk,h0,h1,rfl⟩ (.pure rfl)
theorem rE {x:Ji} {k:Int} (h0:0<=k) (hk:k<((ae.get s.lists x.Loc).length:Int)):Ep s x k∈ae.get s.lists x.Loc:=by
 unfold Ep;rw [gdq,geq (by omega)];exact NL _
theorem VB.x {n:Int} {O:aa} (h:∀ t:Nat,t<3->VB n (aa.get O t)):VB n O.x0/\VB n O.x1/\VB n O.x2:=⟨h 0 (by omega),h 1 (by omega),h 2<|by omega⟩
theorem xU {u:Jj} {t:Nat} {x:Ji} (ht:t<3) (hr:0<=x.Reg/\x.Reg<=2) (hv:0<=x.Val/\x.Val<=3):Jl (bz u t x) (· = pK u t x):=by
 unfold bz pK;refine .bif (λh => .gdD ⟨by omega,by omega⟩<|.gdD ⟨by omega,by omega⟩<|.pure ?_) λh => .gdY (by omega)<|.pure ?_
 ·rw [if_pos (by simpa using h)]
 rw [if_neg (by simpa using h)]
theorem zX (hp:PV p) (h:IW p s) (hs:SmL s) {m:Int} {t k:Nat} (hm:m.tmod 3=(t:Int)) (hd:m.tdiv 3=(k:Int)) (ht:t<p.length) (hc:m7 s.values t=true) (hx:InR<|iE s.values t) (ho:1<=(iE s.values t).Op/\(iE s.values t).Op<=5)
  (hk:(k:Int)<=13) (hk1:(iE s.values t).Op=1\/(iE s.values t).Op=5->(k:Int)<((ae.get s.lists (iE s.values t).Loc).length:Int)) (hk2:(iE s.values t).Op=2\/(iE s.values t).Op=3->(k:Int)<=((ae.get s.lists (iE s.values t).Loc).length:Int)) :
  Jl (bK s m) (· = afW s t k (iE s.values t)):=by
 have hl:=hp.vs.1;have hs0:=hs 0 (by decide);have hs1:=hs 1 (by decide);have hs2:=hs 2 (by decide);unfold bK;simp only [hm,hd];refine .gdD (by decide)<|(qh _ hs0).bind λv2 e2 => .gdI (by decide)<|.gdD (by decide)<|(qh _ hs1).bind λv8 e8 => .gdI (by decide)<|.gdD (by decide)<|(qh _ hs2).bind λv14 e14 => .gdI (by decide)<|.gdD (by decide)<|.gdI (by omega) ?_;subst e2 e8 e14;refine (xE hp h.iv ht).bind λv ⟨g1,g2⟩ => ?_;have g3:=g2<|g1.trans hc;have hpc:=h.iv.pc t (by omega);have hr7:=hp.vs.2 t;have hval:0<=pK s.values t (iE s.values t)/\pK s.values t (iE s.values t)<=3:=by
  obtain ⟨x1,x2,x3,x4,x5,x6⟩:=hx;unfold pK
  split
  ·obtain ⟨g,hg⟩:=NE x3;rw [hg];exact h.iv.rv t g (by omega) (by omega)
  exact ⟨x5,x6⟩
 rw [<- g3] at hx ho hk1 hk2 hval ⊢;generalize hvx:v.1=x at hx ho hk1 hk2 hval ⊢;have hX:=hx;obtain ⟨x1,x2,x3,x4,x5,x6⟩:=hX;have hn:=h.ln x.Loc ⟨x1,x2⟩;refine .gdD ⟨by omega,by omega⟩ (.gdY (by omega) ?_);refine Jl.bind (P:=λz=>(⟨⟨z.1,z.2.1,z.2.2.1⟩,⟨z.2.2.2.1,z.2.2.2.2.1,z.2.2.2.2.2.1⟩,⟨z.2.2.2.2.2.2.1,z.2.2.2.2.2.2.2.1,z.2.2.2.2.2.2.2.2.1⟩⟩:Z33)=xS s t k x /\
   (⟨⟨z.2.2.2.2.2.2.2.2.2.1,z.2.2.2.2.2.2.2.2.2.2.1,z.2.2.2.2.2.2.2.2.2.2.2.1⟩,⟨z.2.2.2.2.2.2.2.2.2.2.2.2.1,z.2.2.2.2.2.2.2.2.2.2.2.2.2.1,z.2.2.2.2.2.2.2.2.2.2.2.2.2.2.1⟩,⟨z.2.2.2.2.2.2.2.2.2.2.2.2.2.2.2.1,z.2.2.2.2.2.2.2.2.2.2.2.2.2.2.2.2.1,z.2.2.2.2.2.2.2.2.2.2.2.2.2.2.2.2.2.1⟩⟩:aa)=tQ s t k x /\
   z.2.2.2.2.2.2.2.2.2.2.2.2.2.2.2.2.2.2=(s.lists.x0,s.lists.x1,s.lists.x2)) ?_ λz hz=>?_
 ·refine (Bx _).bind λb hb=>?_;have hb':b=rdX x:=hb;refine .bif (λhcb=>?_) λhcb => .pure ⟨?_,?_,rfl⟩
  ·have hrd:x.Op=1\/x.Op=5:=by
    rw [hb'] at hcb;simpa [rdX] using hcb
   refine .gdD ⟨x1,by omega⟩<|.gdD ⟨by omega,hk1 hrd⟩<|.gdD ⟨x3,by omega⟩<|(zV _ _).bind λv30 e30 => .pure ⟨?_,?_,rfl⟩
   ·unfold xS Ep;rw [if_pos (by rw [<- hb'];exact hcb)]
   subst e30;unfold tQ Ep;rw [if_pos (by rw [<- hb'];exact hcb)]
  ·unfold xS;rw [if_neg (by rw [<- hb',hcb];decide)]
  unfold tQ;rw [if_neg (by rw [<- hb',hcb];decide)]
 obtain ⟨hz1,hz2,hz3⟩:=hz;obtain ⟨r0,r1,r2,r3,r4,r5,r6,r7,r8,o0,o1,o2,o3,o4,o5,o6,o7,o8,l0,l1,l2⟩:=z;simp only [NW] at hz1 hz2 hz3;obtain ⟨rfl,rfl,rfl⟩:=hz3;have hvo:∀ u:Nat,u<3->VB 254 (aa.get (tQ s t k x) u):=λu hu=>by
  unfold tQ
  split
  ·rename_i hrd;have hrd:x.Op=1\/x.Op=5:=by simpa [rdX] using hrd
   rw [mX _ _ (by omega) (by omega)]
   split
   ·exact (h.vbo hs<|by omega).jo<|h.vbw hs ⟨x1,x2⟩<|rE (by omega)<|hk1 hrd
   exact h.vbo hs hu
  exact h.vbo hs hu
 unfold afW;rw [<- hz1];rw [<- hz2] at hvo ⊢;obtain ⟨hv0,hv1,hv2⟩:=VB.x hvo;have hloc:x.Loc=0\/x.Loc=1\/x.Loc=2:=by omega
 have hln:∀ (l:Int),0<=l/\l<=2->0<(ae.get s.lists l).length:=λl hl=>h.ln l hl;have mvs:∀ (q:Int),0<=q->True:=λ_ _=>trivial;refine Jl.bind (P:=λy=>((⟨y.2.2.2.2.2.2.2.2.2.1,y.2.2.2.2.2.2.2.2.2.2.1,y.2.2.2.2.2.2.2.2.2.2.2⟩:ae),(⟨⟨y.1,y.2.1,y.2.2.1⟩,⟨y.2.2.2.1,y.2.2.2.2.1,y.2.2.2.2.2.1⟩,⟨y.2.2.2.2.2.2.1,y.2.2.2.2.2.2.2.1,y.2.2.2.2.2.2.2.2.1⟩⟩:aa))=zW s t k x ⟨⟨o0,o1,o2⟩,⟨o3,o4,o5⟩,⟨o6,o7,o8⟩⟩) ?_ λy hy => .pure ?_
 ·refine Jl.bind (P:=(· = tO x)) (.bif (λhc => .pure<|by unfold tO;rw [hc];rfl) λhc => .pure<|by unfold tO;rw [hc];rfl) λb hb=>?_;subst hb;refine .bif (λhst=>?_) λhst => .bif (λh5=>?_) λh5 => .pure ?_
  ·have hop:x.Op=2\/x.Op=3:=by simpa [tO] using hst
   have hkk:=hk2 hop;refine .gdY (by omega)<|(xU (by omega) ⟨x3,x4⟩ ⟨x5,x6⟩).bind λv45 e45=>?_;refine (mY ⟨x1,x2⟩ (λw hw=>h.vbw hs (l:=0) (by decide) hw) (by show (ae.get s.lists 0).length<=_;omega) λz=>by unfold fH;simp only [hvx,hd];rfl).bind λv46 e46=>?_;refine (mY ⟨x1,x2⟩ (λw hw=>h.vbw hs (l:=1) (by decide) hw) (by show (ae.get s.lists 1).length<=_;omega) λz=>by unfold fI;simp only [hvx,hd];rfl).bind λv64 e64=>?_;refine (mY ⟨x1,x2⟩ (λw hw=>h.vbw hs (l:=2) (by decide) hw) (by show (ae.get s.lists 2).length<=_;omega) λz=>by unfold fJ;simp only [hvx,hd];rfl).bind λv82 e82=>?_;refine (j4 ⟨x1,x2⟩ hv0).bind λaD e100=>(j4 ⟨x1,x2⟩ hv1).bind λaG e101=>(j4 ⟨x1,x2⟩ hv2).bind λaH e102 => .gdD ⟨x1,by omega⟩ ?_;subst e45 e46 e64 e82 e100 e101 e102;unfold zW;rw [if_pos hop];obtain ⟨xo,xl,xr,xv⟩:=x;simp only at hloc hkk;rcases hloc with rfl | rfl | rfl
   ·refine .bifD (λ_=>(iW (by rw [llm];exact ⟨by omega,hkk⟩) (by rw [llm];exact hln 0<|by decide)<|by rw [llm];show (ae.get s.lists 0).length<=_;omega).bind λv e => .pure ?_) λhh=>absurd rfl hh;subst e
    rfl
   ·refine .bifD (λhh=>absurd hh<|by simp only [];decide) λ_ => .bifD (λ_=>(iW (by rw [llm];exact ⟨by omega,hkk⟩) (by rw [llm];exact hln 1<|by decide)<|by rw [llm];show (ae.get s.lists 1).length<=_;omega).bind λv e => .pure ?_) λhh=>absurd rfl hh;subst e
    rfl
   refine .bifD (λhh=>absurd hh<|by simp only [];decide) λ_ => .bifD (λhh=>absurd hh<|by simp only [];decide) λ_ => .bifD (λ_=>(iW (by rw [llm];exact ⟨by omega,hkk⟩) (by rw [llm];exact hln 2<|by decide)<|by rw [llm];show (ae.get s.lists 2).length<=_;omega).bind λv e => .pure ?_) λhh=>absurd rfl hh;subst e
   rfl
  ·have hop:x.Op=5:=by simpa using h5
   have hkk:=hk1<|.inr hop;have h23 : ¬ (x.Op=2\/x.Op=3):=by omega
   refine .gdI (by omega)<|.gdY (by omega)<|.gdY (by omega) ?_;refine (mY ⟨x1,x2⟩ (λw hw=>h.vbw hs (l:=0) (by decide) hw) (by show (ae.get s.lists 0).length<=_;omega) λz=>by unfold eT;simp only [hvx,hd];rfl).bind λv123 e123=>?_;refine (mY ⟨x1,x2⟩ (λw hw=>h.vbw hs (l:=1) (by decide) hw) (by show (ae.get s.lists 1).length<=_;omega) λz=>by unfold eU;simp only [hvx,hd];rfl).bind λv141 e141=>?_;refine (mY ⟨x1,x2⟩ (λw hw=>h.vbw hs (l:=2) (by decide) hw) (by show (ae.get s.lists 2).length<=_;omega) λz=>by unfold eX;simp only [hvx,hd];rfl).bind λv159 e159=>?_;refine (j4 ⟨x1,x2⟩ hv0).bind λaD e100=>(j4 ⟨x1,x2⟩ hv1).bind λaG e101=>(j4 ⟨x1,x2⟩ hv2).bind λaH e102 => .gdD ⟨x1,by omega⟩ ?_;subst e123 e141 e159 e100 e101 e102;unfold zW;rw [if_neg h23,if_pos hop];obtain ⟨xo,xl,xr,xv⟩:=x;simp only at hloc hkk;rcases hloc with rfl | rfl | rfl
   ·refine .bifD (λ_=>(iW (by rw [llm];exact ⟨by omega,by show _<=((ae.get s.lists 0).length:Int);omega⟩) (by rw [llm];exact hln 0<|by decide)<|by rw [llm];show (ae.get s.lists 0).length<=_;omega).bind λv e=>?_) λhh=>absurd rfl hh;subst e;refine .gdD ⟨by omega,?_⟩<|.pure rfl;simp only [lla,NH,NQ,llm,llc,NF];have : (ae.get s.lists 0).length=s.lists.x0.length:=rfl;omega
   ·refine .bifD (λhh=>absurd hh<|by simp only [];decide) λ_ => .bifD (λ_=>(iW (by rw [llm];exact ⟨by omega,by show _<=((ae.get s.lists 1).length:Int);omega⟩) (by rw [llm];exact hln 1<|by decide)<|by rw [llm];show (ae.get s.lists 1).length<=_;omega).bind λv e=>?_) λhh=>absurd rfl hh;subst e;refine .gdD ⟨by omega,?_⟩<|.pure rfl;simp only [lla,NH,NQ,llm,llc,NF];have : (ae.get s.lists 1).length=s.lists.x1.length:=rfl;omega
   refine .bifD (λhh=>absurd hh<|by simp only [];decide) λ_ => .bifD (λhh=>absurd hh<|by simp only [];decide) λ_ => .bifD (λ_=>(iW (by rw [llm];exact ⟨by omega,by show _<=((ae.get s.lists 2).length:Int);omega⟩) (by rw [llm];exact hln 2<|by decide)<|by rw [llm];show (ae.get s.lists 2).length<=_;omega).bind λv e=>?_) λhh=>absurd rfl hh;subst e;refine .gdD ⟨by omega,?_⟩<|.pure rfl;simp only [lla,NH,NQ,llm,llc,NF];have : (ae.get s.lists 2).length=s.lists.x2.length:=rfl;omega
  have h23 : ¬ (x.Op=2\/x.Op=3):=by
   intro e;have : tO x=true:=by rcases e with e | e <;> simp [tO,e]
   rw [this] at hst
   cases hst
  unfold zW;rw [if_neg h23,if_neg (by simpa using h5)]
 unfold Fy;rw [<- hy]
end
theorem za (L:ae) (f:ai->ai) (j:Int):ae.get ⟨L.x0.map f,L.x1.map f,L.x2.map f⟩ j=(ae.get L j).map f:=by
 unfold ae.get
 split
 ·rfl
 split <;> rfl
theorem vu (O:aa) (f:ah->ah) (j:Int):aa.get ⟨f O.x0,f O.x1,f O.x2⟩ j=f (aa.get O j):=by
 unfold aa.get
 split
 ·rfl
 split <;> rfl
def OB (L:ae) (O:aa):Prop:=∀ u:Nat,u<3->∀ j,0<=j/\j<=2->0<=ah.get (aa.get O u) j/\ah.get (aa.get O u) j<((ae.get L j).length:Int)
def LB (L:ae):Prop:=(∀ l,0<=l/\l<=2->1<=(ae.get L l).length)/\∀ l,0<=l/\l<=2->∀ w∈ae.get L l,(0<=w.value/\w.value<=3)/\∀ j,0<=j/\j<=2->0<=ah.get w.view j/\ah.get w.view j<((ae.get L j).length:Int)
theorem FA (v:ah) {l:Int} (hl:0<=l/\l<=2) (k:Int) {j:Int} (hj:0<=j/\j<=2):ah.get (mvP v l k) j=if j=l/\k<=ah.get v l then ah.get v l+1 else ah.get v j:=by
 unfold mvP;rw [vp _ _ hl hj]
 by_cases e:j=l
 ·subst e;rw [if_pos rfl]
  by_cases h:k<=ah.get v j
  ·rw [if_pos h,if_pos ⟨rfl,h⟩]
  rw [if_neg h,if_neg λg=>h g.2]
 rw [if_neg e,if_neg λg=>e g.1]
def Cf (L:ae) (l k:Int) (w:ai):ae:=
 ae.set ⟨L.x0.map<|mvW l k,L.x1.map<|mvW l k,L.x2.map<|mvW l k⟩ l (((ae.get L l).map<|mvW l k).take k.toNat++[w]++((ae.get L l).map<|mvW l k).drop k.toNat)
def Er (O:aa) (t l k:Int):aa:=
 aa.set ⟨mvP O.x0 l k,mvP O.x1 l k,mvP O.x2 l k⟩ t (ah.set (mvP (aa.get O t) l k) l k)
theorem vv (L:ae) (O:aa) (t l k v:Int) (ht:0<=t/\t<=2):Ce L O t l k v=(Cf L l k ⟨v,false,ah.set (mvP (aa.get O t) l k) l k⟩,Er O t l k):=by
 unfold Ce Cf Er;simp only [za,vu O (λv=>mvP v l k),mX _ _ ht ht,if_true]
section
variable {L:ae} {O:aa} {t:Nat} {l k v:Int}
theorem vz (hl:0<=l/\l<=2) (w:ai) {j:Int} (hj:0<=j/\j<=2):ae.get (Cf L l k w) j=if j=l then ((ae.get L l).map<|mvW l k).take k.toNat++[w]++((ae.get L l).map<|mvW l k).drop k.toNat else (ae.get L j).map (mvW l k):=by
 unfold Cf;rw [vq _ _ hl hj,za]
theorem oU (hl:0<=l/\l<=2) (w:ai) {j:Int} (hj:0<=j/\j<=2):(ae.get (Cf L l k w) j).length=(ae.get L j).length+if j=l then 1 else 0:=by
 rw [vz hl w hj]
 split
 ·rename_i e;subst e;simp only [lla,NH,NQ,llm,llc,NF];omega
 simp
theorem Dv (ht:t<3) (hl:0<=l/\l<=2) {u:Nat} (hu:u<3) {j:Int} (hj:0<=j/\j<=2):ah.get (aa.get (Er O t l k) u) j=if u=t/\j=l then k else ah.get (mvP (aa.get O u) l k) j:=by
 unfold Er;rw [mX _ _ (by omega) (by omega),vu O (λv=>mvP v l k)]
 by_cases e:u=t
 ·subst e;rw [if_pos rfl,vp _ _ hl hj]
  by_cases g:j=l
  ·rw [if_pos g,if_pos ⟨rfl,g⟩]
  rw [if_neg g,if_neg λh=>g h.2]
 rw [if_neg (by omega),if_neg λh=>e h.1]
theorem G5 {w:ah} (hl:0<=l/\l<=2) (hw:∀ j,0<=j/\j<=2->0<=ah.get w j/\ah.get w j<((ae.get L j).length:Int)) (x:ai) {j:Int} (hj:0<=j/\j<=2):0<=ah.get (mvP w l k) j/\ah.get (mvP w l k) j<((ae.get (Cf L l k x) j).length:Int):=by
 rw [oU hl x hj,FA _ hl k hj];have h1:=hw j hj;have h2:=hw l hl
 split
 ·rename_i h;rw [if_pos h.1,h.1];omega
 split <;> omega
theorem Cg (hO:OB L O) (ht:t<3) (hl:0<=l/\l<=2) (hk:0<=k/\k<=((ae.get L l).length:Int)) (x:ai):OB (Cf L l k x) (Er O t l k):=λu hu j hj=>by
 rw [Dv ht hl hu hj]
 split
 ·rename_i h;rw [oU hl x hj,if_pos h.2,h.2];omega
 exact G5 hl (hO u hu) x hj
theorem Es (hL:LB L) (hO:OB L O) (ht:t<3) (hl:0<=l/\l<=2) (hk:0<=k/\k<=((ae.get L l).length:Int)) (hv:0<=v/\v<=3):LB (Cf L l k ⟨v,false,ah.set (mvP (aa.get O t) l k) l k⟩):=by
 have old:∀ (x:ai) (i:Int),0<=i/\i<=2->∀ w∈(ae.get L i).map (mvW l k),(0<=w.value/\w.value<=3)/\∀ j,0<=j/\j<=2->0<=ah.get w.view j/\ah.get w.view j<((ae.get (Cf L l k x) j).length:Int):=λx i hi w hw=>by
  obtain ⟨w0,h1,rfl⟩:=NP.1 hw;have h2:=hL.2 i hi w0 h1;exact ⟨h2.1,λj hj=>G5 hl h2.2 x hj⟩
 refine ⟨λj hj=>?_,λi hi w hw=>?_⟩
 ·rw [oU hl _ hj];have := hL.1 j hj;omega
 rw [vz hl _ hi] at hw
 split at hw
 ·rename_i e;subst e;rcases NM.1 hw with hw | hw
  ·rcases NM.1 hw with hw | hw
   ·exact old _ i hi w<|List.mem_of_mem_take hw
   rw [NS.1 hw];refine ⟨hv,λj hj=>?_⟩;have := Cg hO ht hi hk ⟨v,false,ah.set (mvP (aa.get O t) i k) i k⟩ t ht j hj;unfold Er at this;rw [mX _ _ (by omega) (by omega),if_pos rfl] at this;exact this
  exact old _ i hi w<|List.mem_of_mem_drop hw
 exact old _ i hi w hw
theorem zb (hl:0<=l/\l<=2) {j:Int} (hj:0<=j/\j<=2):ae.get (Du L l k) j=if j=l then (ae.get L l).set k.toNat { ((ae.get L l).getD k.toNat default) with taken:=true } else ae.get L j:=by
 unfold Du;rw [vq _ _ hl hj]
theorem vA (hl:0<=l/\l<=2) {j:Int} (hj:0<=j/\j<=2):(ae.get (Du L l k) j).length=(ae.get L j).length:=by
 rw [zb hl hj]
 split
 ·rename_i e;subst e;rw [List.length_set]
 rfl
theorem G6 (hL:LB L) (hl:0<=l/\l<=2) (hk:0<=k/\k<((ae.get L l).length:Int)):LB (Du L l k):=by
 refine ⟨λj hj=>by rw [vA hl hj];exact hL.1 j hj,λi hi w hw=>?_⟩;have key:∃ w0∈ae.get L i,w.value=w0.value/\w.view=w0.view:=by
  rw [zb hl hi] at hw
  split at hw
  ·rename_i e;subst e;rcases List.mem_or_eq_of_mem_set hw with hw | rfl
   ·exact ⟨w,hw,rfl,rfl⟩
   refine ⟨(ae.get L i).getD k.toNat default,?_,rfl,rfl⟩;rw [gdq,geq (by omega)];exact NL _
  exact ⟨w,hw,rfl,rfl⟩
 obtain ⟨w0,h1,h2,h3⟩:=key;have h4:=hL.2 i hi w0 h1;rw [h2,h3];exact ⟨h4.1,λj hj=>by rw [vA hl hj];exact h4.2 j hj⟩
theorem G7 (hO:OB L O) (hl:0<=l/\l<=2):OB (Du L l k) O:=λu hu j hj=>by rw [vA hl hj];exact hO u hu j hj
end
section
variable {p:List (List Ji)} {s:ak}
theorem IW.lb (h:IW p s):LB s.lists:=⟨h.ln,h.wv⟩
theorem IW.ob (h:IW p s):OB s.lists s.own:=h.ow
theorem G8 (v o:ah) {j:Int} (hj:0<=j/\j<=2):ah.get (joP v o) j=max (ah.get v j) (ah.get o j):=by
 have : j=0\/j=1\/j=2:=by omega
 rcases this with rfl | rfl | rfl <;> rfl
def wN (s:ak) (t:Nat) (x:Ji) (k:Nat):Prop:=
 (x.Op=4/\k=0)\/(x.Op=1/\ah.get (aa.get s.own t) x.Loc<=k/\k<(ae.get s.lists x.Loc).length) \/
 (x.Op=5/\ah.get (aa.get s.own t) x.Loc<=k/\k<(ae.get s.lists x.Loc).length/\((ae.get s.lists x.Loc).getD k default).taken=false) \/
 ((x.Op=2\/x.Op=3)/\ah.get (aa.get s.own t) x.Loc<k/\k<=(ae.get s.lists x.Loc).length/\((ae.get s.lists x.Loc).getD (k-1) default).taken=false)
theorem FB (h:IW p s) {t:Nat} (ht:t<3) {x:Ji} (hx:InR x):0<=pK s.values t x/\pK s.values t x<=3:=by
 obtain ⟨x1,x2,x3,x4,x5,x6⟩:=hx;unfold pK
 split
 ·obtain ⟨g,hg⟩:=NE x3;rw [hg];exact h.iv.rv t g ht (by omega)
 exact ⟨x5,x6⟩
theorem Et (h:IW p s) {t k:Nat} (ht:t<3) {x:Ji} (hx:InR x) (hk:rdX x=true->k<(ae.get s.lists x.Loc).length):OB s.lists (tQ s t k x):=λu hu j hj=>by
 unfold tQ
 split
 ·rename_i hr;rw [mX _ _ (by omega) (by omega)]
  split
  ·rw [G8 _ _ hj];have h1:=h.ow t ht j hj;have h2:=(h.wv x.Loc ⟨hx.1,hx.2.1⟩ _<|rE (k:=(k:Int)) (by omega) (by have := hk hr;omega)).2 j hj;omega
  exact h.ow u hu j hj
 exact h.ow u hu j hj
theorem wN.rd {t k:Nat} {x:Ji} (h:wN s t x k) (hr:rdX x=true):k<(ae.get s.lists x.Loc).length:=by
 have : x.Op=1\/x.Op=5:=by simpa [rdX] using hr
 rcases h with ⟨h,_⟩ | ⟨h,_,h2⟩ | ⟨h,_,h2,_⟩ | ⟨h,_⟩
 ·omega
 ·exact h2
 ·exact h2
 omega
theorem Dw (h:IW p s) {t k:Nat} (ht:t<3) (hc:m7 s.values t=true) {x:Ji} (hx:InR x) (hk:wN s t x k):IW p (afW s t k x):=by
 have hX:=hx;obtain ⟨x1,x2,x3,x4,x5,x6⟩:=hX;have hO:=Et h ht hx hk.rd;have hv:=FB h ht hx;have hq:LB (zW s t k x<|tQ s t k x).1/\OB (zW s t k x<|tQ s t k x).1 (zW s t k x<|tQ s t k x).2:=by
  unfold zW
  split
  ·rename_i hop;have hkk:(k:Int)<=((ae.get s.lists x.Loc).length:Int):=by
    rcases hk with ⟨h,_⟩ | ⟨h,_⟩ | ⟨h,_⟩ | ⟨_,_,h2,_⟩ <;> omega
   rw [vv _ _ _ _ _ _ (by omega)];exact ⟨Es h.lb hO ht ⟨x1,x2⟩ ⟨by omega,hkk⟩ hv,Cg hO ht ⟨x1,x2⟩ ⟨by omega,hkk⟩ _⟩
  split
  ·rename_i hop;have hkk:(k:Int)+1<=((ae.get s.lists x.Loc).length:Int):=by
    have := hk.rd (by simp [rdX,hop]);omega
   rw [vv _ _ _ _ _ _ (by omega)];have h1:=Es (v:=x.Val) h.lb hO ht ⟨x1,x2⟩ (k:=(k:Int)+1) ⟨by omega,hkk⟩ ⟨x5,x6⟩;refine ⟨G6 h1 ⟨x1,x2⟩ ⟨by omega,?_⟩,G7 (Cg hO ht ⟨x1,x2⟩ ⟨by omega,hkk⟩ _) ⟨x1,x2⟩⟩;rw [oU ⟨x1,x2⟩ _ ⟨x1,x2⟩];omega
  exact ⟨h.lb,hO⟩
 refine ⟨⟨h.iv.up,λu hu=>?_,λu g hu hg=>?_,h.iv.mv⟩,h.m0,hq.1.1,hq.1.2,hq.2⟩
 ·show 0<=Z3b.get (Z3b.set s.values.pc t<|Z3b.get s.values.pc t+1) u/\Z3b.get (Z3b.set s.values.pc t<|Z3b.get s.values.pc t+1) u<=_;rw [ju _ _ _ _ (by omega) (by omega)];have h1:=h.iv.pc u hu
  split
  ·rename_i e;obtain rfl:u=t:=by omega
   unfold m7 at hc;rw [h.iv.up] at hc;have := of_decide_eq_true hc;omega
  exact h1
 show 0<=Z3b.get (Z33.get (xS s t k x) u) g/\Z3b.get (Z33.get (xS s t k x) u) g<=3;unfold xS
 split
 ·rename_i hr;rw [oO _ _ _ _ (by omega) (by omega)]
  split
  ·rw [ju _ _ _ _ ⟨x3,x4⟩ (by omega)]
   split
   ·exact (h.wv x.Loc ⟨x1,x2⟩ _<|rE (k:=(k:Int)) (by omega) (by have := hk.rd hr;omega)).1
   exact h.iv.rv t g ht hg
  exact h.iv.rv u g hu hg
 exact h.iv.rv u g hu hg
theorem FC {w:ai} {l:Int} (hl:0<=l/\l<=2) (hw:VB 254 w.view) (k:Nat):sK (mvW l k w)=mvM l k (sK w):=by
 unfold sK mvW mvM;simp only [yZ hl hw k]
theorem G9 {l:Int} {k:Nat} (hk:1<=k):mvV l k (λ_=>0)=λ_=>0:=by
 unfold mvV;rw [if_neg (by simp only [];omega)];exact GG _ _
theorem qH (L:ae) {l:Int} (hl:0<=l/\l<=2):liF L l=(ae.get L l).map sK:=if_pos hl
theorem FD {L:ae} {l:Int} {k:Nat} (hl:0<=l/\l<=2) (hk:1<=k) (hb:∀ j,0<=j/\j<=2->∀ w∈ae.get L j,VB 254 w.view) (w:ai) :
  liF (Cf L l k w)=ud (λl'=>(liF L l').map<|mvM l k) l (((liF L l).map<|mvM l k).take k++sK w::((liF L l).map<|mvM l k).drop k):=by
 have key:∀ j,0<=j/\j<=2->((ae.get L j).map<|mvW l k).map sK=(liF L j).map (mvM l k):=λj hj=>by
  rw [qH L hj,List.map_map,List.map_map];exact Od λw hw=>FC hl (hb j hj w hw) k
 funext j
 rw [mG]
 by_cases hj:0<=j/\j<=2
 ·rw [qH _ hj,vz hl w hj]
  by_cases e:j=l
  ·subst e;rw [if_pos rfl,if_pos rfl,NY,NY,List.map_take,List.map_drop,key j hj,tnn,Nz]
   rfl
  rw [if_neg e,if_neg e,key j hj]
 have : j≠l:=λe=>hj (by rw [e];exact hl);rw [if_neg this];unfold liF;rw [if_neg hj,if_neg hj];simp [mvM,G9 hk]
theorem qI (O:aa) {t:Nat} (ht:t<3):owF O t=vwF (aa.get O t):=if_pos ht
theorem FE {O:aa} {t:Nat} {l:Int} {k:Nat} (ht:t<3) (hl:0<=l/\l<=2) (hk:1<=k) (hb:∀ u:Nat,u<3->VB 254 (aa.get O u)) :
  owF (Er O t l k)=ud (λu=>mvV l k<|owF O u) t (ud (owF O t) l k):=by
 funext u
 unfold Er;rw [Cc _ ht,mG,mG]
 by_cases e:u=t
 ·rw [if_pos e,if_pos e,xQ _ hl,yZ hl (hb t ht),qI O ht];unfold mvV;rw [wH,tnn]
 rw [if_neg e,if_neg e]
 by_cases hu:u<3
 ·rw [qI _ hu,qI _ hu,vu O (λv=>mvP v l k),yZ hl (hb u hu)]
 unfold owF;rw [if_neg hu,if_neg hu,G9 hk]
theorem Ch {v:ah} {l:Int} {k:Nat} (hl:0<=l/\l<=2) (hv:VB 254 v):vwF (ah.set (mvP v l k) l k)=ud (vwF v) l k:=by
 rw [xQ _ hl,yZ hl hv];unfold mvV;rw [wH,tnn]
theorem Eu {L:ae} {O:aa} {t:Nat} {l:Int} {k:Nat} {v:Int} (ht:t<3) (hl:0<=l/\l<=2) (hk:1<=k) (hb:∀ j,0<=j/\j<=2->∀ w∈ae.get L j,VB 254 w.view) (hO:∀ u:Nat,u<3->VB 254 (aa.get O u)) (pc:Nat->Nat) (rg:Nat->Int->Int) :
  (⟨pc,rg,liF (Ce L O t l k v).1,owF (Ce L O t l k v).2⟩:RS)=CH ⟨pc,rg,liF L,owF O⟩ t l k v:=by
 rw [vv _ _ _ _ _ _ (by omega)];unfold CH;refine RS.ext rfl rfl ?_ ?_
 ·simp only;rw [FD hl hk hb]
  congr 3
  unfold sK;simp only;rw [Ch hl (hO t ht),qI O ht]
 exact FE ht hl hk hO
theorem FG {L:ae} {l:Int} {k:Nat} (hl:0<=l/\l<=2) (hk:k<(ae.get L l).length):liF (Du L l k)=ud (liF L) l ((liF L l).modify k lkM):=by
 unfold Du;rw [Fx _ hl,qH L hl]
 congr 1
 rw [tnn,gdq,geq hk,Option.getD_some];refine Oe λi=>?_;rw [Og,List.getElem?_modify,List.getElem?_set,Og]
 by_cases e:k=i
 ·subst e;rw [if_pos rfl,if_pos hk];simp [hk,sK,lkM]
 rw [if_neg e];simp only [if_neg e]
 cases (ae.get L l)[i]? <;> rfl
end
section
variable {p:List (List Ji)} {s:ak}
theorem ze (h:IW p s) {t:Nat} (ht:t<3) (R:Z33) (q:ae×aa):AW (Fy s t R q)=⟨ud (AW s).pc t<|(AW s).pc t+1,rgF R,liF q.1,owF q.2⟩:=by
 have h1:=h.iv.pc t ht;refine RS.ext ?_ rfl rfl rfl;show pcF (Z3b.set s.values.pc t _)=ud (pcF s.values.pc) t (pcF s.values.pc t+1);rw [xJ _ ht]
 congr 1
 have : pcF s.values.pc t=(Z3b.get s.values.pc t).toNat:=if_pos ht;rw [this];omega
theorem Ev {t k:Nat} {x:Ji} (ht:t<3) (hx:InR x) (hr:rdX x=true):rgF (xS s t k x)=ud (rgF s.values.reg) t (ud (rgF s.values.reg t) x.Reg (Ep s x k).value):=by
 unfold xS;rw [if_pos hr];exact xK _ ht ⟨hx.2.2.1,hx.2.2.2.1⟩ _
theorem Ew (h:IW p s) (hs:SmL s) {t k:Nat} {x:Ji} (ht:t<3) (hx:InR x) (hr:rdX x=true) (hk:k<(ae.get s.lists x.Loc).length):owF (tQ s t k x)=ud (owF s.own) t (joV (owF s.own t)<|vwF (Ep s x k).view):=by
 unfold tQ;rw [if_pos hr,Cc _ ht,G3 (h.vbo hs ht) (h.vbw hs ⟨hx.1,hx.2.1⟩<|rE (k:=(k:Int)) (by omega)<|by omega),qI _ ht]
theorem Ha {x:Ji} (hx:InR x) {k:Nat}:(AW s).li x.Loc=(ae.get s.lists x.Loc).map sK:=qH _ ⟨hx.1,hx.2.1⟩
theorem zf {x:Ji} (hx:InR x) {k:Nat} (hk:k<(ae.get s.lists x.Loc).length):((AW s).li x.Loc)[k]? = some (sK<|(ae.get s.lists x.Loc).getD k default):=by
 rw [Ha (k:=k) hx,Og,geq hk,gdq,geq hk]
 rfl
theorem Dx {x:Ji} (hx:InR x) {t:Nat} (ht:t<3):(AW s).ow t x.Loc=(ah.get (aa.get s.own t) x.Loc).toNat:=by
 show owF s.own t x.Loc=_;rw [qI _ ht];exact if_pos ⟨hx.1,hx.2.1⟩
theorem Ex (h:IW p s) {t:Nat} (ht:t<3) {x:Ji} (o:x.Op=4) (k:Nat):AW (afW s t k x)=pcR (AW s) t:=by
 have hr : ¬ rdX x=true:=by simp [rdX,o]
 have e:afW s t k x=Fy s t s.values.reg (s.lists,s.own):=by
  unfold afW zW xS tQ;rw [if_neg hr,if_neg hr,if_neg (by omega),if_neg (by omega)]
 rw [e,ze h ht]
 rfl
theorem Hd (h:IW p s) (hs:SmL s) {t k:Nat} (ht:t<3) {x:Ji} (hx:InR x) (o:x.Op=1) (hk:k<(ae.get s.lists x.Loc).length):AW (afW s t k x)=rdR (AW s) t x (sK<|(ae.get s.lists x.Loc).getD k default):=by
 have hr:rdX x=true:=by simp [rdX,o]
 have e:afW s t k x=Fy s t (xS s t k x) (s.lists,tQ s t k x):=by
  unfold afW zW;rw [if_neg (by omega),if_neg (by omega)]
 rw [e,ze h ht,Ev ht hx hr,Ew h hs ht hx hr hk]
 rfl
theorem H4 (h:IW p s) (hs:SmL s):∀ j,0<=j/\j<=2->∀ w∈ae.get s.lists j,VB 254 w.view:=λ_ hj _ hw=>h.vbw hs hj hw
theorem IR (hs:SmL s) {O:aa} (h:OB s.lists O):∀ u:Nat,u<3->VB 254 (aa.get O u):=λu hu j hj=>by
 have h1:=h u hu j hj;have h2:=hs j hj;omega
theorem Ip {t:Nat} (ht:t<3) {x:Ji} (hx:InR x):pK s.values t x=GX (AW s) t x:=by
 unfold pK GX
 split
 ·show _=rgF s.values.reg t x.Reg;rw [wJ,if_pos ⟨ht,hx.2.2.1,hx.2.2.2.1⟩]
 rfl
theorem He (h:IW p s) (hs:SmL s) {t k:Nat} (ht:t<3) {x:Ji} (hx:InR x) (o:x.Op=2\/x.Op=3):AW (afW s t ((k+1:Nat):Int) x)=CH (pcR (AW s) t) t x.Loc (k+1) (GX (AW s) t x):=by
 have hr : ¬ rdX x=true:=by rcases o with o | o <;> simp [rdX,o]
 have e:afW s t ((k+1:Nat):Int) x=Fy s t s.values.reg (Ce s.lists s.own t x.Loc ((k+1:Nat):Int)<|pK s.values t x):=by
  unfold afW zW xS tQ;rw [if_neg hr,if_neg hr,if_pos o]
 rw [e,ze h ht,Eu ht ⟨hx.1,hx.2.1⟩ (by omega) (H4 h hs) (IR hs h.ob),Ip ht hx]
 rfl
theorem Hf (h:IW p s) (hs:SmL s) {t k:Nat} (ht:t<3) {x:Ji} (hx:InR x) (o:x.Op=5) (hk:k<(ae.get s.lists x.Loc).length) :
  AW (afW s t k x)=lkR (CH (rdR (AW s) t x<|sK<|(ae.get s.lists x.Loc).getD k default) t x.Loc (k+1) x.Val) x.Loc k:=by
 have hr:rdX x=true:=by simp [rdX,o]
 have e:afW s t k x=Fy s t (xS s t k x) (Du (Ce s.lists (tQ s t k x) t x.Loc ((k+1:Nat):Int) x.Val).1 x.Loc k,(Ce s.lists (tQ s t k x) t x.Loc ((k+1:Nat):Int) x.Val).2):=by
  unfold afW zW;rw [if_neg (by omega),if_pos o]
  rfl
 have hO:=Et h ht hx (k:=k) λ_=>hk;have hins:=Eu (L:=s.lists) (O:=tQ s t k x) (t:=t) (l:=x.Loc) (k:=k+1) (v:=x.Val) ht ⟨hx.1,hx.2.1⟩ (by omega) (H4 h hs) (IR hs hO) (ud (AW s).pc t<|(AW s).pc t+1)<|rgF<|xS s t k x;have hlen:k<(ae.get (Ce s.lists (tQ s t k x) t x.Loc ((k+1:Nat):Int) x.Val).1 x.Loc).length:=by
  rw [vv _ _ _ _ _ _ (by omega)];show k<(ae.get (Cf _ _ _ _) _).length;rw [oU ⟨hx.1,hx.2.1⟩ _ ⟨hx.1,hx.2.1⟩];omega
 rw [e,ze h ht];simp only;rw [FG ⟨hx.1,hx.2.1⟩ hlen];have e2:(⟨ud (AW s).pc t<|(AW s).pc t+1,rgF<|xS s t k x,liF s.lists,owF<|tQ s t k x⟩:RS)=rdR (AW s) t x (sK<|(ae.get s.lists x.Loc).getD k default):=by
  rw [Ev ht hx hr,Ew h hs ht hx hr hk]
  rfl
 rw [e2] at hins;rw [<- hins]
 rfl
theorem FH (h:IW p s) (hs:SmL s) {t k:Nat} (ht:t<3) (hc:m7 s.values t=true) (hx:InR<|iE s.values t) (hk:wN s t (iE s.values t) k):StR (prg p) (AW s) (AW<|afW s t k<|iE s.values t):=by
 have hp:=(iR h.iv.up ht (h.iv.pc t ht).1).1 hc;have how:=Dx (s:=s) hx ht;have h0:=(h.ow t ht _ ⟨hx.1,hx.2.1⟩).1;rcases hk with ⟨o,rfl⟩ | ⟨o,k1,k2⟩ | ⟨o,k1,k2,k3⟩ | ⟨o,k1,k2,k3⟩
 ·rw [Ex h ht o];exact .fen hp o
 ·rw [Hd h hs ht hx o k2];exact .ld (k:=k) hp o (by rw [how];omega) (zf hx k2)
 ·rw [Hf h hs ht hx o k2];exact .sw (k:=k) hp o (by rw [how];omega) (zf hx k2) k3
 obtain ⟨j,rfl⟩:∃ j,k=j+1:=⟨k-1,by omega⟩;rw [He h hs ht hx o];exact .st (k:=j) hp o (by rw [how];omega) (zf hx<|by omega) k3
theorem FI (h:IW p s) (hs:SmL s) (hp:∀ (t k:Nat) (x:Ji),(prg p t)[k]? = some x->InR x) (h3:p.length<=3) {b:RS} (hb:StR (prg p) (AW s) b):∃ t k:Nat,t<p.length/\m7 s.values t=true/\wN s t (iE s.values t) k/\AW (afW s t k<|iE s.values t)=b:=by
 have get:∀ {t:Nat} {x:Ji},(prg p t)[(AW s).pc t]? = some x->t<p.length/\m7 s.values t=true/\x=iE s.values t/\InR x/\t<3:=λ{t x} hx=>by
  have ht:=wL hx;obtain ⟨e1,e2⟩:=(iR h.iv.up (by omega:t<3) (h.iv.pc t<|by omega).1).2 x hx;exact ⟨ht,e1,e2,hp _ _ _ hx,by omega⟩
 have len:∀ {x:Ji} {k:Nat} {m:Ms},InR x->((AW s).li x.Loc)[k]? = some m->k<(ae.get s.lists x.Loc).length/\m=sK ((ae.get s.lists x.Loc).getD k default):=λ{x k m} hx hm=>by
  have h1:=(ges hm).1;rw [Ha (k:=k) hx,llm] at h1;refine ⟨h1,?_⟩;rw [zf hx h1] at hm;exact (osl hm).symm
 cases hb with
 | @fen t x h1 o=>
  obtain ⟨g1,g2,rfl,g4,g5⟩:=get h1;exact ⟨t,0,g1,g2,.inl ⟨o,rfl⟩,Ex h g5 o 0⟩
 | @ld t k x m h1 o hk hm=>
  obtain ⟨g1,g2,rfl,g4,g5⟩:=get h1;obtain ⟨k2,rfl⟩:=len g4 hm;have h0:=(h.ow t g5 _ ⟨g4.1,g4.2.1⟩).1;rw [Dx g4 g5] at hk;exact ⟨t,k,g1,g2,.inr<|.inl ⟨o,by omega,k2⟩,Hd h hs g5 g4 o k2⟩
 | @st t k x m h1 o hk hm hl=>
  obtain ⟨g1,g2,rfl,g4,g5⟩:=get h1;obtain ⟨k2,rfl⟩:=len g4 hm;have h0:=(h.ow t g5 _ ⟨g4.1,g4.2.1⟩).1;rw [Dx g4 g5] at hk;exact ⟨t,k+1,g1,g2,.inr<|.inr<|.inr ⟨o,by omega,by omega,hl⟩,He h hs g5 g4 o⟩
 | @sw t k x m h1 o hk hm hl=>
  obtain ⟨g1,g2,rfl,g4,g5⟩:=get h1;obtain ⟨k2,rfl⟩:=len g4 hm;have h0:=(h.ow t g5 _ ⟨g4.1,g4.2.1⟩).1;rw [Dx g4 g5] at hk;exact ⟨t,k,g1,g2,.inr<|.inr<|.inl ⟨o,by omega,k2,hl⟩,Hf h hs g5 g4 o k2⟩
end
section
variable {p:List (List Ji)} {s:ak}
theorem zY (hp:PV p) (h:IW p s) (hs:SmL s) {t:Nat} (ht:t<p.length) (hx:m7 s.values t=true->InR (iE s.values t)) (ho:m7 s.values t=true->1<=(iE s.values t).Op/\(iE s.values t).Op<=5) :
  Jl (eQ s t) λv=>(∀ k:Int,k∈v↔∃ n:Nat,k=n/\m7 s.values t=true/\wN s t (iE s.values t) n)/\v.length<=14:=by
 have hl:=hp.vs.1;unfold eQ;refine (xE hp h.iv ht).bind λv ⟨g1,g2⟩ => .bif (λhb => .pure ?_) λhb=>?_
 ·have : m7 s.values t=false:=by rw [<- g1];simpa using hb
  refine ⟨λk=>?_,by decide⟩;rw [this];simp
 have hc:m7 s.values t=true:=by rw [<- g1];simpa using hb
 have g3:=g2<|g1.trans hc;have hx:=hx hc;have ho:=ho hc;rw [<- g3] at hx ho ⊢;generalize hvx:v.1=x at hx ho ⊢;obtain ⟨x1,x2,_,_,_,_⟩:=hx;refine .bif (λh4 => .pure ?_) λh4 => .gdD ⟨x1,by omega⟩<|.gdD ⟨by omega,by omega⟩ ?_
 ·have h4:x.Op=4:=by simpa using h4
  refine ⟨λk=>?_,by simp⟩;rw [NS];refine ⟨λe=>⟨0,e,hc,.inl ⟨h4,rfl⟩⟩,λ⟨n,e,_,hk⟩ => ?_⟩;rcases hk with ⟨_,rfl⟩ | ⟨o,_⟩ | ⟨o,_⟩ | ⟨o,_⟩
  ·exact e
  ·omega
  ·omega
  omega
 have h4:x.Op≠4:=by simpa using h4
 have hln:=hs x.Loc ⟨x1,x2⟩;have hse:=h.ow t (by omega) x.Loc ⟨x1,x2⟩;have hfin:∀ n:Nat,wN s t x n->ah.get (aa.get s.own t) x.Loc<=n/\n<=(ae.get s.lists x.Loc).length:=λn hk=>by
  rcases hk with ⟨o,_⟩ | ⟨_,k1,k2⟩ | ⟨_,k1,k2,_⟩ | ⟨_,k1,k2,_⟩ <;> omega
 refine .gdI (by omega) (Jl.bind ?_ λv hv => .pure hv);refine Jl.loop (λz=>(ah.get (aa.get s.own t) x.Loc<=z.2/\z.2<=((ae.get s.lists x.Loc).length:Int)+1)/\(∀ k:Int,k∈z.1↔∃ n:Nat,k=n/\k<z.2/\wN s t x n)/\(z.1.length:Int)<=z.2) (λz=>(((ae.get s.lists x.Loc).length:Int)+1-z.2).toNat) ⟨⟨ND _,by simp only [];omega⟩,λk=>⟨λhk=>by simp at hk,λ⟨n,e,hk,hp⟩=>by
  have := (hfin n hp).1;simp only at hk;omega⟩,by simpa using hse.1⟩ λz ⟨⟨h1,h2⟩,h3,h5⟩ => ?_
 obtain ⟨l,i⟩:=z;simp only at h1 h2 h3 h5;obtain ⟨n,rfl⟩:=NE (show 0<=i by omega);unfold eP;simp only [hvx];refine .bifD (λhle=>?_) λhge => .pure ⟨λk=>?_,by omega⟩
 ·refine Jl.bind (P:=λv:LI=>(∀ k:Int,k∈v↔∃ m:Nat,k=m/\k<(n:Int)+1/\wN s t x m)/\v.length<=l.length+1) ?_ λv ⟨hv1,hv2⟩ => .gdI (by omega)<|.pure ⟨⟨⟨by omega,by omega⟩,hv1,by simp only [];omega⟩,by simp only [];omega⟩;refine Jl.bind (P:=λb:Bool=>b=true↔wN s t x n) ?_ λb hb => .bif (λhbt => .gd (dM (by omega) rfl)<|.pure ⟨λk=>?_,by simp⟩) λhbf => .pure ⟨λk=>?_,by omega⟩
  ·refine .bif (λo => .pure ?_) λo1 => .bif (λo=>Jl.bind (P:=λb:Bool=>b=true↔wN s t x n) ?_ λv hv => .pure hv) λo5=>Jl.bind (P:=λb:Bool=>b=true↔wN s t x n) ?_ λv hv => .pure hv
   ·have o:x.Op=1:=by simpa using o
    rw [dte];refine ⟨λhk => .inr<|.inl ⟨o,h1,by omega⟩,λhk=>?_⟩;rcases hk with ⟨o',_⟩ | ⟨_,_,k2⟩ | ⟨o',_⟩ | ⟨o',_⟩
    ·omega
    ·omega
    ·omega
    omega
   ·have o:x.Op=5:=by simpa using o
    refine .bifD (λhk => .gdD ⟨by omega,hk⟩<|.pure ?_) λhk => .pure ?_
    ·rw [tnn,Bool.not_eq_true'];refine ⟨λhk2 => .inr<|.inr<|.inl ⟨o,h1,by omega,hk2⟩,λhk=>?_⟩;rcases hk with ⟨o',_⟩ | ⟨o',_⟩ | ⟨_,_,_,k3⟩ | ⟨o',_⟩
     ·omega
     ·omega
     ·exact k3
     omega
    refine ⟨λhh=>Bool.noConfusion hh,λhk2=>?_⟩;rcases hk2 with ⟨o',_⟩ | ⟨o',_⟩ | ⟨_,_,k2,_⟩ | ⟨o',_⟩
    ·omega
    ·omega
    ·omega
    omega
   have o1:x.Op≠1:=by simpa using o1
   have o5:x.Op≠5:=by simpa using o5
   have o:x.Op=2\/x.Op=3:=by omega
   refine .bifD (λhk => .gdI (by omega)<|.gdD ⟨by omega,by omega⟩<|.pure ?_) λhk => .pure ?_
   ·rw [show ((n:Int)-1).toNat=n-1 by omega,Bool.not_eq_true'];refine ⟨λhk2 => .inr<|.inr<|.inr ⟨o,hk,by omega,hk2⟩,λhk=>?_⟩;rcases hk with ⟨o',_⟩ | ⟨o',_⟩ | ⟨o',_⟩ | ⟨_,_,_,k3⟩
    ·omega
    ·omega
    ·omega
    exact k3
   refine ⟨λhh=>Bool.noConfusion hh,λhk2=>?_⟩;rcases hk2 with ⟨o',_⟩ | ⟨o',_⟩ | ⟨o',_⟩ | ⟨_,k1,_,_⟩
   ·omega
   ·omega
   ·omega
   exact absurd k1 hk
  ·rw [NM,h3,NS]
   constructor
   ·rintro (⟨m,e,hm,hk⟩ | e)
    ·exact ⟨m,e,by omega,hk⟩
    exact ⟨n,e,by omega,hb.1 hbt⟩
   rintro ⟨m,e,hm,hk⟩
   by_cases g:m=n
   ·exact .inr (by rw [e,g])
   exact .inl ⟨m,e,by omega,hk⟩
  rw [h3]
  constructor
  ·rintro ⟨m,e,hm,hk⟩;exact ⟨m,e,by omega,hk⟩
  rintro ⟨m,e,hm,hk⟩;refine ⟨m,e,?_,hk⟩;have : m≠n:=λg=>by
   rw [g] at hk;rw [hb.2 hk] at hbf
   cases hbf
  omega
 rw [h3]
 constructor
 ·rintro ⟨m,e,_,hk⟩;exact ⟨m,e,hc,hk⟩
 rintro ⟨m,e,_,hk⟩;have := (hfin m hk).2;exact ⟨m,e,by omega,hk⟩
theorem kT (hp:PV p) (h:IW p s) (hs:SmL s) (hx:∀ t,t<p.length->m7 s.values t=true->InR (iE s.values t)/\1<=(iE s.values t).Op/\(iE s.values t).Op<=5) :
  Jl (bJ s) λv=>(∀ m:Int,m∈v↔∃ t k:Nat,t<p.length/\m7 s.values t=true/\wN s t (iE s.values t) k/\m=3*(k:Int)+t)/\v.length<=42:=by
 have hl:=hp.vs.1;unfold bJ;refine Jl.bind (P:=λv:LI=>(∀ m:Int,m∈v↔∃ t k:Nat,t<p.length/\m7 s.values t=true/\wN s t (iE s.values t) k/\m=3*(k:Int)+t)/\v.length<=42) ?_ λv ⟨h1,h2⟩=>Jl.bind (P:=(· = Gb v)) (.gdD (by omega)<|.pure rfl) λw e => .pure ?_
 ·refine Jl.loop (λz=>(0<=z.2/\z.2<=(p.length:Int))/\(∀ m:Int,m∈z.1↔∃ t k:Nat,(t:Int)<z.2/\m7 s.values t=true/\wN s t (iE s.values t) k/\m=3*(k:Int)+t)/\(z.1.length:Int)<=14*z.2) (λz=>((p.length:Int)-z.2).toNat) ⟨⟨ND _,by simp only [];omega⟩,λm=>⟨λhm=>by simp at hm,λ⟨t,k,hh,_⟩=>by simp only at hh;omega⟩,by simp⟩ λz ⟨⟨h1,h2⟩,h3,h4⟩ => ?_;obtain ⟨l,i⟩:=z;simp only at h1 h2 h3 h4;obtain ⟨t,rfl⟩:=NE h1;unfold gq;simp only [h.iv.up];refine .bifD (λhlt=>?_) λhge => .pure ⟨λm=>?_,by omega⟩
  ·refine Jl.bind (P:=λv:LI=>(∀ m:Int,m∈v↔∃ t' k:Nat,(t':Int)<(t:Int)+1/\m7 s.values t'=true/\wN s t' (iE s.values t') k/\m=3*(k:Int)+t')/\(v.length:Int)<=14*((t:Int)+1)) ?_ λv ⟨hv1,hv2⟩ => .gdI (by omega)<|.pure ⟨⟨⟨by omega,by omega⟩,hv1,hv2⟩,by simp only [];omega⟩;refine (zY hp h hs (by omega) (λhc=>(hx t (by omega) hc).1) λhc=>(hx t (by omega) hc).2).bind λw ⟨hw1,hw2⟩ => ?_;have hbnd:∀ j,j<w.length->0<=w.getD j default/\w.getD j default<=13:=λj hj=>by
    have hm:w.getD j default∈w:=by
     rw [gdq,geq hj];exact NL _
    obtain ⟨n,e,hc,hk⟩:=(hw1 _).1 hm;have hxx:=(hx t (by omega) hc).1;have := hs _ ⟨hxx.1,hxx.2.1⟩;rcases hk with ⟨_,k1⟩ | ⟨_,_,k1⟩ | ⟨_,_,k1,_⟩ | ⟨_,_,k1,_⟩ <;> omega
   refine (Jl.loop (R:=λv:LI=>v=l++w.map λk=>3*k+(t:Int)) (λz=>(0<=z.2/\z.2<=(w.length:Int))/\z.1=l++(w.take z.2.toNat).map λk=>3*k+(t:Int)) (λz=>((w.length:Int)-z.2).toNat) ⟨⟨ND _,by simp only [];omega⟩,by simp⟩ λz ⟨⟨k1,k2⟩,k3⟩ => ?_).mono λv hv=>?_
   rotate_left
   ·obtain ⟨l',i⟩:=z;simp only at k1 k2 k3;obtain ⟨j,rfl⟩:=NE k1;unfold fG;simp only [tnn] at k3 ⊢;refine .bifD (λhlt2=>?_) λhge2 => .pure ?_
    ·have hj:j<w.length:=by omega
     have hb:=hbnd j hj;have hll:l'.length<=l.length+w.length:=by rw [k3];simp;omega
     refine .gdD ⟨k1,hlt2⟩<|.gdI (by omega)<|.gdI (by omega)<|.gd (dM (by omega) rfl)<|.gdI (by omega)<|.pure ⟨⟨⟨by omega,by omega⟩,?_⟩,by omega⟩;simp only;rw [show ((j:Int)+1).toNat=j+1 by omega,k3,Oc hj,NY,<- Nz,gdq,geq hj]
     rfl
    simp only;rw [k3,show j=w.length by omega,List.take_length]
   subst hv;refine ⟨λm=>?_,by rw [lla,llm];omega⟩;rw [NM,h3,NP]
   constructor
   ·rintro (⟨t',k,q1,q2,q3,q4⟩ | ⟨k,q1,q2⟩)
    ·exact ⟨t',k,by omega,q2,q3,q4⟩
    obtain ⟨n,rfl,q3,q4⟩:=(hw1 k).1 q1;exact ⟨t,n,by omega,q3,q4,q2.symm⟩
   rintro ⟨t',k,q1,q2,q3,q4⟩
   by_cases g:t'=t
   ·subst g;exact .inr ⟨k,(hw1 _).2 ⟨k,rfl,q2,q3⟩,q4.symm⟩
   exact .inl ⟨t',k,by omega,q2,q3,q4⟩
  rw [h3]
  constructor
  ·rintro ⟨t',k,q1,q⟩;exact ⟨t',k,by omega,q⟩
  rintro ⟨t',k,q1,q⟩;exact ⟨t',k,by omega,q⟩
 subst e;exact ⟨λm=>((kQ v).mem_iff).trans<|h1 m,by rw [(kQ v).length_eq];exact h2⟩
end
def w0:ai:=⟨0,false,⟨0,0,0⟩⟩
def oW (p:List<|List Ji):ak:=⟨v0 p,⟨[w0],[w0],[w0]⟩,⟨⟨0,0,0⟩,⟨0,0,0⟩,⟨0,0,0⟩⟩⟩
section
variable {p:List (List Ji)} {s:ak}
theorem Dy (p:List<|List Ji):Jl (iC p) (· = oW p):=by
 unfold iC;refine Jl.bind (P:=(· = ([w0],[w0],[w0]))) ?_ λv hv => .pure (by rw [hv];rfl);refine Jl.loop (λz=>(z.2.2.2=0/\(z.1,z.2.1,z.2.2.1)=([],[],[]))\/(z.2.2.2=1/\(z.1,z.2.1,z.2.2.1)=([w0],[],[]))\/(z.2.2.2=2/\(z.1,z.2.1,z.2.2.1)=([w0],[w0],[]))\/(z.2.2.2=3/\(z.1,z.2.1,z.2.2.1)=([w0],[w0],[w0]))) (λz=>(3-z.2.2.2).toNat) (.inl ⟨rfl,rfl⟩) λz hz=>?_;obtain ⟨a,b,c,i⟩:=z;unfold kD;simp only [NW] at hz;rcases hz with ⟨rfl,rfl,rfl,rfl⟩ | ⟨rfl,rfl,rfl,rfl⟩ | ⟨rfl,rfl,rfl,rfl⟩ | ⟨rfl,rfl,rfl,rfl⟩
 ·exact .bifD (λ_ => .gdD (by decide)<|.gdI (by simp only [];omega)<|.pure ⟨.inr<|.inl ⟨rfl,rfl⟩,by simp only [];omega⟩) λh=>absurd (by decide) h
 ·exact .bifD (λ_ => .gdD (by decide)<|.gdI (by simp only [];omega)<|.pure ⟨.inr<|.inr<|.inl ⟨rfl,rfl⟩,by simp only [];omega⟩) λh=>absurd (by decide) h
 ·exact .bifD (λ_ => .gdD (by decide)<|.gdI (by simp only [];omega)<|.pure ⟨.inr<|.inr<|.inr ⟨rfl,rfl⟩,by simp only [];omega⟩) λh=>absurd (by decide) h
 exact .bifD (λh=>absurd h<|by decide) λ_ => .pure rfl
theorem wO (l:List ai) (j:Int):ae.get ⟨l,l,l⟩ j=l:=by
 unfold ae.get
 split <;> (try split) <;> rfl
theorem Ey (v:ah) (j:Int):aa.get ⟨v,v,v⟩ j=v:=by
 unfold aa.get
 split <;> (try split) <;> rfl
theorem Ci (z j:Int):ah.get ⟨z,z,z⟩ j=z:=by
 unfold ah.get
 split <;> (try split) <;> rfl
theorem IW.start (p:List<|List Ji):IW p (oW p):=by
 refine ⟨Iv.start p,rfl,λl _=>?_,λl _ w hw=>?_,λt _ j _=>?_⟩
 ·show 1<=(ae.get ⟨[w0],[w0],[w0]⟩ l).length;rw [wO];decide
 ·replace hw:w∈ae.get ⟨[w0],[w0],[w0]⟩ l:=hw;rw [wO,NS] at hw;subst hw;refine ⟨by decide,λj _=>?_⟩;show 0<=ah.get ⟨0,0,0⟩ j/\ah.get ⟨0,0,0⟩ j<((ae.get ⟨[w0],[w0],[w0]⟩ j).length:Int);rw [Ci,wO];decide
 show 0<=ah.get (aa.get ⟨⟨0,0,0⟩,⟨0,0,0⟩,⟨0,0,0⟩⟩ t) j/\ah.get (aa.get ⟨⟨0,0,0⟩,⟨0,0,0⟩,⟨0,0,0⟩⟩ t) j<((ae.get ⟨[w0],[w0],[w0]⟩ j).length:Int);rw [Ey,Ci,wO];decide
theorem Hg:vwF ⟨0,0,0⟩=λ_=>0:=by
 funext l
 unfold vwF;rw [Ci]
 split <;> rfl
theorem zg (p:List<|List Ji):AW (oW p)=a0R:=by
 obtain ⟨h1,h2,_⟩:=uZ p;refine RS.ext h1 h2 ?_ ?_
 ·funext l
  show liF ⟨[w0],[w0],[w0]⟩ l=_;unfold liF;rw [wO]
  split
  ·show [sK w0]=[_];unfold sK w0;simp only [Hg]
  rfl
 funext t
 show owF ⟨⟨0,0,0⟩,⟨0,0,0⟩,⟨0,0,0⟩⟩ t=_;unfold owF;rw [Ey,Hg]
 split <;> rfl
theorem Iq (hp:PW p) (l:Int):WT (prg p) l<=12:=by
 have h:∀ t,(evs (prg p) t).countP (fwL l)<=Jm (prg p t):=λt=>by
  refine NA List.countP_le_length ?_;unfold evs Jm;rw [<- List.countP_eq_length_filter];exact Nat.le_refl _
 have h0:=h 0;have h1:=h 1;have h2:=h 2;have := hp.ev;unfold WT sW;omega
theorem Ez (hp:PW p) (h:Rch (StR<|prg p) a0R<|AW s):SmL s:=λl hl=>by
 have h1:=En hp.pv.prg0 h l;have h2:wC (prg p) l (Jn (prg p)<|AW s)<=WT (prg p) l:=Dn _ _;have h3:=Iq hp l;have h4:(AW s).li l=(ae.get s.lists l).map sK:=qH _ hl;rw [h4,llm] at h1;omega
theorem FJ (hp:PW p) (h:IW p s):∀ t,t<p.length->m7 s.values t=true->InR (iE s.values t)/\1<=(iE s.values t).Op/\(iE s.values t).Op<=5:=λt ht hc=>by
 have hl:=hp.pv.vs.1;have hx:=(iR h.iv.up (by omega:t<3) (h.iv.pc t<|by omega).1).1 hc;exact ⟨hp.pv.prg _ _ _ hx,hp.op _ _ _ hx⟩
def mI (L:List ai):Int:=(L.getD (L.length-1) default).value
def I5 (s:ak):Z3b:=⟨mI s.lists.x0,mI s.lists.x1,mI s.lists.x2⟩
def tT (s:ak):Jj:=⟨s.values.p,s.values.pc,s.values.reg,I5 s⟩
theorem Ir (u:Jj):cO u=(aN u).map λl=>(u,l):=by
 unfold aN cO;have e1:dw u=bS u:=rfl;have e2:db u=bM u:=rfl;rw [e1,e2]
 cases bQ (bS u) ([],0) with
 | none=>rfl
 | some v=>
  simp only [Option.bind_some]
  cases bQ (bM u) (v,0) <;> rfl
theorem Cj {L:List ai} (h:1<=L.length):∃ w∈L,mI L=w.value:=by
 refine ⟨L.getD (L.length-1) default,?_,rfl⟩;rw [gdq,geq (by omega)];exact NL _
theorem Dz (h:IW p s):Iv p (tT s):=⟨h.iv.up,h.iv.pc,h.iv.rv,λl hl=>by
 have key:∀ j:Int,0<=j/\j<=2->0<=mI (ae.get s.lists j)/\mI (ae.get s.lists j)<=3:=λj hj=>by
  obtain ⟨w,h1,h2⟩:=Cj<|h.ln j hj;rw [h2];exact (h.wv j hj w h1).1
 have k0:=key 0 (by decide);have k1:=key 1 (by decide);have k2:=key 2 (by decide);obtain rfl | rfl | rfl:l=0\/l=1\/l=2:=by omega
 ·exact k0
 ·exact k1
 exact k2⟩
theorem mJ (hp:PV p) (h:IW p s) (hs:SmL s):Jl (bG s) (· = wG (tT s)):=by
 unfold bG;refine Jl.bind (P:=(· = (mI s.lists.x0,mI s.lists.x1,mI s.lists.x2))) ?_ λv hv=>?_
 ·have ln:∀ j:Int,0<=j/\j<=2->1<=(ae.get s.lists j).length/\(ae.get s.lists j).length<=13:=λj hj=>⟨h.ln j hj,hs j hj⟩;have l0:=ln 0 (by decide);have l1:=ln 1 (by decide);have l2:=ln 2 (by decide);have tn:∀ n:Nat,1<=n->((n:Int)-1).toNat=n-1:=λn hn=>by omega
  refine Jl.loop (λz=>(z.2.2.2=0/\(z.1,z.2.1,z.2.2.1)=(s.values.mem.x0,s.values.mem.x1,s.values.mem.x2))\/(z.2.2.2=1/\(z.1,z.2.1,z.2.2.1)=(mI s.lists.x0,s.values.mem.x1,s.values.mem.x2))\/(z.2.2.2=2/\(z.1,z.2.1,z.2.2.1)=(mI s.lists.x0,mI s.lists.x1,s.values.mem.x2))\/(z.2.2.2=3/\(z.1,z.2.1,z.2.2.1)=(mI s.lists.x0,mI s.lists.x1,mI s.lists.x2))) (λz=>(3-z.2.2.2).toNat) (.inl ⟨rfl,rfl⟩) λz hz=>?_;obtain ⟨a,b,c,i⟩:=z;unfold iD;simp only [NW] at hz;rcases hz with ⟨rfl,rfl,rfl,rfl⟩ | ⟨rfl,rfl,rfl,rfl⟩ | ⟨rfl,rfl,rfl,rfl⟩ | ⟨rfl,rfl,rfl,rfl⟩
  ·refine .bifD (λ_ => .gdD (by simp only [];omega)<|.gdI (by simp only [];omega)<|.gdD (by simp only [];omega)<|.gdI (by simp only [];omega)<|.pure ⟨.inr<|.inl ⟨rfl,?_⟩,by simp only [];omega⟩) λh=>absurd (by simp only [];omega) h;simp only [tn _ l0.1]
   rfl
  ·refine .bifD (λ_ => .gdD (by simp only [];omega)<|.gdI (by simp only [];omega)<|.gdD (by simp only [];omega)<|.gdI (by simp only [];omega)<|.pure ⟨.inr<|.inr<|.inl ⟨rfl,?_⟩,by simp only [];omega⟩) λh=>absurd (by simp only [];omega) h;simp only [tn _ l1.1]
   rfl
  ·refine .bifD (λ_ => .gdD (by simp only [];omega)<|.gdI (by simp only [];omega)<|.gdD (by simp only [];omega)<|.gdI (by simp only [];omega)<|.pure ⟨.inr<|.inr<|.inr ⟨rfl,?_⟩,by simp only [];omega⟩) λh=>absurd (by simp only [];omega) h;simp only [tn _ l2.1]
   rfl
  exact .bifD (λh=>absurd h<|by simp only [];omega) λ_ => .pure rfl
 subst hv;rw [Ir];have := uW hp<|Dz h;obtain ⟨o,h1,h2⟩:=this;refine Jl.bind (P:=λz:Jj×LI=>z.2=wG (tT s)) ?_ λz hz => .pure hz;refine ⟨(tT s,o),?_,h2⟩;show (aN<|tT s).map _=_;rw [h1]
 rfl
theorem Hh {l:Int} (hl:0<=l/\l<=2) (h:IW p s):Ft (AW s) l=mI (ae.get s.lists l):=by
 unfold Ft;have h1:(AW s).li l=(ae.get s.lists l).map sK:=qH _ hl;have h2:=h.ln l hl;rw [h1,List.getLast?_map,List.getLast?_eq_getElem?,geq (by omega)];unfold mI;rw [gdq,geq (by omega)]
 rfl
theorem FK (hp:PV p) (h:IW p s):Gc p.length (AW s)=wG (tT s):=by
 have hl:=hp.vs.1;unfold Gc wG qP Gy;have hup:(tT s).p=p:=h.iv.up;rw [hup]
 congr 1
 ·refine Fc λt ht=>Od λg hg=>?_;have ht:=NB.1 ht;have hg:=NB.1 hg;show rgF s.values.reg t g=_;rw [wJ,if_pos ⟨by omega,by omega,by omega⟩]
  rfl
 refine Od λl hl=>?_;have hl:=NB.1 hl;rw [Hh ⟨by omega,by omega⟩ h];obtain rfl | rfl | rfl:l=0\/l=1\/l=2:=by omega
 ·rfl
 ·rfl
 rfl
theorem Cm (hp:PV p) (h:IW p s):(qb s.values).isEmpty=true↔DnR (prg p) (AW s):=by
 have hl:=hp.vs.1;rw [List.isEmpty_iff];refine ⟨λg t=>?_,λg=>?_⟩
 ·rcases Oh t p.length with ht | ht
  ·refine Decidable.byContradiction λk=>?_;have := ((iR h.iv.up (by omega:t<3) (h.iv.pc t<|by omega).1).2 _<|geq<|Nat.lt_of_not_le k).1;have : (t:Int)∈qb s.values:=iF.2 ⟨t,by rw [h.iv.up];exact ht,rfl,this⟩;rw [g] at this;cases this
  unfold prg;rw [gdq,gen ht];exact NT _
 refine List.eq_nil_iff_forall_not_mem.2 λm hm=>?_;obtain ⟨t,ht,rfl,hc⟩:=iF.1 hm;rw [h.iv.up] at ht;have := (ges<|(iR h.iv.up (by omega:t<3) (h.iv.pc t<|by omega).1).1 hc).1;have h2:=g t;simp only [AW] at h2;omega
theorem Cn {n m:Int} {v w:ah} (hv:VB n v) (hw:VB m w) (h:vwF v=vwF w):v=w:=by
 have key:∀ j:Int,0<=j/\j<=2->ah.get v j=ah.get w j:=λj hj=>by
  have := congrFun h j;unfold vwF at this;rw [if_pos hj,if_pos hj] at this;have h1:=hv j hj;have h2:=hw j hj;omega
 have k0:=key 0 (by decide);have k1:=key 1 (by decide);have k2:=key 2 (by decide);obtain ⟨a,b,c⟩:=v;obtain ⟨a',b',c'⟩:=w;have e0:a=a':=k0;have e1:b=b':=k1;have e2:c=c':=k2;rw [e0,e1,e2]
theorem zi:∀ {L K:List ai},(∀ w∈L,VB 254 w.view)->(∀ w∈K,VB 254 w.view)->L.map sK=K.map sK->L=K
 | [],[],_,_,_=>rfl
 | [],_::_,_,_,h=>by cases h
 | _::_,[],_,_,h=>by cases h
 | a::L,b::K,hL,hK,h=>by
  simp only [List.map_cons,NZ] at h;have h2:=zi (λw hw=>hL w<|Ou _ hw) (λw hw=>hK w<|Ou _ hw) h.2;have h1:=h.1;unfold sK at h1;injection h1 with e1 e2 e3;have e4:=Cn (hL a List.mem_cons_self) (hK b List.mem_cons_self) e3;obtain ⟨av,at_,aw⟩:=a;obtain ⟨bv,bt,bw⟩:=b;simp only at e1 e2 e4;rw [e1,e2,e4,h2]
theorem Hk {s t:ak} (hs:IW p s) (ht:IW p t) (ss:SmL s) (st:SmL t) (h:AW s=AW t):s=t:=by
 have h1:pcF s.values.pc=pcF t.values.pc:=congrArg RS.pc h;have h2:rgF s.values.reg=rgF t.values.reg:=congrArg RS.rg h;have h3:liF s.lists=liF t.lists:=congrArg RS.li h;have h4:owF s.own=owF t.own:=congrArg RS.ow h;have hL:∀ j:Int,0<=j/\j<=2->ae.get s.lists j=ae.get t.lists j:=λj hj=>by
  have := congrFun h3 j;rw [qH _ hj,qH _ hj] at this;exact zi (H4 hs ss j hj) (H4 ht st j hj) this
 have hO:∀ u:Nat,u<3->aa.get s.own u=aa.get t.own u:=λu hu=>by
  have := congrFun h4 u;rw [qI _ hu,qI _ hu] at this;exact Cn (hs.vbo ss hu) (ht.vbo st hu) this
 have hpc:∀ u:Nat,u<3->Z3b.get s.values.pc u=Z3b.get t.values.pc u:=λu hu=>by
  have := congrFun h1 u;unfold pcF at this;rw [if_pos hu,if_pos hu] at this;have a:=hs.iv.pc u hu;have b:=ht.iv.pc u hu;omega
 have hrg:∀ u g:Nat,u<3->g<3->Z3b.get (Z33.get s.values.reg u) g=Z3b.get (Z33.get t.values.reg u) g:=λu g hu hg=>by
  have := congrFun (congrFun h2 u) (g:Int);rw [wJ,wJ,if_pos ⟨hu,by omega,by omega⟩,if_pos ⟨hu,by omega,by omega⟩] at this;exact this
 have hup:=hs.iv.up.trans ht.iv.up.symm;have hm:=hs.m0.trans ht.m0.symm;have l0:=hL 0 (by decide);have l1:=hL 1 (by decide);have l2:=hL 2 (by decide);have o0:=hO 0 (by decide);have o1:=hO 1 (by decide);have o2:=hO 2 (by decide);have p0:=hpc 0 (by decide);have p1:=hpc 1 (by decide);have p2:=hpc 2 (by decide);have r00:=hrg 0 0 (by decide) (by decide);have r01:=hrg 0 1 (by decide) (by decide);have r02:=hrg 0 2 (by decide) (by decide);have r10:=hrg 1 0 (by decide) (by decide);have r11:=hrg 1 1 (by decide) (by decide);have r12:=hrg 1 2 (by decide) (by decide);have r20:=hrg 2 0 (by decide) (by decide);have r21:=hrg 2 1 (by decide) (by decide);have r22:=hrg 2 2 (by decide) (by decide);clear hL hO hpc hrg h1 h2 h3 h4 h hs ht ss st;obtain ⟨⟨P,⟨a0,a1,a2⟩,⟨⟨b0,b1,b2⟩,⟨c0,c1,c2⟩,⟨d0,d1,d2⟩⟩,M⟩,⟨x0,x1,x2⟩,⟨y0,y1,y2⟩⟩:=s;obtain ⟨⟨P',⟨a0',a1',a2'⟩,⟨⟨b0',b1',b2'⟩,⟨c0',c1',c2'⟩,⟨d0',d1',d2'⟩⟩,M'⟩,⟨x0',x1',x2'⟩,⟨y0',y1',y2'⟩⟩:=t;simp only [ae.get,aa.get,Z3b.get,Z33.get] at l0 l1 l2 o0 o1 o2 p0 p1 p2 r00 r01 r02 r10 r11 r12 r20 r21 r22 hup hm;simp at l0 l1 l2 o0 o1 o2 p0 p1 p2 r00 r01 r02 r10 r11 r12 r20 r21 r22;subst l0 l1 l2 o0 o1 o2 p0 p1 p2 r00 r01 r02 r10 r11 r12 r20 r21 r22 hup hm
 rfl
end
def vwL (v:ah):LI:=[v.x0,v.x1,v.x2]
def Co (w:ai):LI:=[w.value,if w.taken=true then 1 else 0]++vwL w.view
def zZ (L:List ai):LI:=(L.length:Int)::L.flatMap Co
def DC (s:ak) (n:Nat):LI:=(Ny n).flatMap λl:Nat=>zZ<|ae.get s.lists l
def DD (s:ak) (n:Nat):LI:=(Ny n).flatMap λt:Nat=>vwL<|aa.get s.own t
def DF (s:ak):LI:=keyL s.values++DC s 3++DD s 3
theorem sM (L:List ai):(L.flatMap Co).length=5*L.length:=by
 induction L with
 | nil=>rfl
 | cons a L ih=>rw [N7,lla,ih,llc];simp [Co,vwL];omega
theorem DG {a b:ai} (h:Co a=Co b):a=b:=by
 obtain ⟨av,at_,⟨a0,a1,a2⟩⟩:=a;obtain ⟨bv,bt,⟨b0,b1,b2⟩⟩:=b;simp only [Co,vwL,Oi,List.nil_append,NZ,and_true] at h;obtain ⟨rfl,h1,rfl,rfl,rfl⟩:=h
 cases at_ <;> cases bt <;> simp_all
theorem wP:∀ {L K:List ai},L.length=K.length->L.flatMap Co=K.flatMap Co->L=K
 | [],[],_,_=>rfl
 | [],_::_,h,_=>by cases h
 | _::_,[],h,_=>by cases h
 | a::L,b::K,h,e=>by
  rw [N7,N7] at e;obtain ⟨e1,e2⟩:=Oj e rfl;rw [DG e1,wP (by simpa using h) e2]
theorem xW {L K:List ai} {R S:LI} (h:zZ L++R=zZ K++S):L=K/\R=S:=by
 unfold zZ at h;rw [Oi,Oi,NZ] at h;have hl:L.length=K.length:=by have := h.1;omega
 obtain ⟨e1,e2⟩:=Oj h.2 (by rw [sM,sM,hl]);exact ⟨wP hl e1,e2⟩
theorem DI {s t:ak} (hp:s.values.p=t.values.p) (h:DF s=DF t):s=t:=by
 unfold DF at h;rw [Nz,Nz] at h;obtain ⟨e1,e2⟩:=Oj h rfl;have e3:=ru hp e1;replace e2:zZ s.lists.x0++(zZ s.lists.x1++(zZ s.lists.x2++([]:LI)))++DD s 3=zZ t.lists.x0++(zZ t.lists.x1++(zZ t.lists.x2++[]))++DD t 3:=e2;rw [Nz,Nz,Nz,Nz,Nz,Nz] at e2;obtain ⟨l0,e2⟩:=xW e2;obtain ⟨l1,e2⟩:=xW e2;obtain ⟨l2,e2⟩:=xW e2;replace e2:[s.own.x0.x0,s.own.x0.x1,s.own.x0.x2,s.own.x1.x0,s.own.x1.x1,s.own.x1.x2,s.own.x2.x0,s.own.x2.x1,s.own.x2.x2]=[t.own.x0.x0,t.own.x0.x1,t.own.x0.x2,t.own.x1.x0,t.own.x1.x1,t.own.x1.x2,t.own.x2.x0,t.own.x2.x1,t.own.x2.x2]:=e2;obtain ⟨u,⟨x0,x1,x2⟩,⟨⟨a0,a1,a2⟩,⟨b0,b1,b2⟩,⟨c0,c1,c2⟩⟩⟩:=s;obtain ⟨u',⟨x0',x1',x2'⟩,⟨⟨a0',a1',a2'⟩,⟨b0',b1',b2'⟩,⟨c0',c1',c2'⟩⟩⟩:=t;simp only [NZ,and_true] at e2 e3 l0 l1 l2;obtain ⟨rfl,rfl,rfl,rfl,rfl,rfl,rfl,rfl,rfl⟩:=e2;subst e3 l0 l1 l2
 rfl
section
variable {p:List (List Ji)} {s:ak}
theorem Cq (s:ak) (n:Nat):DC s (n+1)=DC s n++zZ (ae.get s.lists n):=by
 unfold DC;rw [Ol,N8];simp
theorem Cr (s:ak) (n:Nat):DD s (n+1)=DD s n++vwL (aa.get s.own n):=by
 unfold DD;rw [Ol,N8];simp
theorem vB (hp:PV p) (h:IW p s) (hs:SmL s):Jl (cm s) (· = strOfNums (DF s)):=by
 unfold cm;refine (yP s.values).bind λv hv=>?_;subst hv;have hk:(keyL s.values).length=15:=rfl;have hsz:(strOfNums<|keyL s.values).size=15:=by
  have := congrArg List.length<|strOfNums_data<|keyL s.values;simpa [hk] using this
 refine .gdD (by rw [hsz];decide) ?_;rw [uF (qB hp h.iv)];refine Jl.bind (P:=λv=>v=keyL s.values++DC s 3/\v.length<=215) ?_ λv ⟨hv,hvl⟩ => ?_
 ·refine Jl.loop (λz=>(0<=z.2/\z.2<=3)/\z.1=keyL s.values++DC s z.2.toNat/\(z.1.length:Int)<=15+66*z.2) (λz=>(3-z.2).toNat) ⟨⟨ND _,by simp only [];omega⟩,by simp [DC],by simp only [hk];omega⟩ λz ⟨⟨h1,h2⟩,h3,h4⟩ => ?_;obtain ⟨l,i⟩:=z;simp only at h1 h2 h3 h4;obtain ⟨n,rfl⟩:=NE h1;simp only [tnn] at h3;unfold ik;refine .bifD (λhlt=>?_) λhge => .pure ⟨by rw [h3,show n=3 by omega],by omega⟩;have hln:=hs n ⟨by omega,by omega⟩;refine Jl.bind (P:=λv=>v=l++zZ (ae.get s.lists n)/\v.length<=l.length+66) (.gdD ⟨by omega,by omega⟩<|.gdY (by simp only [];omega)<|.gd (dM (by simp only [];omega) rfl) ?_) λv ⟨hv1,hv2⟩ => .gdI (by omega) (.pure ⟨⟨⟨by omega,by omega⟩,?_,by simp only [];omega⟩,by simp only [];omega⟩)
  ·refine Jl.loop (λz=>(0<=z.2/\z.2<=((ae.get s.lists n).length:Int))/\z.1=l++[((ae.get s.lists n).length:Int)]++((ae.get s.lists n).take z.2.toNat).flatMap Co) (λz=>(((ae.get s.lists n).length:Int)-z.2).toNat) ⟨⟨ND _,by simp only [];omega⟩,by simp⟩ λz ⟨⟨k1,k2⟩,k3⟩ => ?_;obtain ⟨l',j⟩:=z;simp only at k1 k2 k3;obtain ⟨j,rfl⟩:=NE k1;simp only [tnn] at k3;unfold gL;simp only [tnn];have hll:l'.length<=l.length+66:=by
    rw [k3,lla,lla,sM,NH];simp only [llc,NF];omega
   refine .bifD (λhlt2=>?_) λhge2 => .pure ⟨?_,hll⟩
   ·have hj:j<(ae.get s.lists n).length:=by omega
    refine .gdD ⟨k1,hlt2⟩ (Jl.bind (P:=(· = if ((ae.get s.lists n).getD j default).taken=true then (1:Int) else 0)) (.bif (λg => .pure<|by rw [if_pos g]) λg => .pure<|by rw [if_neg (by rw [g];decide)]) λb hb => .gd (dM (by simp only [llc,NF];omega) rfl)<|.gd (dM (by simp only [lla,llc,NF];omega) rfl)<|.gdI (by omega)<|.pure ⟨⟨⟨by omega,by omega⟩,?_⟩,by omega⟩);subst hb;simp only;rw [show ((j:Int)+1).toNat=j+1 by omega,k3,Oc hj,N8,gdq,geq hj];simp only [Option.getD_some,N7,List.flatMap_nil,List.append_nil,Co,vwL,Nz]
   rw [k3,show j=(ae.get s.lists n).length by omega,List.take_length,Nz]
   rfl
  simp only;rw [show ((n:Int)+1).toNat=n+1 by omega,hv1,h3,Cq,Nz]
 subst hv;refine Jl.bind (P:=(· = DF s)) ?_ λv hv => .pure (by rw [hv]);refine Jl.loop (λz=>(0<=z.2/\z.2<=3)/\z.1=keyL s.values++DC s 3++DD s z.2.toNat/\(z.1.length:Int)<=215+3*z.2) (λz=>(3-z.2).toNat) ⟨⟨ND _,by simp only [];omega⟩,by simp [DD],by simp only [];omega⟩ λz ⟨⟨h1,h2⟩,h3,h4⟩ => ?_;obtain ⟨l,i⟩:=z;simp only at h1 h2 h3 h4;obtain ⟨n,rfl⟩:=NE h1;simp only [tnn] at h3;unfold gM;refine .bifD (λhlt => .gdD ⟨by omega,by omega⟩<|.gd (dM (by simp only [llc,NF];omega) rfl)<|.gdI (by omega)<|.pure ⟨⟨⟨by simp only [];omega,by simp only [];omega⟩,?_,by simp only [lla,llc,NF];omega⟩,by simp only [];omega⟩) λhge => .pure (by rw [h3,show n=3 by omega];rfl);simp only;rw [show ((n:Int)+1).toNat=n+1 by omega,h3,Cr];simp only [vwL,Nz]
theorem Cs (hp:PV p) (h:IW p s) (hs:SmL s):∀ x∈DF s,0<=x/\x<=255:=λx hx=>by
 have vw:∀ (v:ah),VB 254 v->∀ x∈vwL v,0<=x/\x<=255:=λv hv x hx=>by
  have v0:=hv 0 (by decide);have v1:=hv 1 (by decide);have v2:=hv 2 (by decide);have e0:ah.get v 0=v.x0:=rfl;have e1:ah.get v 1=v.x1:=rfl;have e2:ah.get v 2=v.x2:=rfl;simp only [vwL,N9,Om,or_false] at hx;rcases hx with rfl | rfl | rfl <;> omega
 unfold DF at hx;rcases NM.1 hx with hx | hx
 ·rcases NM.1 hx with hx | hx
  ·exact qB hp h.iv x hx
  unfold DC at hx;obtain ⟨l,hl,hx⟩:=NJ.1 hx;have hl:=NB.1 hl;have hl2:0<=(l:Int)/\(l:Int)<=2:=⟨by omega,by omega⟩;unfold zZ at hx;rcases N9.1 hx with rfl | hx
  ·have := hs l hl2;omega
  obtain ⟨w,hw,hx⟩:=NJ.1 hx;have h1:=(h.wv l hl2 w hw).1;have h2:=h.vbw hs hl2 hw;unfold Co at hx;rcases NM.1 hx with hx | hx
  ·simp only [N9,Om,or_false] at hx;rcases hx with rfl | rfl
   ·omega
   split <;> decide
  exact vw _ h2 x hx
 unfold DD at hx;obtain ⟨t,ht,hx⟩:=NJ.1 hx;exact vw _ (h.vbo hs<|NB.1 ht) x hx
end
section
variable {p:List (List Ji)}
theorem FL (f:Ji->Bool) (hf:∀ x,f x=true->x.Op≠4) (l:List Ji):(l.filter λx=>x.Op != 4).countP f=l.countP f:=by
 rw [List.countP_filter];refine List.countP_congr λx _=>?_
 constructor
 ·intro h;exact (bae _ _ ▸ h).1
 intro h;rw [bae];exact ⟨h,by simpa using hf x h⟩
theorem EA (f:Ji->Bool) (g:Ins->Bool) (hf:∀ x,f x=true->x.Op≠4) (hg:∀ x,f x=true->g (iN x)=true) (hl:p.length<=3):sW (NC f) (prg p)<=oL g (p.map λr=>r.map iN):=by
 have he:∀ l:List Ji,(l.filter λx=>x.Op != 4).countP f<=(l.map iN).countP g:=λl=>by
  rw [FL f hf,List.countP_map];exact List.countP_mono_left λx _ h=>hg x h
 have hd:(default:List Ji)=[]:=rfl;unfold sW oL evs prg
 match p,hl with
 | [],_=>simp [hd]
 | [a],_=>have := he a;simp [hd];simpa using this
 | [a,b],_=>have := he a;have := he b;simp [hd] at *;omega
 | [a,b,c],_=>have := he a;have := he b;have := he c;simp [hd] at *;omega
 | _::_::_::_::_,hl=>simp at hl
theorem Hl (h:gb (p.map λr=>r.map iN)=true) (e:Nat->Nat):phi (prg p) e<=3000:=by
 have hl:=(PV.of h).vs.1;have hx:uy (p.map λr=>r.map iN)<=3000:=by
  simp only [gb,bae,dte] at h;exact h.2
 have hw:∀ l:Int,WT (prg p) l<=cw (p.map λr=>r.map iN) l:=λl=>EA _ _ (λx hx=>by
  simp only [fwL,wrX,bae,NU,beq_iff_eq] at hx;omega) (λx hx=>by
  simp only [fwL,wrX,bae,NU,beq_iff_eq] at hx;simp only [gV,wrB,wrO,iN,bae,NU,beq_iff_eq];omega) hl
 have hr:∀ l:Int,RT (prg p) l<=cr (p.map λr=>r.map iN) l:=λl=>EA _ _ (λx hx=>by
  simp only [flL,bae,beq_iff_eq] at hx;omega) (λx hx=>by
  simp only [flL,bae,beq_iff_eq] at hx;simp only [gV,rdB,rdO,iN,bae,NU,beq_iff_eq];omega) hl
 have hp:∀ l:Nat,phl (prg p) l e<=Ih (p.map λr=>r.map iN) l:=λl=>by
  refine NA (GY _ _) ?_;unfold Ih;refine NI (NA (Nat.pow_le_pow_left (Nat.succ_le_succ<|hw l) _)<|Oa (by omega)<|hr l)<|yY<|hw l
 refine NA ?_ hx;unfold phi uy;simp only [pT,Nat.one_mul];exact NI (NI (hp 0)<|hp 1)<|hp 2
def sN:Mac ak where
 mv s:=(bJ s).getD default
 af s m:=(bK s m).getD default
 ky s:=(cm s).getD default
 dn s:=(cA s).getD default
 oc s:=(bG s).getD default
theorem dU {α:Type} [Inhabited α] {x:Option α} {P:α->Prop} (h:Jl x P):P (x.getD default)/\Jl x (· = x.getD default):=by
 obtain ⟨v,h1,h2⟩:=h;rw [h1];exact ⟨h2,v,rfl,rfl⟩
theorem wQ (hp:PV p) {s:ak} (h:IW p s):Jl (cA s) (· = (qb s.values).isEmpty):=by
 unfold cA;exact (sI hp h.iv).bind λv hv => .pure hv
theorem FM {t k:Nat} (ht:t<3):(3*(k:Int)+t).tmod 3=(t:Int)/\(3*(k:Int)+t).tdiv 3=(k:Int):=by
 rw [Int.tmod_eq_emod_of_nonneg (by omega),Int.tdiv_eq_ediv_of_nonneg (by omega)];omega
theorem xX (hp:PW p) {s:ak} (h:IW p s) (hs:SmL s) {t k:Nat} (ht:t<p.length) (hc:m7 s.values t=true) (hk:wN s t (iE s.values t) k):Jl (bK s<|3*(k:Int)+t) (· = afW s t k (iE s.values t)):=by
 have hl:=hp.pv.vs.1;obtain ⟨hx,ho⟩:=FJ hp h t ht hc;obtain ⟨m1,m2⟩:=FM (k:=k) (show t<3 by omega);have hln:=hs _ ⟨hx.1,hx.2.1⟩;refine zX hp.pv h hs m1 m2 ht hc hx ho ?_ (λo=>?_) λo=>?_
 ·rcases hk with ⟨_,k1⟩ | ⟨_,_,k1⟩ | ⟨_,_,k1,_⟩ | ⟨_,_,k1,_⟩ <;> omega
 ·rcases hk with ⟨o',k1⟩ | ⟨o',_,k1⟩ | ⟨o',_,k1,_⟩ | ⟨o',_,k1,_⟩ <;> omega
 rcases hk with ⟨o',k1⟩ | ⟨o',_,k1⟩ | ⟨o',_,k1,_⟩ | ⟨o',_,k1,_⟩ <;> omega
def IS (p:List<|List Ji) (s:ak):Prop:=IW p s/\SmL s
theorem xY (hp:PW p):Bis sN (oW p) (StR<|prg p) a0R (DnR<|prg p) (Gc p.length) (IS p) AW where
 i0:=⟨IW.start p,Ez hp<|by rw [zg];exact .base⟩
 h0:=zg p
 fw:=λs m ⟨h,hs⟩ hr hm=>by
  have hl:=hp.pv.vs.1;obtain ⟨t,k,ht,hc,hk,rfl⟩:=((dU<|kT hp.pv h hs<|FJ hp h).1.1 m).1 hm;obtain ⟨hx,_⟩:=FJ hp h t ht hc;have e:sN.af s (3*(k:Int)+t)=afW s t k (iE s.values t):=(dU<|xX hp h hs ht hc hk).1;rw [e];have hst:=FH h hs (by omega) hc hx hk;exact ⟨⟨Dw h (by omega) hc hx hk,Ez hp<|hr.step hst⟩,hst⟩
 bw:=λs b ⟨h,hs⟩ hr hb=>by
  obtain ⟨t,k,ht,hc,hk,e1⟩:=FI h hs hp.pv.prg hp.pv.vs.1 hb;refine ⟨3*(k:Int)+t,((dU<|kT hp.pv h hs<|FJ hp h).1.1 _).2 ⟨t,k,ht,hc,hk,rfl⟩,?_⟩;have e:sN.af s (3*(k:Int)+t)=afW s t k (iE s.values t):=(dU<|xX hp h hs ht hc hk).1;rw [e,e1]
 dn:=λs ⟨h,hs⟩ hr=>by
  have e:sN.dn s=(qb s.values).isEmpty:=(dU<|wQ hp.pv h).1;rw [e];exact Cm hp.pv h
 oc:=λs ⟨h,hs⟩ hr _=>by
  have e:sN.oc s=wG (tT s):=(dU<|mJ hp.pv h hs).1;rw [e,FK hp.pv h]
theorem DJ (hp:PW p) (hv:gb (p.map λr=>r.map iN)=true):Mok sN (oW p) 816293376000:=
 (xY hp).mok (λs t ⟨hs,ss⟩ ⟨ht,st⟩ _ _ h=>by
  have e1:sN.ky s=strOfNums (DF s):=(dU (vB hp.pv hs ss)).1;have e2:sN.ky t=strOfNums (DF t):=(dU (vB hp.pv ht st)).1;rw [e1,e2] at h;exact DI (hs.iv.up.trans ht.iv.up.symm) (lI (Cs hp.pv hs ss) (Cs hp.pv ht st) h))
  (λs t ⟨hs,ss⟩ ⟨ht,st⟩ h=>Hk hs ht ss st h) (I4 hp.pv.prg0 hp.pv.prg hp.op hp.pv.vs.2 hp.ev<|Hl hv)
theorem DK (hp:PW p):Mrt bJ bK cm cA bG sN (oW p):=by
 have B:=xY hp;refine ⟨λs hs=>(dU<|kT hp.pv (B.rea hs).1.1 (B.rea hs).1.2<|FJ hp (B.rea hs).1.1).2,λs m hs hm=>?_,λs hs=>(dU<|vB hp.pv (B.rea hs).1.1 (B.rea hs).1.2).2,λs hs=>(dU<|wQ hp.pv (B.rea hs).1.1).2,λs hs _=>(dU<|mJ hp.pv (B.rea hs).1.1 (B.rea hs).1.2).2,λs hs=>?_⟩
 ·obtain ⟨h,hs'⟩:=(B.rea hs).1;obtain ⟨t,k,ht,hc,hk,rfl⟩:=((dU<|kT hp.pv h hs'<|FJ hp h).1.1 m).1 hm;exact (dU<|xX hp h hs' ht hc hk).2
 have := (dU<|kT hp.pv (B.rea hs).1.1 (B.rea hs).1.2<|FJ hp (B.rea hs).1.1).1.2;show ((bJ s).getD default).length<=_;omega
def RaO (p:List<|List Ji):LI->Prop:=I3 (prg p) p.length
structure RunV (O:List Int->Prop) (q:List (List Int)):Prop where
 lt:q.Pairwise ltL
 mem:∀ o,o∈q↔O o
 len:q.length<=816293376000
theorem DL (hp:PW p) (hb:gb (p.map λr=>r.map iN)=true) (hv:aJ p=some true):Jl (iq p) (RunV<|RaO p):=by
 have B:=xY hp;have e:ek (oW p)=Gx bJ bK cm cA bG aO (oW p):=rfl;have hQ:∀ l:LL,l.length<=816293376000->(∀ o∈l,EY sN (oW p) o)->Jl (aO l) λq=>Sor l q/\l.length<=816293376000:=λl hl ho=>(qa (by omega) λr hr=>by
  obtain ⟨s,h1,_,rfl⟩:=ho r hr;have h2:=(B.rea h1).1;have h3:=hp.pv.vs.1;have e:sN.oc s=wG (tT s):=(dU (mJ hp.pv h2.1 h2.2)).1;rw [e,uX];have : (tT s).p=p:=h2.1.iv.up;rw [this];omega).mono λq h=>⟨h,hl⟩
 unfold iq;rw [hv];refine Jl.bind (P:=(· = true)) (.pure rfl) λb hbt => .bif (λh=>absurd h<|by rw [hbt];decide) λ_=>?_;refine (Dy p).bind λv ev=>?_;subst ev;refine Jl.bind (P:=λq:LL×Int=>RunV (RaO p) q.1) ?_ λq hq => .pure hq;rw [e];exact (xB (Q:=λl q=>Sor l q/\l.length<=816293376000) (DJ hp hb) (DK hp) (by decide) hQ).mono λq ⟨l,⟨h1,h3⟩,h2,_⟩=>⟨h1.lt,λo=>(h1.mem o).trans<|(h2 o).trans<|B.outs o,NA h1.len h3⟩
end
def iI (r_:au):Option (au×ByteArray×ByteArray):= Nw (gu (⟨r_.b,r_.p⟩:au) ([(⟨#[115,101,113]⟩:ByteArray),(⟨#[116,115,111]⟩:ByteArray),(⟨#[112,115,111]⟩:ByteArray),(⟨#[114,97]⟩:ByteArray),(⟨#[120]⟩:ByteArray)]:List ByteArray)) λv1=>Nw (gu (⟨v1.1.b,v1.1.p⟩:au) ([(⟨#[116,115,111]⟩:ByteArray),(⟨#[112,115,111]⟩:ByteArray),(⟨#[114,97]⟩:ByteArray),(⟨#[115,101,113]⟩:ByteArray),(⟨#[]⟩:ByteArray)]:List ByteArray)) λv2=>some ((⟨v2.1.b,v2.1.p⟩:au),v1.2,v2.2)
def dV (code:LI):Option (Int×ByteArray×ByteArray):= Nw (gY code) λv1=>Nw (bD (⟨v1.b,v1.p⟩:au) (36:Int)) λv2=>gd (Jg .i64<|v2.2*(36:Int)) <|Nw (bD (⟨v2.1.b,v2.1.p⟩:au) (36:Int)) λv4=>gd (Jg .i64<|(v2.2*(36:Int))+v4.2) <|Nw (Nw (bD (⟨v4.1.b,v4.1.p⟩:au) (10:Int)) λv7=>bif (v7.2==(0:Int)) then Nw (fq (⟨v7.1.b,v7.1.p⟩:au) ([(-1:Int),(1296:Int),(1290:Int)]:LI)) λv9=>some (v9.1.b,v9.1.p,v9.2) else some (v7.1.b,v7.1.p,((v2.2*(36:Int))+v4.2))) λs6=>Nw (iI (⟨s6.1,s6.2.1⟩:au)) λv10=>some (s6.2.2,v10.2.1,v10.2.2)
def lV (a:LI) (b:LI):LS Int (Unit ⊕ Bool):=λs5=>bif decide (s5<(a.length:Int)) then gd (decide<|0<=s5/\s5<(a.length:Int)) <|gd (decide<|0<=s5/\s5<(b.length:Int)) <|bif ((a.getD s5.toNat default) != (b.getD s5.toNat default)) then some (.inr<|.inr false) else gd (Jg .i64<|s5+(1:Int)) <|some (.inl<|s5+(1:Int)) else some (.inr<|.inl ())
def jw (a:LI) (b:LI):Option Bool:= bif ((a.length:Int) != (b.length:Int)) then some false else sumK (bQ (lV a b) (0:Int)) λs2=>some true
def kU (a:LL) (b:LL):LS Int (Unit ⊕ Bool):=λs5=>bif decide (s5<(a.length:Int)) then gd (decide<|0<=s5/\s5<(a.length:Int)) <|gd (decide<|0<=s5/\s5<(b.length:Int)) <|Nw (jw (a.getD s5.toNat default)<|b.getD s5.toNat default) λv10=>bif !v10 then some (.inr<|.inr false) else gd (Jg .i64<|s5+(1:Int)) <|some (.inl<|s5+(1:Int)) else some (.inr<|.inl ())
def jb (a:LL) (b:LL):Option Bool:= bif ((a.length:Int) != (b.length:Int)) then some false else sumK (bQ (kU a b) (0:Int)) λs2=>some true
def cK (code:LI):Option Bool:= bif decide ((1048576:Int)<(code.length:Int)) then some true else Nw (dV code) λv2=>Nw (fu v2.1) λv3=>Nw (fB v2.1) λv4=>Nw (bif (!(v3.2==v4.2)) then some true else Nw (dN v3.1 v4.1) λv7=>some<|!v7) λs5=>Nw (bif s5 then some true else some (!v3.2)) λs8=>bif s8 then Nw (bif (v3.2==v4.2) then Nw (dN v3.1 v4.1) λv13=>some v13 else some false) λs11=>some s11 else Nw (aV v3.1 v2.2.1) λv14=>Nw (aV v3.1 v2.2.2) λv15=>Nw (bif ((v14.length:Int)==(0:Int)) then some true else some ((v15.length:Int)==(0:Int))) λs16=>Nw (bif s16 then some true else Nw (gG v3.1 v2.2.1 v2.2.2) λv20=>Nw (jb v14 v15) λv21=>some<|v20==(!v21)) λs18=>some s18
theorem EB {k:Int} {r:au} (h:Rd k r) (hk:k<=100000000) (l:List ByteArray) (hl:l≠[]):Jl (gu r l) λv=>Rd (k+1) v.1/\v.2∈l:=by
 have hpos:0<l.length:=List.length_pos_iff.2 hl;unfold gu;refine (rB h.mk' hk _).bind λv ⟨h1,h2,h3⟩ => ?_;refine .gdD ⟨h2,by omega⟩<|.pure ⟨h1,?_⟩;have : v.2.toNat<l.length:=by omega
 rw [gdq,geq this];exact NL _
theorem FN {a b:LI} (ha:a.length<=1099511627776):Jl (jw a b) (· = decide (a=b)):=by
 unfold jw;refine .bif (λh => .pure (decide_eq_false λe=>?_).symm) λh=>?_
 ·rw [e] at h;simp at h
 have hl:a.length=b.length:=by
  have : (a.length:Int)=(b.length:Int):=by simpa using h
  omega
 refine Jl.sum (PS:=λ_=>a=b) (PW:=(· = decide (a=b))) ?_ λ_ he => .pure (decide_eq_true he).symm;refine Jl.loop (λi=>(0<=i/\i<=(a.length:Int))/\∀ j:Nat,(j:Int)<i->a[j]? = b[j]?) (λi=>((a.length:Int)-i).toNat) ⟨⟨ND _,by omega⟩,λj hj=>by omega⟩ λi ⟨⟨h1,h2⟩,h3⟩ => ?_;unfold lV;refine .bifD (λhlt => .gdD ⟨h1,hlt⟩<|.gdD ⟨h1,by omega⟩<|.bif (λhn => .pure ?_) λhn => .gdI (by omega)<|.pure ⟨⟨⟨by omega,by omega⟩,λj hj=>?_⟩,by omega⟩) λhge => .pure<|Oe λj=>?_
 ·refine (decide_eq_false λe=>?_).symm;rw [e] at hn;simp at hn
 ·by_cases e:j=i.toNat
  ·subst e;have hi:i.toNat<a.length:=by omega
   have hi2:i.toNat<b.length:=by omega
   have : a.getD i.toNat default=b.getD i.toNat default:=by simpa using hn
   rw [gdq,gdq,geq hi,geq hi2] at this;rw [geq hi,geq hi2];exact congrArg some this
  exact h3 j (by omega)
 rcases Oh j a.length with g | g
 ·exact h3 j (by omega)
 rw [gen g,gen (by omega)]
theorem FO {a b:LL} (ha:a.length<=1099511627776) (hr:∀ r∈a,r.length<=1048576):Jl (jb a b) (· = decide (a=b)):=by
 unfold jb;refine .bif (λh => .pure (decide_eq_false λe=>?_).symm) λh=>?_
 ·rw [e] at h;simp at h
 have hl:a.length=b.length:=by
  have : (a.length:Int)=(b.length:Int):=by simpa using h
  omega
 refine Jl.sum (PS:=λ_=>a=b) (PW:=(· = decide (a=b))) ?_ λ_ he => .pure (decide_eq_true he).symm;refine Jl.loop (λi=>(0<=i/\i<=(a.length:Int))/\∀ j:Nat,(j:Int)<i->a[j]? = b[j]?) (λi=>((a.length:Int)-i).toNat) ⟨⟨ND _,by omega⟩,λj hj=>by omega⟩ λi ⟨⟨h1,h2⟩,h3⟩ => ?_;unfold kU;refine .bifD (λhlt => .gdD ⟨h1,hlt⟩<|.gdD ⟨h1,by omega⟩ ?_) λhge => .pure<|Oe λj=>?_
 ·have hi:i.toNat<a.length:=by omega
  have hi2:i.toNat<b.length:=by omega
  have ea:a.getD i.toNat default=a[i.toNat]:=by simp [List.getD,hi]
  have eb:b.getD i.toNat default=b[i.toNat]:=by simp [List.getD,hi2]
  rw [ea,eb];refine (FN (b:=b[i.toNat]) (by have := hr _<|NL hi;omega)).bind λv hv=>?_;subst hv;rw [<- decide_not];refine .bifD (λhn => .pure (decide_eq_false λe=>hn ?_).symm) λhn => .gdI (by omega)<|.pure ⟨⟨⟨by omega,by omega⟩,λj hj=>?_⟩,by omega⟩
  ·subst e
   rfl
  by_cases e:j=i.toNat
  ·subst e;rw [geq hi,geq hi2];exact congrArg some<|Decidable.not_not.1 hn
  exact h3 j (by omega)
 rcases Oh j a.length with g | g
 ·exact h3 j (by omega)
 rw [gen g,gen (by omega)]
theorem Ct {a b:LL} (ha:a.Pairwise ltL) (hb:b.Pairwise ltL) (h:∀ o,o∈a↔o∈b):a=b:=by
 refine nN ((List.perm_ext_iff_of_nodup (ha.imp λh=>Ei h)<|hb.imp λh=>Ei h).2 h) (ha.imp λh=>xC.2<|.inl h)<|hb.imp λh=>xC.2<|.inl h
section
variable {p:List (List Ji)}
structure OkQ (q:List (List Int)):Prop where
 lt:q.Pairwise ltL
 sm:(∀ r∈q,r.length<=1048576)/\q.length<=1099511627776
theorem OkQ.nil:OkQ []:=⟨.nil,⟨λ_ h=>(nomatch h),NT _⟩⟩
theorem DN (n:Nat) (a:RS):(Gc n a).length=3*n+3:=by
 unfold Gc;rw [lla];have : ∀ n,((Ny n).flatMap λt=>(Ny 3).map λg:Nat=>a.rg t g).length=3*n:=λn=>by
  induction n with
  | zero=>rfl
  | succ n ih=>
   rw [show Ny (n+1)=Ny n++[n] from Ol,N8,lla,ih];simp;omega
 rw [this];simp
theorem FP {o:LI} (h:RaO p o):o.length=3*p.length+3:=by
 obtain ⟨a,_,_,rfl⟩:=h;exact DN _ _
theorem RunL.okQ (hp:PV p) {O:LI->Prop} {q:LL} (h:RunL p O q):OkQ q:=⟨h.run.lt,h.small hp⟩
theorem zk (hp:PW p) (hb:gb (p.map λr=>r.map iN)=true) (hv:aJ p=some true) (nm:ByteArray):Jl (aV p nm) λq=>OkQ q/\(ib nm=some true\/q=[]):=by
 have hl:=hp.pv.vs.1;unfold aV;refine .bifD (λe=>?_) λ_ => .bifD (λe=>?_) λ_ => .bifD (λe=>?_) λ_ => .bifD (λe=>?_) λ_ => .pure ⟨.nil,.inr rfl⟩
 ·subst e;exact (Im hp.pv hv).bind λq h => .pure ⟨h.okQ hp.pv,.inl rfl⟩
 ·subst e;refine Jl.bind (P:=OkQ) ?_ λq h => .pure ⟨h,.inl rfl⟩;unfold iA;exact (yR hp hv false).bind λq h => .pure<|RunL.okQ hp.pv ⟨h,λr hr=>yU<|(h.mem r).1 hr⟩
 ·subst e;refine Jl.bind (P:=OkQ) ?_ λq h => .pure ⟨h,.inl rfl⟩;unfold iB;exact (yR hp hv true).bind λq h => .pure<|RunL.okQ hp.pv ⟨h,λr hr=>yU<|(h.mem r).1 hr⟩
 subst e;exact (DL hp hb hv).bind λq h => .pure ⟨⟨h.lt,λr hr=>by rw [FP ((h.mem r).1 hr)];omega,by have := h.len;omega⟩,.inl rfl⟩
theorem zm (hv:aJ p=some false) (nm:ByteArray):Jl (aV p nm) (· = []):=by
 have e1:eM p=some []:=by unfold eM;rw [hv];rfl
 have e2:iA p=some []:=by unfold iA;rw [yS hv];rfl
 have e3:iB p=some []:=by unfold iB;rw [yS hv];rfl
 have e4:iq p=some []:=by unfold iq;rw [hv];rfl
 unfold aV;rw [e1,e2,e3,e4];exact .bifD (λ_ => .pure rfl) λ_ => .bifD (λ_ => .pure rfl) λ_ => .bifD (λ_ => .pure rfl) λ_ => .bifD (λ_ => .pure rfl) λ_ => .pure rfl
end
theorem DR {a b:LL} (ha:a.Pairwise ltL) (hb:b.Pairwise ltL):(decide (∀ o∈a,o∈b)&&decide (∀ o∈b,o∈a))=decide (a=b):=by
 by_cases e:a=b
 ·subst e;simp
 rw [decide_eq_false e,Bool.and_eq_false_iff,decide_eq_false_iff_not,decide_eq_false_iff_not];refine Decidable.byContradiction λh=>?_;rw [not_or,Decidable.not_not,Decidable.not_not] at h;exact e<|Ct ha hb λo=>⟨h.1 o,h.2 o⟩
theorem Cu {b:LI} (hb:Bts b):Jl (dV b) λv => -1<=v.1/\v.1<=1296:=by
 unfold dV;refine (Dm hb).bind λr h=>(rB h.mk' (by omega) _).bind λv2 ⟨a1,a2,a3⟩ => .gdI (by omega)<|(rB a1.mk' (by omega) _).bind λv4 ⟨b1,b2,b3⟩ => .gdI (by omega) ?_;refine Jl.bind (P:=λz:List Int×Int×Int=>(∃ k:Int,k<=20/\Rd k ⟨z.1,z.2.1⟩) /\ -1<=z.2.2/\z.2.2<=1296) ((rB b1.mk' (by omega) _).bind λv7 ⟨c1,_,_⟩ => .bif (λ_=>(Fs c1.mk' (by omega) _<|by simp).bind λv9 ⟨d1,d2⟩ => .pure ⟨⟨_,?_,d1.mk'⟩,?_⟩) λ_ => .pure ⟨⟨_,?_,c1.mk'⟩,by simp only [];omega⟩) λz ⟨⟨k,hk,hz⟩,h1⟩ => ?_
 ·omega
 ·simp only [N9,Om,or_false] at d2;simp only;omega
 ·omega
 refine Jl.bind (P:=λ_=>True) ?_ λv _ => .pure h1;unfold iI;exact (EB hz.mk' (by omega) _<|by simp).bind λv1 ⟨e1,_⟩=>(EB e1.mk' (by omega) _<|by simp).bind λv2 _ => .pure trivial
theorem Iu {b:LI} (hb:Bts b):cK b=some true:=by
 refine Jl.eq ?_;unfold cK;refine .bifD (λ_ => .pure rfl) λ_=>(Cu hb).bind λd hn=>?_;obtain ⟨n,na,nb⟩:=d;simp only at hn ⊢;obtain ⟨⟨p,ok⟩,h1,h2,h3,h4⟩:=GV hn;simp only at h3 h4;refine (Jl.of (P:=(· = (p,ok))) h1 rfl).bind λv3 e3=>(Jl.of (P:=(· = (p,ok))) h2 rfl).bind λv4 e4=>?_;subst e3 e4;have hsame:=Dj p (by omega) λr hr=>by have := h4 r hr;omega
 have htot:=vg h4;have hsz:p.length<=1048576/\total p<=1048576:=⟨by omega,by omega⟩;have hval:aJ p=some (gb<|p.map λr=>r.map iN):=mo<|decide_eq_true hsz;refine Jl.bind (P:=(· = false)) (.bif (λh=>by simp at h) λ_=>hsame.bind λv hv => .pure<|by rw [hv];rfl) λs5 h5=>?_;subst h5;refine Jl.bind (P:=(· = !ok)) (.bif (λh=>by cases h) λ_ => .pure rfl) λs8 h8=>?_;subst h8;refine .bif (λ_=>?_) λ_=>?_
 ·exact Jl.bind (P:=(· = true)) (.bif (λ_=>hsame.bind λv hv => .pure hv) λh=>by simp at h) λs hs => .pure hs
 cases hvb:gb (p.map λr=>r.map iN) with
 | false=>
  rw [hvb] at hval;refine (zm hval na).bind λx ex=>(zm hval nb).bind λy ey=>?_;subst ex ey;exact .pure rfl
 | true=>
  have hp:=PW.of hvb;rw [hvb] at hval;obtain ⟨x,ex,hx,mx⟩:=zk hp hvb hval na;obtain ⟨y,ey,hy,my⟩:=zk hp hvb hval nb;refine (Jl.of (P:=(· = x)) ex rfl).bind λx' e=>(Jl.of (P:=(· = y)) ey rfl).bind λy' e' => ?_;subst e e';refine Jl.bind (P:=(· = (x'.isEmpty||y'.isEmpty))) (.bif (λh => .pure ?_) λh => .pure ?_) λs hs=>?_
  ·have : x'=[]:=List.eq_nil_of_length_eq_zero (by simpa using h);rw [this];rfl
  ·have : x'≠[]:=λe=>by rw [e] at h;simp at h
   cases x' with
   | nil=>exact absurd rfl this
   | cons a l=>
    cases y' with
    | nil=>rfl
    | cons c r=>
     simp only [List.isEmpty_cons,Bool.or_false,llc,beq_eq_false_iff_ne,ne_eq];omega
  subst hs;refine Jl.bind (P:=(· = true)) (.bif (λ_ => .pure rfl) λh=>?_) λs hs => .pure hs;rw [Bool.or_eq_false_iff,Ov,Ov] at h;have ma:=mx.resolve_right h.1;have mb:=my.resolve_right h.2;obtain ⟨v,ev,hv'⟩:=xM hx.sm hy.sm;rw [DR hx.lt hy.lt] at hv';have et:gG p na nb=some (v != 0):=by
   unfold gG;simp only [hval,ma,mb,ex,ey,ev,Option.bind_some,cond_true]
  refine (Jl.of (P:=(· = (v != 0))) et rfl).bind λa ha=>(FO (b:=y') hx.sm.2 hx.sm.1).bind λc hc=>?_;subst ha hc;exact .pure (by rw [hv'];simp)
theorem Jo:TyF Tryz.prog 3 false 1:=⟨by kernel_rfl,by kernel_rfl,by kernel_rfl,by kernel_rfl⟩
theorem zs3:TyZ Tryz.prog 3 [I (0:Int)]:=⟨by kernel_rfl,by kernel_rfl⟩
theorem ty4:TyF Tryz.prog 4 false 1:=⟨by kernel_rfl,by kernel_rfl,by kernel_rfl,by kernel_rfl⟩
theorem bt4:lq Tryz.prog 4=true:=by kernel_rfl
theorem Jp:TyF Tryz.prog 5 false 1:=⟨by kernel_rfl,by kernel_rfl,by kernel_rfl,by kernel_rfl⟩
theorem zs5:TyZ Tryz.prog 5 [Y (0:Int)]:=⟨by kernel_rfl,by kernel_rfl⟩
theorem ty9:TyF Tryz.prog 9 false 1:=⟨by kernel_rfl,by kernel_rfl,by kernel_rfl,by kernel_rfl⟩
theorem zs9:TyZ Tryz.prog 9 [St (⟨#[]⟩:ByteArray)]:=⟨by kernel_rfl,by kernel_rfl⟩
theorem vL:TyF Tryz.prog 22 false 1:=⟨by kernel_rfl,by kernel_rfl,by kernel_rfl,by kernel_rfl⟩
theorem I6:TyZ Tryz.prog 22 [.nil]:=⟨by kernel_rfl,by kernel_rfl⟩
theorem Cv:TyF Tryz.prog 24 false 1:=⟨by kernel_rfl,by kernel_rfl,by kernel_rfl,by kernel_rfl⟩
theorem wW:TyF Tryz.prog 41 false 1:=⟨by kernel_rfl,by kernel_rfl,by kernel_rfl,by kernel_rfl⟩
theorem IU:TyZ Tryz.prog 41 [.nil]:=⟨by kernel_rfl,by kernel_rfl⟩
theorem FQ:TyF Tryz.prog 66 false 1:=⟨by kernel_rfl,by kernel_rfl,by kernel_rfl,by kernel_rfl⟩
theorem I7:TyZ Tryz.prog 66 [.nil]:=⟨by kernel_rfl,by kernel_rfl⟩
theorem qi:TyF Tryz.prog 69 true 4:=⟨by kernel_rfl,by kernel_rfl,by kernel_rfl,by kernel_rfl⟩
theorem tF:TyZ Tryz.prog 69 [I (0:Int),I (0:Int),I (0:Int),I (0:Int)]:=⟨by kernel_rfl,by kernel_rfl⟩
theorem ko:TyS Tryz.prog 69 [(0,1),(1,1),(2,1),(3,1)]:=⟨by kernel_rfl⟩
theorem I8:TyE Tryz.prog 69:=⟨by kernel_rfl,by kernel_rfl,by kernel_rfl⟩
theorem FR:TyF Tryz.prog 91 false 1:=⟨by kernel_rfl,by kernel_rfl,by kernel_rfl,by kernel_rfl⟩
theorem I9:TyZ Tryz.prog 91 [.v .nilIface]:=⟨by kernel_rfl,by kernel_rfl⟩
theorem Ja:TyZ Tryz.prog 99 [.nil,I (0:Int)]:=⟨by kernel_rfl,by kernel_rfl⟩
theorem Ai:TyS Tryz.prog 99 [(0,1),(1,1)]:=⟨by kernel_rfl⟩
theorem qR:TyF Tryz.prog 115 true 3:=⟨by kernel_rfl,by kernel_rfl,by kernel_rfl,by kernel_rfl⟩
theorem Iw:TyZ Tryz.prog 115 [Y (0:Int),Y (0:Int),Y (0:Int)]:=⟨by kernel_rfl,by kernel_rfl⟩
theorem Iy:TyF Tryz.prog 116 true 9:=⟨by kernel_rfl,by kernel_rfl,by kernel_rfl,by kernel_rfl⟩
theorem Hm:TyF Tryz.prog 118 true 16:=⟨by kernel_rfl,by kernel_rfl,by kernel_rfl,by kernel_rfl⟩
theorem DT:TyZ Tryz.prog 118 [.nil,Y (0:Int),Y (0:Int),Y (0:Int),Y (0:Int),Y (0:Int),Y (0:Int),Y (0:Int),Y (0:Int),Y (0:Int),Y (0:Int),Y (0:Int),Y (0:Int),Y (0:Int),Y (0:Int),Y (0:Int)]:=⟨by kernel_rfl,by kernel_rfl⟩
theorem iJ:TyS Tryz.prog 118 [(0,1),(1,3),(4,9),(13,3)]:=⟨by kernel_rfl⟩
theorem Hn:TyF Tryz.prog 120 true 16:=⟨by kernel_rfl,by kernel_rfl,by kernel_rfl,by kernel_rfl⟩
theorem Hp:TyZ Tryz.prog 120 [.nil,Y (0:Int),Y (0:Int),Y (0:Int),Y (0:Int),Y (0:Int),Y (0:Int),Y (0:Int),Y (0:Int),Y (0:Int),Y (0:Int),Y (0:Int),Y (0:Int),Y (0:Int),Y (0:Int),Y (0:Int)]:=⟨by kernel_rfl,by kernel_rfl⟩
theorem Cw:TyS Tryz.prog 120 [(0,16)]:=⟨by kernel_rfl⟩
theorem aY:TyF Tryz.prog 127 false 1:=⟨by kernel_rfl,by kernel_rfl,by kernel_rfl,by kernel_rfl⟩
theorem FT:TyF Tryz.prog 128 true 3:=⟨by kernel_rfl,by kernel_rfl,by kernel_rfl,by kernel_rfl⟩
theorem bO:TyF Tryz.prog 129 true 3:=⟨by kernel_rfl,by kernel_rfl,by kernel_rfl,by kernel_rfl⟩
theorem FU:TyZ Tryz.prog 129 [Y (0:Int),Y (0:Int),Y (0:Int)]:=⟨by kernel_rfl,by kernel_rfl⟩
theorem Iz:TyF Tryz.prog 130 true 9:=⟨by kernel_rfl,by kernel_rfl,by kernel_rfl,by kernel_rfl⟩
theorem Hq:TyF Tryz.prog 132 true 28:=⟨by kernel_rfl,by kernel_rfl,by kernel_rfl,by kernel_rfl⟩
theorem Hr:TyZ Tryz.prog 132 [.nil,Y (0:Int),Y (0:Int),Y (0:Int),Y (0:Int),Y (0:Int),Y (0:Int),Y (0:Int),Y (0:Int),Y (0:Int),Y (0:Int),Y (0:Int),Y (0:Int),Y (0:Int),Y (0:Int),Y (0:Int),.nil,.nil,.nil,Y (0:Int),Y (0:Int),Y (0:Int),Y (0:Int),Y (0:Int),Y (0:Int),Y (0:Int),Y (0:Int),Y (0:Int)]:=⟨by kernel_rfl,by kernel_rfl⟩
theorem bT:TyS Tryz.prog 132 [(0,16),(16,3),(19,9)]:=⟨by kernel_rfl⟩
theorem Cy:TyF Tryz.prog 134 true 5:=⟨by kernel_rfl,by kernel_rfl,by kernel_rfl,by kernel_rfl⟩
theorem tV:TyZ Tryz.prog 134 [Y (0:Int),Bo false,Y (0:Int),Y (0:Int),Y (0:Int)]:=⟨by kernel_rfl,by kernel_rfl⟩
theorem iK:TyS Tryz.prog 134 [(0,1),(1,1),(2,3)]:=⟨by kernel_rfl⟩
theorem qU:TyF Tryz.prog 150 false 1:=⟨by kernel_rfl,by kernel_rfl,by kernel_rfl,by kernel_rfl⟩
theorem Hs:TyF Tryz.prog 152 true 18:=⟨by kernel_rfl,by kernel_rfl,by kernel_rfl,by kernel_rfl⟩
theorem Ht:TyZ Tryz.prog 152 [.nil,Y (0:Int),Y (0:Int),Y (0:Int),Y (0:Int),Y (0:Int),Y (0:Int),Y (0:Int),Y (0:Int),Y (0:Int),Y (0:Int),Y (0:Int),Y (0:Int),Y (0:Int),Y (0:Int),Y (0:Int),Bo false,.nil]:=⟨by kernel_rfl,by kernel_rfl⟩
theorem lK:TyS Tryz.prog 152 [(0,16),(16,1),(17,1)]:=⟨by kernel_rfl⟩
theorem mZ:SlT Tryz.prog 22 5 false 1 [Y (0:Int)] 1:=⟨Tryz.underlying22,Jp,zs5,rfl,rfl,by kernel_rfl⟩
theorem sO:SlT Tryz.prog 24 66 false 1 [.nil] 24:=⟨Tryz.underlying24,FQ,I7,rfl,rfl,by kernel_rfl⟩
theorem qj:SlT Tryz.prog 34 41 false 1 [.nil] 24:=⟨Tryz.underlying34,wW,IU,rfl,rfl,by kernel_rfl⟩
theorem H5:SlT Tryz.prog 40 9 false 1 [St (⟨#[]⟩:ByteArray)] 16:=⟨Tryz.underlying40,ty9,zs9,rfl,rfl,by kernel_rfl⟩
theorem lg:SlT Tryz.prog 41 3 false 1 [I (0:Int)] 8:=⟨Tryz.underlying41,Jo,zs3,rfl,rfl,by kernel_rfl⟩
theorem sP:SlT Tryz.prog 66 69 true 4 [I (0:Int),I (0:Int),I (0:Int),I (0:Int)] 32:=⟨Tryz.underlying66,qi,tF,rfl,rfl,by kernel_rfl⟩
theorem vC:KeyA Tryz.prog 9 1 p5:=Gt Tryz.underlying9
theorem kL:SlT Tryz.prog 110 91 false 1 [.v .nilIface] 16:=⟨Tryz.underlying110,FR,I9,rfl,rfl,by kernel_rfl⟩
theorem eu:SlT Tryz.prog 127 134 true 5 [Y (0:Int),Bo false,Y (0:Int),Y (0:Int),Y (0:Int)] 5:=⟨Tryz.underlying127,Cy,tV,rfl,rfl,by kernel_rfl⟩
theorem ni:SlT Tryz.prog 150 22 false 1 [.nil] 24:=⟨Tryz.underlying150,vL,I6,rfl,rfl,by kernel_rfl⟩
end
end Go.Proofs.YtjcmfddobaplbaaGreat
