/- Texts joined. No conditions. -/
import Derived.BigRegion
import Derived.Outline
import Derived.Deep.RegionLaw
import Derived.WalkSpells
import Derived.Lib.SliceRun
import Derived.Lib.AppendZeros
import Derived.Deep.Upon
import Derived.Test.YtjcmfddobaplbaaGreatW6
namespace Go.Proofs.YtjcmfddobaplbaaGreat
noncomputable section
open _root_.List renaming range -> QS, mem_cons_self -> QV, mem_flatMap -> QY, isEmpty_iff -> Q0, mem_cons -> Q3, not_mem_nil -> Q5, mem_singleton -> Q6, ext_getElem -> Q7, flatMap_cons -> Q9, mem_range -> Ra, mem_map -> Rb, length_range -> Re, all_eq_true -> Rf, mem_of_getElem? -> Rh, eq_nil_of_length_eq_zero -> Ri, getElem_map -> Rj, mem_cons_of_mem -> Rk, mem_append -> Rl, replicate -> Rn, isEmpty_eq_false_iff -> Ro, map_cons -> Rp, map_append -> Rs, map_congr_left -> Rt, getElem_of_mem -> Ru, range_succ -> Rv, length_singleton -> Rw, cons_append -> Rx, getElem?_map -> Ry, getElem?_set_ne -> RA, map_eq_nil_iff -> RD, mem_or_eq_of_mem_set -> RE, exists_cons_of_ne_nil -> RF, eq_nil_iff_forall_not_mem -> RG, flatMap_append -> RH
open _root_.Nat renaming le_refl -> QT, le_trans -> QX, zero_le -> Q4, mul_le_mul_right -> Rc, lt_or_ge -> Rm, pow_le_pow_right -> Rz
open _root_.Option renaming bind -> QU, getD_some -> QZ
open _root_.Int renaming le_refl -> QW, mul_tdiv_add_tmod -> Rq
open _root_.Array renaming getElem?_setIfInBounds_ne -> Q8
open Go.RowKit
set_option maxRecDepth 100000
def ud {κ α:Type} [DecidableEq κ] (f:κ->α) (k:κ) (v:α):κ->α:=λj=>if j=k then v else f j
section
variable {κ α:Type} [DecidableEq κ]
theorem pz (f:κ->α) (k j:κ) (v:α):ud f k v j=if j=k then v else f j:=rfl
theorem dS (f:κ->α) (k:κ) (v:α):ud f k v k=v:=if_pos rfl
theorem jZ {f:κ->α} {k j:κ} {v:α} (h:j≠k):ud f k v j=f j:=if_neg h
theorem zT (f:κ->α) (k:κ) (v w:α):ud (ud f k v) k w=ud f k w:=by
 funext j;unfold ud;split <;> rfl
theorem KU (f:κ->α) (k:κ):ud f k (f k)=f:=by
 funext j;unfold ud;split
 ·rename_i h;rw [h]
 rfl
theorem Fu (f:κ->α) {k j:κ} (v w:α) (h:k≠j):ud (ud f k v) j w=ud (ud f j w) k v:=by
 funext i;unfold ud;split <;> split <;> first | rfl | (exfalso;rename_i h1 h2;exact h<|h2 ▸ h1)
end
inductive Rch {α:Type} (S:α->α->Prop) (a0:α):α->Prop
 | base:Rch S a0 a0
 | step {a b:α} (h:Rch S a0 a) (s:S a b):Rch S a0 b
theorem Rch.inv {α:Type} {S:α->α->Prop} {a0:α} (I:α->Prop) (h0:I a0) (hs:∀ a b,I a->S a b->I b) {a:α} (h:Rch S a0 a):I a:=by
 induction h with
 | base=>exact h0
 | step _ s ih=>exact hs _ _ ih s
theorem Rch.trans {α:Type} {S:α->α->Prop} {a0 a b:α} (h:Rch S a0 a) (k:Rch S a b):Rch S a0 b:=by
 induction k with
 | base=>exact h
 | step _ s ih=>exact ih.step s
structure Bis {σ α:Type} (M:Mac σ) (s0:σ) (S:α->α->Prop) (a0:α) (D:α->Prop) (O:α->List Int) (I:σ->Prop) (A:σ->α):Prop where
 i0:I s0
 h0:A s0=a0
 fw:∀ s m,I s->Rch S a0 (A s)->m∈M.mv s->I (M.af s m)/\S (A s) (A<|M.af s m)
 bw:∀ s b,I s->Rch S a0 (A s)->S (A s) b->∃ m,m∈M.mv s/\A (M.af s m)=b
 dn:∀ s,I s->Rch S a0 (A s)->(M.dn s=true↔D (A s))
 oc:∀ s,I s->Rch S a0 (A s)->M.dn s=true->M.oc s=O (A s)
section
variable {σ α:Type} {M:Mac σ} {s0:σ} {S:α->α->Prop} {a0:α} {D:α->Prop} {O:α->LI} {I:σ->Prop} {A:σ->α}
theorem Bis.rea (B:Bis M s0 S a0 D O I A) {s:σ} (h:Rea M s0 s):I s/\Rch S a0 (A s):=by
 induction h with
 | base=>exact ⟨B.i0,by rw [B.h0];exact .base⟩
 | step _ hm ih=>
  have := B.fw _ _ ih.1 ih.2 hm;exact ⟨this.1,ih.2.step this.2⟩
theorem Bis.back (B:Bis M s0 S a0 D O I A) {a:α} (h:Rch S a0 a):∃ s,Rea M s0 s/\A s=a:=by
 induction h with
 | base=>exact ⟨s0,.base,B.h0⟩
 | step h k ih=>
  obtain ⟨s,h1,rfl⟩:=ih;have h2:=B.rea h1;obtain ⟨m,h3,h4⟩:=B.bw s _ h2.1 h2.2 k;exact ⟨_,.step h1 h3,h4⟩
def Md (S:α->α->Prop) (a0:α) (D:α->Prop) (O:α->LI) (o:LI):Prop:=∃ a,Rch S a0 a/\D a/\O a=o
theorem Bis.outs (B:Bis M s0 S a0 D O I A) (o:LI):Jo M s0 o↔Md S a0 D O o:=by
 refine ⟨λ⟨s,h1,h2,h3⟩ => ?_,λ⟨a,h1,h2,h3⟩ => ?_⟩
 ·have h4:=B.rea h1;exact ⟨A s,h4.2,(B.dn s h4.1 h4.2).1 h2,by rw [<- B.oc s h4.1 h4.2 h2,h3]⟩
 obtain ⟨s,h4,rfl⟩:=B.back h1;have h5:=B.rea h4;have h6:=(B.dn s h5.1 h5.2).2 h2;exact ⟨s,h4,h6,by rw [B.oc s h5.1 h5.2 h6,h3]⟩
theorem Bis.mok (B:Bis M s0 S a0 D O I A) {N:Nat} (hk:∀ s t,I s->I t->Rch S a0 (A s)->Rch S a0 (A t)->M.ky s=M.ky t->s=t) (ha:∀ s t,I s->I t->A s=A t->s=t) (hc:∀ V:List α,V.Nodup->(∀ v∈V,Rch S a0 v)->V.length<=N):Mok M s0 N where
 key:=λs t hs ht h=>hk s t (B.rea hs).1 (B.rea ht).1 (B.rea hs).2 (B.rea ht).2 h
 cnt:=λV hn hV=>by
  have := hc (V.map A) ?_ λv hv=>?_
  ·simpa using this
  ·rw [List.nodup_iff_pairwise_ne] at hn ⊢;rw [List.pairwise_map];exact hn.imp_of_mem λ{a b} h1 h2 hne e=>hne<|ha a b (B.rea<|hV a h1).1 (B.rea<|hV b h2).1 e
  obtain ⟨s,hs,rfl⟩:=Rb.1 hv;exact (B.rea<|hV s hs).2
end
structure TS where
 pc:Nat->Nat
 rg:Nat->Int->Int
 mm:Int->Int
 bf:Nat->Int->List (Int×Int)
def ul (x:Nf):Bool:=x.Op==2||x.Op==3
section
variable (P:Nat->List Nf) (d:Bool) (cl:Int->Int)
def rQ (l:Int) (b:List<|Int×Int) (z:Int):Int:=match b.reverse.find? (λe=>decide<|e.1=l) with
 | some e=>e.2
 | none=>z
def qg (a:TS) (t:Nat) (l:Int):Int:=rQ l (a.bf t<|cl l)<|a.mm l
def Bi (a:TS) (t:Nat) (x:Nf):Int:=if x.Op=3 then a.rg t x.Reg else x.Val
def exT (a:TS) (t:Nat) (x:Nf):TS where
 pc:=ud a.pc t<|a.pc t+1
 rg:=if Nl x then ud a.rg t (ud (a.rg t) x.Reg<|qg cl a t x.Loc) else a.rg
 mm:=if wrX x&&(d||x.Op==5) then ud a.mm x.Loc (Bi a t x) else a.mm
 bf:=if ul x && !d then ud a.bf t (ud (a.bf t) (cl x.Loc)<|a.bf t (cl x.Loc)++[(x.Loc,Bi a t x)]) else a.bf
theorem IA (a:TS) (t:Nat) (x:Nf):(exT d cl a t x).rg=if Nl x then ud a.rg t (ud (a.rg t) x.Reg<|qg cl a t x.Loc) else a.rg:=rfl
theorem IC (a:TS) (t:Nat) (x:Nf):(exT d cl a t x).mm=if wrX x&&(d||x.Op==5) then ud a.mm x.Loc (Bi a t x) else a.mm:=rfl
theorem ID (a:TS) (t:Nat) (x:Nf):(exT d cl a t x).bf=if ul x && !d then ud a.bf t (ud (a.bf t) (cl x.Loc)<|a.bf t (cl x.Loc)++[(x.Loc,Bi a t x)]) else a.bf:=rfl
def flT (a:TS) (t:Nat) (c:Int) (e:Int×Int) (r:List<|Int×Int):TS:={ a with mm:=ud a.mm e.1 e.2,bf:=ud a.bf t (ud (a.bf t) c r) }
def Me (a:TS) (t:Nat) (x:Nf):Prop:=(P t)[a.pc t]? = some x/\(x.Op=4\/x.Op=5->∀ c,a.bf t c=[])
inductive StT:TS->TS->Prop
 | ex {a:TS} {t:Nat} {x:Nf} (h:Me P a t x):StT a (exT d cl a t x)
 | fl {a:TS} {t:Nat} {c:Int} {e:Int×Int} {r:List (Int×Int)} (h:a.bf t c=e::r):StT a (flT a t c e r)
def a0T:TS:=⟨λ_=>0,λ_ _=>0,λ_=>0,λ_ _=>[]⟩
def DnT (a:TS):Prop:=(∀ t,(P t).length<=a.pc t)/\∀ t c,a.bf t c=[]
def outT (n:Nat) (a:TS):LI:=((QS n).flatMap λt=>(QS 3).map λg:Nat=>a.rg t g)++(QS 3).map λl:Nat=>a.mm l
def Kt (n:Nat):LI->Prop:=Md (StT P d cl) a0T (DnT P)<|outT n
end
section
variable {P:Nat->List Nf} {d:Bool} {cl:Int->Int}
theorem TS.ext {a b:TS} (h1:a.pc=b.pc) (h2:a.rg=b.rg) (h3:a.mm=b.mm) (h4:a.bf=b.bf):a=b:=by
 cases a;cases b;simp only at h1 h2 h3 h4;subst h1 h2 h3 h4;rfl
theorem KV {x:Nf} (h:ul x=true):Nl x=false/\wrX x=true/\x.Op≠4/\x.Op≠5:=by
 unfold ul at h;unfold Nl wrX;rcases Bool.or_eq_true _ _ ▸ h with h | h <;> (have:=eq_of_beq h;rw [this];decide)
end
theorem xd {α β:Type} {f:α->List β} {m:Nat}:∀ {l:List α},(∀ x∈l,(f x).length<=m)->(l.flatMap f).length<=l.length*m
 | [],_=>by simp
 | x::l,h=>by
  have h1:=h x QV;have h2:=xd (l:=l) λy hy=>h y<|Rk _ hy;rw [Q9,lla,llc,Nat.add_mul,Nat.one_mul];omega
theorem zU {α:Type} {V l:List α} (hn:V.Nodup) (h:∀ v∈V,v∈l):V.length<=l.length:=List.Nodup.length_le_of_subset hn h
abbrev LSt:=(Int->Int)×(Int->List (Int×Int))
def l0:LSt:=(λ_=>0,λ_=>[])
def MR (s:LSt) (x:Nf):Int:=if x.Op=3 then s.1 x.Reg else x.Val
section
variable (cl:Int->Int)
def lsx (x:Nf) (s:LSt):List LSt:=
 if Nl x then [(ud s.1 x.Reg 0,s.2),(ud s.1 x.Reg 1,s.2),(ud s.1 x.Reg 2,s.2),(ud s.1 x.Reg 3,s.2)]
 else if ul x then [(s.1,ud s.2 (cl x.Loc)<|s.2 (cl x.Loc)++[(x.Loc,MR s x)]),(s.1,ud s.2 (cl x.Loc) [])]
 else [s]
def LSn (l:List Nf):Nat->List LSt
 | 0=>[l0]
 | k+1=>(LSn l k).flatMap (lsx cl<|l.getD k default)
def Nn (l:List Nf):Nat:=l.countP λx=>x.Op != 4
variable {cl}
theorem Ju (x:Nf) (s:LSt):(lsx cl x s).length<=4 ^ Nn [x]:=by
 unfold lsx Nn Nl ul
 by_cases h:x.Op=4
 ·simp [h]
 have : (x.Op != 4)=true:=by simpa using h
 rw [List.countP_cons_of_pos (p:=λx:Nf=>x.Op != 4) this]
 split
 ·simp
 split <;> simp
theorem Fv {l:List Nf}:∀ {k:Nat},k<=l.length->(LSn cl l k).length<=4 ^ Nn (l.take k)
 | 0,_=>by simp [LSn,Nn]
 | k+1,h=>by
  have h1:=Fv (l:=l) (k:=k) (by omega);have h2:=xd (f:=lsx cl<|l.getD k default) (l:=LSn cl l k) λs _=>Ju _ s;have h3:Nn (l.take<|k+1)=Nn (l.take k)+Nn [l.getD k default]:=by
   unfold Nn;rw [List.take_add_one,List.countP_append,geq (by omega)];simp [List.getD,show k<l.length by omega]
  rw [h3,Nat.pow_add];exact QX h2<|Rc _ h1
theorem uV (l:List Nf) (k:Nat):Nn (l.take k)<=Nn l:=(List.take_sublist k l).countP_le
theorem xX {l:List Nf} {c:Int} {e:Int×Int}:∀ {k:Nat} {s:LSt} {r:List (Int×Int)},s∈LSn cl l k->s.2 c=e::r->(s.1,ud s.2 c r)∈LSn cl l k
 | 0,s,r,h,hc=>by
  obtain rfl:=Q6.1 h
  cases hc
 | k+1,s,r,h,hc=>by
  obtain ⟨u,hu,hs⟩:=QY.1 h;refine QY.2 ?_;unfold lsx at hs ⊢
  split at hs
  ·have h2:s.2=u.2:=by
    simp only [Q3,Q5,or_false] at hs;rcases hs with rfl | rfl | rfl | rfl <;> rfl
   rename_i hr;have := xX (s:=u) hu<|h2 ▸ hc;refine ⟨_,this,?_⟩;rw [if_pos hr];simp only [Q3,Q5,or_false] at hs ⊢;rcases hs with rfl | rfl | rfl | rfl <;> simp
  rename_i hr
  split at hs
  ·rename_i ht;simp only [Q3,Q5,or_false] at hs;rcases hs with rfl | rfl
   ·by_cases g:c=cl (l.getD k default).Loc
    ·subst g;simp only [dS] at hc
     cases hb:u.2 (cl (l.getD k default).Loc) with
     | nil=>
      rw [hb] at hc;injection hc with _ hc;refine ⟨u,hu,?_⟩;rw [if_neg hr,if_pos ht,<- hc,zT];simp
     | cons e0 r0=>
      rw [hb] at hc;injection hc with h1 hc;refine ⟨_,xX hu hb,?_⟩;rw [if_neg hr,if_pos ht];simp only [dS,zT];rw [<- hc];exact QV
    simp only [jZ g] at hc;refine ⟨_,xX hu hc,?_⟩;rw [if_neg hr,if_pos ht];simp only [];rw [jZ λe=>g e.symm,Fu _ _ _ g];exact QV
   by_cases g:c=cl (l.getD k default).Loc
   ·subst g;simp only [dS] at hc
    cases hc
   simp only [jZ g] at hc;refine ⟨_,xX hu hc,?_⟩;rw [if_neg hr,if_pos ht];simp only [];rw [show ud (ud u.2 (cl (l.getD k default).Loc) []) c r=ud (ud u.2 c r) (cl (l.getD k default).Loc) [] from Fu _ _ _ λe=>g e.symm];exact Rk _ QV
  rename_i ht;obtain rfl:=Q6.1 hs;refine ⟨_,xX hu hc,?_⟩;rw [if_neg hr,if_neg ht];exact QV
end
def VlL (s:LSt):Prop:=(∀ g,0<=s.1 g/\s.1 g<=3)/\∀ c e,e∈s.2 c->(0<=e.1/\e.1<=2)/\0<=e.2/\e.2<=3
section
variable {P:Nat->List Nf} {cl:Int->Int}
structure InT (P:Nat->List Nf) (cl:Int->Int) (a:TS):Prop where
 ls:∀ t,(a.rg t,a.bf t)∈LSn cl (P t) (a.pc t)
 vl:∀ t,VlL (a.rg t,a.bf t)
 pc:∀ t,a.pc t<=(P t).length
 mm:∀ l,0<=a.mm l/\a.mm l<=3
 m0:∀ l,¬ (0<=l/\l<=2)->a.mm l=0
theorem Fw {l z:Int} {b:List (Int×Int)}:rQ l b z=z\/∃ e∈b,rQ l b z=e.2:=by
 unfold rQ
 cases h:b.reverse.find? λe=>decide (e.1=l) with
 | none=>exact .inl rfl
 | some e=>exact .inr ⟨e,List.mem_reverse.1<|List.mem_of_find?_eq_some h,rfl⟩
theorem InT.start:InT P cl a0T:=⟨λ_=>QV,λ_=>⟨λ_=>⟨QW _,by show (0:Int)<=3;decide⟩,λ_ _ h=>by cases h⟩,λ_=>Q4 _,λ_=>⟨QW _,by show (0:Int)<=3;decide⟩,λ_ _=>rfl⟩
theorem InT.seen {a:TS} (h:InT P cl a) (t:Nat) (l:Int):0<=qg cl a t l/\qg cl a t l<=3:=by
 unfold qg;rcases Fw (l:=l) (z:=a.mm l) (b:=a.bf t<|cl l) with e | ⟨x,hx,e⟩
 ·rw [e];exact h.mm l
 rw [e];exact ((h.vl t).2 _ _ hx).2
theorem InT.val {a:TS} (h:InT P cl a) (t:Nat) {x:Nf} (hx:InR x):0<=Bi a t x/\Bi a t x<=3:=by
 unfold Bi
 split
 ·exact (h.vl t).1 _
 exact ⟨hx.2.2.2.2.1,hx.2.2.2.2.2⟩
theorem InT.step (hP:∀ (t k:Nat) (x:Nf),(P t)[k]? = some x->InR x) {a b:TS} (h:InT P cl a) (s:StT P false cl a b):InT P cl b:=by
 cases s with
 | @ex t x hc=>
  have hx:=hP _ _ _ hc.1;have hs:=h.seen t x.Loc;have hv:=h.val t hx;obtain ⟨hk,he⟩:=ges hc.1;have hg:(P t).getD (a.pc t) default=x:=by simp [List.getD,hc.1]
  refine ⟨λu=>?_,λu=>?_,λu=>?_,λl=>?_,λl hl=>?_⟩
  ·by_cases hu:u=t
   ·subst hu;have hl:=h.ls u;simp only [exT,dS];refine QY.2 ⟨_,hl,?_⟩;rw [hg];unfold lsx
    cases hr:Nl x with
    | true=>
     have hn:ul x=false:=by
      cases e:ul x with
      | false=>rfl
      | true=>rw [(KV e).1] at hr;cases hr
     rw [hn];simp only [if_true,Bool.false_and,Bool.false_eq_true,if_false,dS,Q3,Q5,or_false];have : qg cl a u x.Loc=0\/qg cl a u x.Loc=1\/qg cl a u x.Loc=2\/qg cl a u x.Loc=3:=by omega
     rcases this with e | e | e | e <;> rw [e] <;> simp
    | false=>
     simp only [Bool.false_eq_true,if_false]
     cases ht:ul x with
     | false=>simp
     | true=>
      simp only [if_true,Bool.true_and,Bool.not_false,dS];exact QV
   simp only [exT,jZ hu];have hl:=h.ls u;have e1:(if Nl x=true then ud a.rg t (ud (a.rg t) x.Reg<|qg cl a t x.Loc) else a.rg) u=a.rg u:=by split <;> simp [jZ hu]
   have e2:(if (ul x && !false)=true then ud a.bf t (ud (a.bf t) (cl x.Loc)<|a.bf t (cl x.Loc)++[(x.Loc,Bi a t x)]) else a.bf) u=a.bf u:=by split <;> simp [jZ hu]
   rw [e1,e2];exact hl
  ·have hl:=h.vl u
   by_cases hu:u=t
   ·subst hu;refine ⟨λg=>?_,λc e he=>?_⟩
    ·simp only [exT]
     split
     ·rw [dS];unfold ud
      split
      ·exact hs
      exact hl.1 g
     exact hl.1 g
    simp only [exT] at he
    split at he
    ·rw [dS] at he;unfold ud at he
     split at he
     ·rcases Rl.1 he with he | he
      ·exact hl.2 _ _ he
      rw [Q6.1 he];exact ⟨⟨hx.1,hx.2.1⟩,hv⟩
     exact hl.2 _ _ he
    exact hl.2 _ _ he
   have e1:(exT false cl a t x).rg u=a.rg u:=by simp only [exT];split <;> simp [jZ hu]
   have e2:(exT false cl a t x).bf u=a.bf u:=by simp only [exT];split <;> simp [jZ hu]
   rw [e1,e2];exact hl
  ·simp only [exT,ud]
   split
   ·rename_i e;subst e;omega
   exact h.pc u
  ·simp only [exT]
   split
   ·unfold ud
    split
    ·exact hv
    exact h.mm l
   exact h.mm l
  simp only [exT]
  split
  ·rw [jZ λe=>hl (by rw [e];exact ⟨hx.1,hx.2.1⟩)];exact h.m0 l hl
  exact h.m0 l hl
 | @fl t c e r hb=>
  have he:=(h.vl t).2 c e (by show e∈a.bf t c;rw [hb];exact QV);refine ⟨λu=>?_,λu=>?_,h.pc,λl=>?_,λl hl=>?_⟩
  ·by_cases hu:u=t
   ·subst hu;simp only [flT,dS];exact xX (h.ls u) hb
   simp only [flT,jZ hu];exact h.ls u
  ·have hl:=h.vl u
   by_cases hu:u=t
   ·subst hu;refine ⟨hl.1,λc' e' he' => ?_⟩;simp only [flT,dS] at he';unfold ud at he'
    split at he'
    ·exact hl.2 c e' (by show e'∈a.bf u c;rw [hb];exact Rk _ he')
    exact hl.2 _ _ he'
   simp only [flT,jZ hu];exact hl
  ·simp only [flT,ud]
   split
   ·exact he.2
   exact h.mm l
  simp only [flT];rw [jZ λe=>hl (by rw [e];exact he.1)];exact h.m0 l hl
theorem InT.of (hP:∀ (t k:Nat) (x:Nf),(P t)[k]? = some x->InR x) {a:TS} (h:Rch (StT P false cl) a0T a):InT P cl a:=
 h.inv _ .start λ_ _ h s=>h.step hP s
def Lt (P:Nat->List Nf) (cl:Int->Int) (t:Nat):List (Nat×LSt):=(QS<|(P t).length+1).flatMap λk=>(LSn cl (P t) k).map λs=>(k,s)
theorem Fx (h7:∀ t,(P t).length<=7) (t:Nat):(Lt P cl t).length<=8*4 ^ Nn (P t):=by
 have := xd (f:=λk=>(LSn cl (P t) k).map λs=>(k,s)) (l:=QS<|(P t).length+1) (m:=4 ^ Nn (P t)) λk hk=>by
  have hk:=Ra.1 hk;rw [llm];exact QX (Fv<|by omega)<|Rz (by decide)<|uV _ _
 rw [Re] at this;exact QX this<|Rc _ (by have := h7 t;omega)
def m3:List (Int×Int×Int):=[0,1,2,3].flatMap λa=>[0,1,2,3].flatMap λb=>[0,1,2,3].map λc=>(a,b,c)
theorem KW {a b c:Int} (ha:0<=a/\a<=3) (hb:0<=b/\b<=3) (hc:0<=c/\c<=3):(a,b,c)∈m3:=by
 have h:∀ x:Int,0<=x/\x<=3->x∈([0,1,2,3]:LI):=λx hx=>by
  have : x=0\/x=1\/x=2\/x=3:=by omega
  rcases this with rfl | rfl | rfl | rfl <;> decide
 exact QY.2 ⟨a,h a ha,QY.2 ⟨b,h b hb,Rb.2 ⟨c,h c hc,rfl⟩⟩⟩
def KX {α:Type} (a b c z:α) (t:Nat):α:=if t=0 then a else if t=1 then b else if t=2 then c else z
def mkT (a b c:Nat×LSt) (m:Int×Int×Int):TS where
 pc t:=(KX a b c (0,l0) t).1
 rg t:=(KX a b c (0,l0) t).2.1
 mm l:=if l=0 then m.1 else if l=1 then m.2.1 else if l=2 then m.2.2 else 0
 bf t:=(KX a b c (0,l0) t).2.2
theorem MS (hP:∀ (t k:Nat) (x:Nf),(P t)[k]? = some x->InR x) (h3:∀ t,3<=t->P t=[]) (h7:∀ t,(P t).length<=7) (he:Nn (P 0)+Nn (P 1)+Nn (P 2)<=12) (V:List TS) (hn:V.Nodup) (hV:∀ v∈V,Rch (StT P false cl) a0T v):V.length<=549755813888:=by
 have hs:=zU hn (l:=(Lt P cl 0).flatMap λa=>(Lt P cl 1).flatMap λb=>(Lt P cl 2).flatMap λc=>m3.map<|mkT a b c) λv hv=>?_
 ·have l2:=Fx (cl:=cl) h7 2;have l1:=Fx (cl:=cl) h7 1;have l0:=Fx (cl:=cl) h7 0;have k2:∀ a b,((Lt P cl 2).flatMap λc=>m3.map<|mkT a b c).length<=8*4 ^ Nn (P 2)*64:=λa b=>QX (xd (m:=64) λ_ _=>by rw [llm];decide) (Rc _ l2);have k1:∀ a,((Lt P cl 1).flatMap λb=>(Lt P cl 2).flatMap λc=>m3.map<|mkT a b c).length<=8*4 ^ Nn (P 1)*(8*4 ^ Nn (P 2)*64):=λa=>QX (xd λb _=>k2 a b)<|Rc _ l1;have k0:=QX (xd (l:=Lt P cl 0) λa _=>k1 a)<|Rc _ l0;have e:8*4 ^ Nn (P 0)*(8*4 ^ Nn (P 1)*(8*4 ^ Nn (P 2)*64))=32768*4 ^ (Nn (P 0)+Nn (P 1)+Nn (P 2)):=by
   rw [Nat.pow_add,Nat.pow_add];generalize 4 ^ Nn (P 0)=x;generalize 4 ^ Nn (P 1)=y;generalize 4 ^ Nn (P 2)=z;have : 8*x*(8*y*(8*z*64))=32768*(x*y*z):=by
    simp only [Nat.mul_assoc,Nat.mul_left_comm,Nat.mul_comm]
   exact this
  rw [e] at k0;have h4:4 ^ (Nn (P 0)+Nn (P 1)+Nn (P 2))<=4 ^ 12:=Rz (by decide) he;have h5:(4:Nat) ^ 12=16777216:=by decide
  omega
 have hi:=InT.of hP<|hV v hv;have hm:∀ t,(v.pc t,v.rg t,v.bf t)∈Lt P cl t:=λt=>QY.2 ⟨v.pc t,Ra.2 (by have := hi.pc t;omega),Rb.2 ⟨_,hi.ls t,rfl⟩⟩;refine QY.2 ⟨_,hm 0,QY.2 ⟨_,hm 1,QY.2 ⟨_,hm 2,Rb.2 ⟨(v.mm 0,v.mm 1,v.mm 2),KW (hi.mm 0) (hi.mm 1)<|hi.mm 2,?_⟩⟩⟩⟩;have hsel:∀ t,KX (v.pc 0,v.rg 0,v.bf 0) (v.pc 1,v.rg 1,v.bf 1) (v.pc 2,v.rg 2,v.bf 2) (0,l0) t=(v.pc t,v.rg t,v.bf t):=λt=>by
  unfold KX
  split
  ·rename_i h;rw [h]
  split
  ·rename_i h;rw [h]
  split
  ·rename_i h;rw [h]
  have h0:=h3 t (by omega);have h1:=hi.pc t;have h2:=hi.ls t;rw [h0] at h1 h2;have h1:v.pc t=0:=by simpa using h1
  rw [h1] at h2 ⊢;rw [Q6.1 h2]
 unfold mkT;refine TS.ext ?_ ?_ ?_ ?_
 ·funext t;simp only [hsel]
 ·funext t;simp only [hsel]
 ·funext l
  simp only []
  split
  ·rename_i h;rw [h]
  split
  ·rename_i h;rw [h]
  split
  ·rename_i h;rw [h]
  exact (hi.m0 l<|by omega).symm
 funext t;simp only [hsel]
end
def prg (p:List<|List Nf):Nat->List Nf:=λt=>p.getD t default
def clB (sp:Bool):Int->Int:=λl=>bif sp then l else 0
def zi (sp:Bool) (c:Int):Prop:=(sp=true/\0<=c/\c<=2)\/(sp=false/\c=0)
instance (sp:Bool) (c:Int):Decidable (zi sp c):=by unfold zi;infer_instance
def ixB (sp:Bool) (t:Nat) (c:Int):Nat:=bif sp then 3*t+c.toNat else t
def Ap (b:Int):Int×Int:=(b.tdiv 16,b.tmod 16)
def pcF (a:Z3b):Nat->Nat:=λt=>if t<3 then (Z3b.get a t).toNat else 0
def rgF (a:Z33):Nat->Int->Int:=λt g=>if t<3/\0<=g/\g<=2 then Z3b.get (Z33.get a t) g else 0
def mmF (a:Z3b):Int->Int:=λl=>if 0<=l/\l<=2 then Z3b.get a l else 0
def bfF (n:Nat) (sp:Bool) (w:LL):Nat->Int->List (Int×Int):=λt c=>if t<n/\zi sp c then (w.getD (ixB sp t c) default).map Ap else []
def AB (s:aj):TS:=⟨pcF s.values.pc,rgF s.values.reg,mmF s.values.mem,bfF s.values.p.length s.split s.waits⟩
def AS (s:Nh):TS:=⟨pcF s.values.pc,rgF s.values.reg,mmF s.values.mem,λ_ _=>[]⟩
theorem Bj (a:Z3b) {t:Nat} (ht:t<3) (v:Int):pcF (Z3b.set a t v)=ud (pcF a) t v.toNat:=by
 funext i
 simp only [pcF,pz]
 by_cases h:i<3
 ·rw [if_pos h,if_pos h,lm _ _ _ _ (by omega) (by omega)]
  by_cases e:i=t
  ·rw [if_pos (by omega),if_pos e]
  rw [if_neg (by omega),if_neg e]
 rw [if_neg h,if_neg h,if_neg (by omega)]
theorem zV (a:Z33) (t:Nat) (g:Int):rgF a t g=if t<3/\0<=g/\g<=2 then Z3b.get (Z33.get a t) g else 0:=rfl
theorem KY (n:Nat) (sp:Bool) (w:LL) (t:Nat) (c:Int):bfF n sp w t c=if t<n/\zi sp c then (w.getD (ixB sp t c) default).map Ap else []:=rfl
theorem Bl (a:Z33) {t:Nat} (ht:t<3) {g:Int} (hg:0<=g/\g<=2) (v:Int):rgF (Z33.set a t<|Z3b.set (Z33.get a t) g v)=ud (rgF a) t (ud (rgF a t) g v):=by
 funext i j
 rw [zV];simp only [pz]
 by_cases e:i=t
 ·subst e;rw [if_pos rfl];simp only [pz,rgF]
  by_cases h:0<=j/\j<=2
  ·rw [if_pos ⟨ht,h⟩,rP _ _ _ _ (by omega) (by omega),if_pos rfl,lm _ _ _ _ hg h]
   by_cases k:j=g
   ·rw [if_pos k,if_pos k]
   rw [if_neg k,if_neg k,if_pos ⟨ht,h⟩]
  rw [if_neg λk=>h k.2,if_neg λk=>h (by rw [k];exact hg),if_neg λk=>h k.2]
 rw [if_neg e];simp only [rgF]
 by_cases h:i<3/\0<=j/\j<=2
 ·rw [if_pos h,if_pos h,rP _ _ _ _ (by omega) (by omega),if_neg (by omega)]
 rw [if_neg h,if_neg h]
theorem Bm (a:Z3b) {l:Int} (hl:0<=l/\l<=2) (v:Int):mmF (Z3b.set a l v)=ud (mmF a) l v:=by
 funext i
 simp only [mmF,pz]
 by_cases h:0<=i/\i<=2
 ·rw [if_pos h,if_pos h,lm _ _ _ _ hl h]
 rw [if_neg h,if_neg h,if_neg λe=>h (by rw [e];exact hl)]
theorem Fy {sp:Bool} {t t':Nat} {c c':Int} (h:zi sp c) (h':zi sp c') (e:ixB sp t c=ixB sp t' c'):t=t'/\c=c':=by
 unfold ixB at e;rcases h with ⟨rfl,h⟩ | ⟨rfl,rfl⟩
 ·rcases h' with ⟨_,h'⟩ | ⟨h',_⟩
  ·simp only [cond_true] at e;omega
  cases h'
 rcases h' with ⟨h',_⟩ | ⟨_,rfl⟩
 ·cases h'
 exact ⟨e,rfl⟩
theorem FA {sp:Bool} {t n:Nat} {c:Int} (h:zi sp c) (ht:t<n):ixB sp t c<bif sp then 3*n else n:=by
 unfold ixB;rcases h with ⟨rfl,h⟩ | ⟨rfl,rfl⟩
 ·simp only [cond_true];omega
 exact ht
theorem zW {sp:Bool} {n b:Nat} (hb:b<bif sp then 3*n else n):∃ t c,t<n/\zi sp c/\ixB sp t c=b:=by
 cases sp with
 | true=>
  simp only [cond_true] at hb;exact ⟨b / 3,((b % 3:Nat):Int),by omega,.inl ⟨rfl,by omega,by omega⟩,by simp only [ixB,cond_true];omega⟩
 | false=>exact ⟨b,0,hb,.inr ⟨rfl,rfl⟩,rfl⟩
theorem FB (sp:Bool) {l:Int} (hl:0<=l/\l<=2):zi sp (clB sp l):=by
 cases sp with
 | true=>exact .inl ⟨rfl,hl⟩
 | false=>exact .inr ⟨rfl,rfl⟩
theorem uW (sp:Bool) (t:Nat) {l:Int} (hl:0<=l/\l<=2):(gF sp t l).toNat=ixB sp t (clB sp l)/\0<=gF sp t l:=by
 unfold gF ixB clB
 cases sp with
 | true=>simp only [cond_true];omega
 | false=>simp only [cond_false];omega
theorem FC {n:Nat} {sp:Bool} {w:LL} {t:Nat} {c:Int} (ht:t<n) (hc:zi sp c) (hw:w.length=bif sp then 3*n else n) (v:LI):bfF n sp (w.set (ixB sp t c) v)=ud (bfF n sp w) t (ud (bfF n sp w t) c<|v.map Ap):=by
 have hlt:=FA hc ht;rw [<- hw] at hlt
 funext i j
 rw [KY];simp only [pz]
 by_cases e:i=t
 ·subst e;rw [if_pos rfl];simp only [pz,bfF]
  by_cases g:j=c
  ·subst g;rw [if_pos ⟨ht,hc⟩,if_pos rfl];simp [List.getD,hlt]
  rw [if_neg g]
  by_cases h:zi sp j
  ·rw [if_pos ⟨ht,h⟩,if_pos ⟨ht,h⟩];have : ixB sp i c≠ixB sp i j:=λk=>g (Fy hc h k).2.symm;simp [List.getD,RA this]
  rw [if_neg λk=>h k.2,if_neg λk=>h k.2]
 rw [if_neg e];simp only [bfF]
 by_cases h:i<n/\zi sp j
 ·rw [if_pos h,if_pos h];have : ixB sp t c≠ixB sp i j:=λk=>e (Fy hc h.2 k).1.symm;simp [List.getD,RA this]
 rw [if_neg h,if_neg h]
theorem Dx (w:LI) (l z:Int):sS w l z=rQ l (w.map Ap) z:=by
 unfold sS rQ;rw [<- List.map_reverse];generalize w.reverse=r
 induction r with
 | nil=>rfl
 | cons b r ih=>
  simp only [Rp,List.find?_cons]
  by_cases h:b.tdiv 16=l
  ·have : (b.tdiv 16==l)=true:=by simpa using h
   rw [this];simp [Ap,h]
  have : (b.tdiv 16==l)=false:=by simpa using h
  rw [this];simp only [Ap,h,decide_false];exact ih
theorem GV {a b:Int} (h:Ap a=Ap b):a=b:=by
 unfold Ap at h;injection h with h1 h2;have ha:=Rq a 16;have hb:=Rq b 16;omega
theorem um:∀ {v w:LI},v.map Ap=w.map Ap->v=w
 | [],[],_=>rfl
 | [],_::_,h=>by cases h
 | _::_,[],h=>by cases h
 | a::v,b::w,h=>by
  injection h with h1 h2;rw [GV h1,um h2]
structure PW (p:List (List Nf)):Prop where
 pv:PV p
 ev:Nn (prg p 0)+Nn (prg p 1)+Nn (prg p 2)<=12
 op:∀ (t k:Nat) (x:Nf),(prg p t)[k]? = some x->1<=x.Op/\x.Op<=5
section
variable {p:List (List Nf)}
theorem zX {t k:Nat} {x:Nf} (h:(prg p t)[k]? = some x):t<p.length:=by
 rcases Rm t p.length with g | g
 ·exact g
 unfold prg at h;rw [gdq,gen g] at h
 cases h
theorem PV.prg (hp:PV p) (t k:Nat) (x:Nf) (h:(prg p t)[k]? = some x):InR x:=by
 have ht:=zX h;obtain ⟨hk,e⟩:=ges h;have := hp.ins t k ht hk;have e2:(p.getD t default).getD k default=x:=by
  rw [gdq];unfold Go.Proofs.YtjcmfddobaplbaaGreat.prg at h;rw [h];rfl
 rw [e2] at this;exact this
theorem PV.prg0 (hp:PV p) (t:Nat) (h:3<=t):Go.Proofs.YtjcmfddobaplbaaGreat.prg p t=[]:=by
 have := hp.vs.1;unfold Go.Proofs.YtjcmfddobaplbaaGreat.prg;rw [gdq,gen (by omega)]
 rfl
theorem PW.cnl (hp:PW p) {cl:Int->Int} (V:List TS) (hn:V.Nodup) (hV:∀ v∈V,Rch (StT (prg p) false cl) a0T v):V.length<=549755813888:=
 MS hp.pv.prg hp.pv.prg0 hp.pv.vs.2 hp.ev V hn hV
structure IB (p:List (List Nf)) (sp:Bool) (s:aj):Prop where
 up:s.values.p=p
 sq:s.split=sp
 wl:s.waits.length=bif sp then 3*p.length else p.length
 by_:∀ w∈s.waits,∀ b∈w,0<=b/\b<=255
 pc:∀ t:Nat,t<3->0<=Z3b.get s.values.pc t
variable {sp:Bool} {s:aj}
theorem IB.iv (h:IB p sp s) {cl:Int->Int} (hi:InT (prg p) cl<|AB s):Iv p s.values where
 up:=h.up
 pc:=λt ht=>by
  have h1:=hi.pc t;have h2:=h.pc t ht;simp only [AB,pcF,if_pos ht] at h1;unfold prg at h1;omega
 rv:=λt g ht hg=>by
  have := (hi.vl t).1 g;simp only [AB,rgF] at this
  rwa [if_pos ⟨ht,by omega,by omega⟩] at this
 mv:=λl hl=>by
  have := hi.mm l;simp only [AB,mmF] at this
  rwa [if_pos ⟨by omega,by omega⟩] at this
theorem IB.bf (h:IB p sp s) {t:Nat} {c:Int} (ht:t<p.length) (hc:zi sp c):(AB s).bf t c=(s.waits.getD (ixB sp t c) default).map Ap:=by
 simp only [AB,bfF,h.up,h.sq];rw [if_pos ⟨ht,hc⟩]
theorem IB.bf0 (h:IB p sp s) {t:Nat} {c:Int} (hc : ¬ (t<p.length/\zi sp c)):(AB s).bf t c=[]:=by
 simp only [AB,bfF,h.up,h.sq];rw [if_neg hc]
theorem kg {u:Ng} (hu:u.p=p) {t:Nat} (ht:t<3) (h0:0<=Z3b.get u.pc t):(qf u t=true->(prg p t)[pcF u.pc t]? = some (jl u t))/\(∀ x,(prg p t)[pcF u.pc t]? = some x->qf u t=true/\x=jl u t):=by
 have hpc:pcF u.pc t=(Z3b.get u.pc t).toNat:=if_pos ht;rw [hpc];unfold qf jl prg;rw [hu,tnn];refine ⟨λh=>?_,λx h=>?_⟩
 ·have h:=of_decide_eq_true h;have : (Z3b.get u.pc t).toNat<(p.getD t default).length:=by omega
  rw [gdq (l:=p.getD t default),geq this]
  rfl
 obtain ⟨h1,h2⟩:=ges h;refine ⟨decide_eq_true (by omega),?_⟩;rw [gdq (l:=p.getD t default),h]
 rfl
def uo (s:aj) (t:Nat):Bool:=([0,1,2]:LI).all λl=>(s.waits.getD (gF s.split t l).toNat default).isEmpty
theorem IB.empty (h:IB p sp s) {t:Nat} (ht:t<p.length):uo s t=true↔∀ c,(AB s).bf t c=[]:=by
 unfold uo;rw [Rf,h.sq];refine ⟨λg c=>?_,λg l hl=>?_⟩
 ·by_cases hc:zi sp c
  ·rw [h.bf ht hc];have : ∃ l:Int,l∈([0,1,2]:LI)/\(0<=l/\l<=2)/\clB sp l=c:=by
    rcases hc with ⟨rfl,h1⟩ | ⟨rfl,rfl⟩
    ·have : c=0\/c=1\/c=2:=by omega
     exact ⟨c,by rcases this with rfl | rfl | rfl <;> decide,h1,rfl⟩
    exact ⟨0,by decide,by decide,rfl⟩
   obtain ⟨l,h1,h2,h3⟩:=this;have := g l h1;rw [(uW sp t h2).1,h3] at this;rw [Q0.1 this];rfl
  exact h.bf0 λk=>hc k.2
 have hl':0<=l/\l<=2:=by
  simp only [Q3,Q5,or_false] at hl;omega
 have := g<|clB sp l;rw [h.bf ht (FB sp hl')] at this;rw [(uW sp t hl').1,Q0];exact RD.1 this
def cnB (s:aj) (t:Nat):Bool:=qf s.values t&&(((jl s.values t).Op != 4&&(jl s.values t).Op != 5)||uo s t)
theorem IB.can (hp:PV p) (h:IB p sp s) {t:Nat} (ht:t<p.length):cnB s t=true↔Me (prg p) (AB s) t (jl s.values t):=by
 have hl:=hp.vs.1;obtain ⟨h1,h2⟩:=kg h.up (by omega:t<3)<|h.pc t (by omega);unfold cnB Me;rw [bae,Bool.or_eq_true,bae,h.empty ht];refine ⟨λ⟨g1,g2⟩=>⟨h1 g1,λg3=>g2.elim (λg2=>?_) id⟩,λ⟨g1,g2⟩=>⟨(h2 _ g1).1,?_⟩⟩
 ·simp only [bne_iff_ne] at g2;exact absurd g3 (by omega)
 by_cases g3:(jl s.values t).Op=4\/(jl s.values t).Op=5
 ·exact .inr<|g2 g3
 refine .inl ⟨?_,?_⟩ <;> simp only [bne_iff_ne] <;> omega
def exB (s:aj) (t:Int) (x:Nf):aj:=
 ⟨⟨s.values.p,Z3b.set s.values.pc t (Z3b.get s.values.pc t+1),
  if Nl x=true then Z33.set s.values.reg t (Z3b.set (Z33.get s.values.reg t) x.Reg<|sS (s.waits.getD (gF s.split t x.Loc).toNat default) x.Loc<|Z3b.get s.values.mem x.Loc) else s.values.reg,
  if x.Op=5 then Z3b.set s.values.mem x.Loc x.Val else s.values.mem⟩,s.split,
  if ul x=true then s.waits.set (gF s.split t x.Loc).toNat (s.waits.getD (gF s.split t x.Loc).toNat default++[x.Loc*16+sF s.values t x]) else s.waits⟩
def flB (s:aj) (b:Nat):aj:=
 ⟨⟨s.values.p,s.values.pc,s.values.reg,Z3b.set s.values.mem (((s.waits.getD b default).getD 0 default).tdiv 16)<|((s.waits.getD b default).getD 0 default).tmod 16⟩,s.split,s.waits.set b<|(s.waits.getD b default).drop 1⟩
theorem Jv {l v:Int} (hl:0<=l/\l<=2) (hv:0<=v/\v<=3):Ap (l*16+v)=(l,v):=by
 unfold Ap;have h1:=Rq (l*16+v) 16;have h2:0<=(l*16+v).tmod 16:=Int.tmod_nonneg _ (by omega);have h3:(l*16+v).tmod 16<16:=Int.tmod_lt_of_pos _ (by decide);refine Prod.ext ?_ ?_ <;> simp only [] <;> omega
theorem IB.val (h:IB p sp s) (iv:Iv p s.values) {t:Nat} (ht:t<3) {x:Nf} (hx:InR x):sF s.values t x=Bi (AB s) t x/\0<=sF s.values t x/\sF s.values t x<=3:=by
 obtain ⟨x1,x2,x3,x4,x5,x6⟩:=hx;unfold sF Bi
 split
 ·simp only [AB,rgF];rw [if_pos ⟨ht,x3,x4⟩];have := iv.rv t x.Reg.toNat ht (by omega);rw [Int.toNat_of_nonneg x3] at this;exact ⟨rfl,this⟩
 exact ⟨rfl,x5,x6⟩
theorem IB.exA (hp:PV p) (h:IB p sp s) (iv:Iv p s.values) {t:Nat} (ht:t<p.length) {x:Nf} (hx:InR x):AB (exB s t x)=exT false (clB sp) (AB s) t x:=by
 have hl:=hp.vs.1;have ht3:t<3:=by omega
 have hloc:0<=x.Loc/\x.Loc<=2:=⟨hx.1,hx.2.1⟩;have hreg:0<=x.Reg/\x.Reg<=2:=⟨hx.2.2.1,hx.2.2.2.1⟩;have hv:=h.val iv ht3 hx;have hix:=uW sp t hloc;have hc:=FB sp hloc;have hbf:=h.bf ht hc;refine TS.ext ?_ ?_ ?_ ?_
 ·have := iv.pc t ht3;simp only [AB,exB,exT];rw [Bj _ ht3]
  congr 1
  simp only [pcF,if_pos ht3];omega
 ·have hse:sS (s.waits.getD (gF s.split t x.Loc).toNat default) x.Loc (Z3b.get s.values.mem x.Loc)=qg (clB sp) (AB s) t x.Loc:=by
   have hm:(AB s).mm x.Loc=Z3b.get s.values.mem x.Loc:=if_pos hloc;unfold qg;rw [Dx,h.sq,hix.1,<- hbf,hm]
  rw [IA,<- hse];simp only [AB,exB]
  split
  ·rw [Bl _ ht3 hreg]
  rfl
 ·rw [IC];simp only [AB,exB]
  by_cases h5:x.Op=5
  ·have : (wrX x&&(false||x.Op==5))=true:=by unfold wrX;rw [h5];rfl
   rw [if_pos h5,if_pos this,Bm _ hloc]
   congr 1
   unfold Bi;rw [if_neg (by omega)]
  have : (wrX x&&(false||x.Op==5))=false:=by simp [h5]
  rw [if_neg h5,if_neg (by rw [this];decide)]
 rw [ID];simp only [AB,exB]
 by_cases hs:ul x=true
 ·rw [if_pos hs,if_pos (by rw [hs];rfl),h.sq,h.up,hix.1,FC ht hc h.wl,Rs,List.map_singleton,Jv hloc hv.2,hv.1];simp only [AB,h.sq,h.up] at hbf;rw [<- hbf]
  rfl
 rw [if_neg hs,if_neg (by simpa using hs)]
theorem IB.flA (hp:PV p) (h:IB p sp s) {t:Nat} {c:Int} (ht:t<p.length) (hc:zi sp c) {e:Int×Int} {r:List (Int×Int)} (hb:(AB s).bf t c=e::r) (he:0<=e.1/\e.1<=2):AB (flB s<|ixB sp t c)=flT (AB s) t c e r:=by
 rw [h.bf ht hc] at hb;obtain ⟨b,w,hw,rfl,rfl⟩:=List.map_eq_cons_iff.1 hb;refine TS.ext rfl rfl ?_ ?_
 ·simp only [AB,flB,flT];rw [hw];exact Bm _ he _
 simp only [AB,flB,flT];rw [h.sq,h.up,FC ht hc h.wl,hw]
 rfl
theorem IB.ex (hp:PV p) (h:IB p sp s) (iv:Iv p s.values) {t:Nat} (ht:t<p.length) {x:Nf} (hx:InR x):IB p sp (exB s t x):=by
 have hl:=hp.vs.1;have hv:=h.val iv (by omega:t<3) hx;refine ⟨h.up,h.sq,?_,λw hw b hb=>?_,λi hi=>?_⟩
 ·simp only [exB]
  split
  ·rw [List.length_set];exact h.wl
  exact h.wl
 ·simp only [exB] at hw
  split at hw
  ·rcases RE hw with hw | rfl
   ·exact h.by_ w hw b hb
   rcases Rl.1 hb with hb | hb
   ·have : s.waits.getD (gF s.split t x.Loc).toNat default∈s.waits\/s.waits.getD (gF s.split t x.Loc).toNat default=[]:=by
     rw [gdq]
     cases e:s.waits[(gF s.split t x.Loc).toNat]? with
     | none=>exact .inr rfl
     | some w=>exact .inl (Rh e)
    rcases this with g | g
    ·exact h.by_ _ g b hb
    rw [g] at hb;cases hb
   rw [Q6.1 hb];obtain ⟨x1,x2,_⟩:=hx;omega
  exact h.by_ w hw b hb
 simp only [exB];rw [lm _ _ _ _ (by omega) (by omega)];have h1:=h.pc t (by omega);have h2:=h.pc i hi
 split <;> omega
theorem IB.fl (h:IB p sp s) (b:Nat):IB p sp (flB s b):=by
 refine ⟨h.up,h.sq,?_,λw hw b' hb=>?_,h.pc⟩
 ·simp only [flB];rw [List.length_set];exact h.wl
 simp only [flB] at hw;rcases RE hw with hw | rfl
 ·exact h.by_ w hw b' hb
 have hb:=List.mem_of_mem_drop hb;have : s.waits.getD b default∈s.waits\/s.waits.getD b default=[]:=by
  rw [gdq]
  cases e:s.waits[b]? with
  | none=>exact .inr rfl
  | some w=>exact .inl (Rh e)
 rcases this with g | g
 ·exact h.by_ _ g b' hb
 rw [g] at hb;cases hb
def KZ (s:aj):LI:=keyL s.values++s.waits.flatMap λw=>(w.length:Int)::w
def tC:Mac aj where
 mv s:=((QS s.values.p.length).filter<|cnB s).map Int.ofNat++((QS s.waits.length).filter λb => !(s.waits.getD b default).isEmpty).map λb:Nat=>(s.values.p.length:Int)+(b:Int)
 af s m:=if (s.values.p.length:Int)<=m then flB s (m-(s.values.p.length:Int)).toNat else exB s m (jl s.values m)
 ky s:=strOfNums<|KZ s
 dn s:=(tv s.values).isEmpty&&s.waits.all (·.isEmpty)
 oc s:=xc s.values
theorem yI {m:Int}:m∈tC.mv s↔(∃ t:Nat,t<s.values.p.length/\m=t/\cnB s t=true)\/∃ b:Nat,b<s.waits.length/\m=(s.values.p.length:Int)+(b:Int)/\s.waits.getD b default≠[]:=by
 simp only [tC,Rl,Rb,List.mem_filter,Ra];refine or_congr ⟨λ⟨t,⟨h1,h2⟩,h3⟩=>⟨t,h1,h3.symm,h2⟩,λ⟨t,h1,h2,h3⟩=>⟨t,⟨h1,h3⟩,h2.symm⟩⟩ ⟨λ⟨t,⟨h1,h2⟩,h3⟩=>⟨t,h1,h3.symm,by simpa using h2⟩,λ⟨t,h1,h2,h3⟩=>⟨t,⟨h1,by simpa using h3⟩,h2.symm⟩⟩
def mV (p:List<|List Nf) (sp:Bool):aj:=⟨v0 p,sp,Rn (bif sp then 3*p.length else p.length) []⟩
theorem IB.start (p:List<|List Nf) (sp:Bool):IB p sp (mV p sp):=by
 refine ⟨rfl,rfl,?_,λw hw b hb=>?_,λt _=>?_⟩
 ·simp [mV]
 ·rw [List.eq_of_mem_replicate hw] at hb;cases hb
 simp only [mV,v0,z3];exact QW _
theorem yJ (p:List<|List Nf):pcF (v0 p).pc=a0T.pc/\rgF (v0 p).reg=a0T.rg/\mmF (v0 p).mem=a0T.mm:=by
 refine ⟨?_,?_,?_⟩
 ·funext t;simp only [pcF,v0,z3,a0T];split <;> rfl
 ·funext t g;simp only [rgF,v0,z33,z3,a0T];split <;> rfl
 funext t;simp only [mmF,v0,z3,a0T];split <;> rfl
theorem GX (p:List<|List Nf) (sp:Bool):AB (mV p sp)=a0T:=by
 obtain ⟨h1,h2,h3⟩:=yJ p;refine TS.ext h1 h2 h3 ?_
 funext t c
 simp only [AB,bfF,mV,a0T]
 split
 ·rw [gdq,List.getElem?_replicate]
  split <;> rfl
 rfl
theorem Jw {α β:Type} {f g:α->List β}:∀ {l:List α},(∀ x∈l,f x=g x)->l.flatMap f=l.flatMap g
 | [],_=>rfl
 | x::l,h=>by rw [Q9,Q9,h x QV,Jw λy hy=>h y (Rk _ hy)]
theorem IE {u:Ng} {a:TS} (h1:a.rg=rgF u.reg) (h2:a.mm=mmF u.mem) (hl:u.p.length<=3):outT u.p.length a=xc u:=by
 unfold outT xc tz Ks;rw [h1,h2]
 congr 1
 refine Jw λt ht=>Rt λg hg=>?_;have ht:=Ra.1 ht;have hg:=Ra.1 hg;simp only [rgF];rw [if_pos ⟨by omega,by omega,by omega⟩]
theorem zY (hp:PW p) (sp:Bool):Bis tC (mV p sp) (StT (prg p) false<|clB sp) a0T (DnT<|prg p) (outT p.length) (IB p sp) AB where
 i0:=IB.start p sp
 h0:=GX p sp
 fw:=λs m h hr hm=>by
  have hi:=InT.of hp.pv.prg hr;have iv:=h.iv hi;have hl:=hp.pv.vs.1;rcases yI.1 hm with ⟨t,h1,rfl,h2⟩ | ⟨b,h1,rfl,h2⟩
  ·rw [h.up] at h1;have hc:=(h.can hp.pv h1).1 h2;have hx:=hp.pv.prg _ _ _ hc.1;have e:tC.af s t=exB s t (jl s.values t):=by
    simp only [tC,h.up];rw [if_neg (by omega)]
   rw [e,h.exA hp.pv iv h1 hx];exact ⟨h.ex hp.pv iv h1 hx,.ex hc⟩
  rw [h.wl] at h1;obtain ⟨t,c,ht,hc,rfl⟩:=zW h1;have e:tC.af s ((s.values.p.length:Int)+(ixB sp t c:Nat))=flB s (ixB sp t c):=by
   simp only [tC];rw [if_pos (by omega)]
   congr 1
   omega
  rw [e];have hb:=h.bf ht hc;obtain ⟨b,w,hw⟩:=RF h2;rw [hw,Rp] at hb;have he:=((hi.vl t).2 c (Ap b)<|by show _∈(AB s).bf t c;rw [hb];exact QV).1;rw [h.flA hp.pv ht hc hb he];exact ⟨h.fl _,.fl hb⟩
 bw:=λs a h hr hs=>by
  have hi:=InT.of hp.pv.prg hr;have iv:=h.iv hi;have hl:=hp.pv.vs.1
  cases hs with
  | @ex t x hc=>
   have ht:=zX hc.1;obtain ⟨h1,h2⟩:=kg h.up (by omega:t<3)<|h.pc t (by omega);obtain ⟨h3,rfl⟩:=h2 x hc.1;refine ⟨t,yI.2<|.inl ⟨t,by rw [h.up];exact ht,rfl,(h.can hp.pv ht).2 hc⟩,?_⟩;have e:tC.af s t=exB s t (jl s.values t):=by
    simp only [tC,h.up];rw [if_neg (by omega)]
   rw [e];exact h.exA hp.pv iv ht<|hp.pv.prg _ _ _ hc.1
  | @fl t c e r hb=>
   have hq:t<p.length/\zi sp c:=Decidable.byContradiction λk=>by rw [h.bf0 k] at hb;cases hb
   have hb':=hb;rw [h.bf hq.1 hq.2] at hb';have he:=((hi.vl t).2 c e<|by show _∈(AB s).bf t c;rw [hb];exact QV).1;refine ⟨_,yI.2<|.inr ⟨ixB sp t c,by rw [h.wl];exact FA hq.2 hq.1,rfl,λk=>by rw [k] at hb';cases hb'⟩,?_⟩;have e2:tC.af s ((s.values.p.length:Int)+(ixB sp t c:Nat))=flB s (ixB sp t c):=by
    simp only [tC];rw [if_pos (by omega)]
    congr 1
    omega
   rw [e2];exact h.flA hp.pv hq.1 hq.2 hb he
 dn:=λs h hr=>by
  have hl:=hp.pv.vs.1;have hpc:(tv s.values).isEmpty=true↔∀ t,(prg p t).length<=(AB s).pc t:=by
   rw [Q0];refine ⟨λg t=>?_,λg=>?_⟩
   ·rcases Rm t p.length with ht | ht
    ·refine Decidable.byContradiction λk=>?_;obtain ⟨h1,h2⟩:=kg h.up (by omega:t<3)<|h.pc t (by omega);have := (h2 _<|geq<|Nat.lt_of_not_le k).1;have : (t:Int)∈tv s.values:=jm.2 ⟨t,by rw [h.up];exact ht,rfl,this⟩;rw [g] at this;cases this
    unfold prg;rw [gdq,gen ht];exact Q4 _
   refine RG.2 λm hm=>?_;obtain ⟨t,ht,rfl,hc⟩:=jm.1 hm;rw [h.up] at ht;obtain ⟨h1,h2⟩:=kg h.up (by omega:t<3)<|h.pc t (by omega);have := (ges<|h1 hc).1;have := g t;simp only [AB] at this;omega
  have hw:s.waits.all (·.isEmpty)=true↔∀ t c,(AB s).bf t c=[]:=by
   rw [Rf];refine ⟨λg t c=>?_,λg w hw=>?_⟩
   ·by_cases hq:t<p.length/\zi sp c
    ·rw [h.bf hq.1 hq.2,gdq]
     cases e:s.waits[ixB sp t c]? with
     | none=>rfl
     | some w=>rw [QZ,Q0.1 (g w<|Rh e)];rfl
    exact h.bf0 hq
   obtain ⟨b,hb,rfl⟩:=Ru hw;obtain ⟨t,c,ht,hc,e⟩:=zW (by rw [<- h.wl];exact hb:b<bif sp then 3*p.length else p.length);have := g t c;rw [h.bf ht hc,e] at this;have := RD.1 this;rw [Q0,<- this];simp [List.getD,hb]
  show ((tv s.values).isEmpty&&s.waits.all (·.isEmpty))=true↔_;rw [bae,hpc,hw]
  rfl
 oc:=λs h hr _=>by
  have := hp.pv.vs.1;have := IE (u:=s.values) (a:=AB s) rfl rfl (by rw [h.up];exact this);rw [h.up] at this;exact this.symm
end
section
variable {p:List (List Nf)} {sp:Bool} {s:aj}
theorem vX (hp:PV p) {u:Ng} (h:Iv p u):Nk (bC u) (· = (tv u).isEmpty):=by
 have e:di ⟨u⟩=bC u:=by
  unfold di
  cases bC u <;> rfl
 rw [<- e];exact KS hp h
theorem Cv (u:Ng):Nk (bW u) (· = strOfNums (keyL u)):=by
 have e:dh ⟨u⟩=bW u:=by
  unfold dh
  cases bW u <;> rfl
 rw [<- e];exact Ct u
theorem xY {l:LI} (h:∀ x∈l,0<=x/\x<=255):kX (strOfNums l)=l:=by
 unfold kX;rw [strOfNums_data,List.map_map]
 conv=>rhs;rw [<- List.map_id l]
 refine Rt λx hx=>?_;have := h x hx;simp only [Function.comp,UInt8.toNat_ofNat',id];omega
def fil (f:Nat->Bool) (g:Nat->Int) (n:Nat):LI:=((QS n).filter f).map g
theorem uX (f:Nat->Bool) (g:Nat->Int) (n:Nat):fil f g (n+1)=if f n=true then fil f g n++[g n] else fil f g n:=by
 unfold fil;rw [Rv,List.filter_append,Rs]
 split
 ·rename_i h;rw [List.filter_cons_of_pos h];rfl
 rename_i h;rw [List.filter_cons_of_neg h];simp
theorem vY (f:Nat->Bool) (g:Nat->Int) (n:Nat):(fil f g n).length<=n:=by
 unfold fil;rw [llm];exact QX (List.length_filter_le _ _) (by simp)
theorem xZ (s:aj) {t l:Int} (ht:0<=t/\t<=3) (hl:0<=l/\l<=2):Nk (dm s t l) (· = gF s.split t l):=by
 unfold dm gF;refine .bif (λhb => .gdI (by omega)<|.gdI (by omega)<|.pure<|by rw [hb];rfl) λhb => .pure (by rw [hb];rfl)
theorem IB.ixl (h:IB p sp s) {t:Nat} (ht:t<p.length) {l:Int} (hl:0<=l/\l<=2):0<=gF s.split t l/\(gF s.split t l)<(s.waits.length:Int):=by
 have h1:=uW sp t hl;have h2:=FA (FB sp hl) ht;rw [h.sq];rw [h.wl];omega
theorem FD (hp:PV p) (h:IB p sp s) {t:Nat} (ht:t<p.length):Nk (dX s t) (· = uo s t):=by
 have hl:=hp.vs.1;unfold dX;refine Nk.sum (PS:=λ_=>uo s t=true) (PW:=(· = uo s t)) ?_ λ_ he => .pure he.symm;refine Nk.loop (λi=>(0<=i/\i<=3)/\∀ l:Int,0<=l->l<i->(s.waits.getD (gF s.split t l).toNat default).isEmpty=true) (λi=>(3-i).toNat) ⟨⟨QW _,by decide⟩,λl h1 h2=>by omega⟩ λi ⟨⟨h1,h2⟩,h3⟩ => ?_;unfold iQ;refine .bifD (λhlt=>(xZ s (by omega)<|by omega).bind λv hv=>?_) λhge => .pure ?_
 ·subst hv;have := h.ixl ht (l:=i) (by omega);refine .gdD this<|.bifD (λhn => .pure ?_) λhn => .gdI (by omega)<|.pure ⟨⟨⟨by omega,by omega⟩,λl g1 g2=>?_⟩,by omega⟩
  ·simp only [];unfold uo;refine (List.all_eq_false.2 ⟨i,?_,?_⟩).symm
   ·have : i=0\/i=1\/i=2:=by omega
    rcases this with rfl | rfl | rfl <;> decide
   rw [Bool.not_eq_true,Ro];intro e;rw [e] at hn;simp at hn
  by_cases e:l=i
  ·subst e;rw [Q0];exact Ri (by omega)
  exact h3 l g1 (by omega)
 simp only [];unfold uo;refine Rf.2 λl hl=>h3 l ?_ ?_ <;> (simp only [Q3,Q5,or_false] at hl;omega)
theorem Dy (hp:PV p) (h:IB p sp s) (iv:Iv p s.values):Nk (cH s) (· = tC.mv s):=by
 have hl:=hp.vs.1;have hw:=h.wl;have hwl:s.waits.length<=9:=by rw [hw];cases sp <;> simp only [cond_true,cond_false] <;> omega
 unfold cH;refine Nk.bind (P:=(· = fil (cnB s) Int.ofNat p.length)) ?_ λv hv=>Nk.bind (P:=(· = fil (cnB s) Int.ofNat p.length++fil (λb => !(s.waits.getD b default).isEmpty) (λb:Nat=>(s.values.p.length:Int)+(b:Int)) s.waits.length)) ?_ λv hv => .pure ?_
 ·refine Nk.loop (λz=>(0<=z.2/\z.2<=(p.length:Int))/\z.1=fil (cnB s) Int.ofNat z.2.toNat) (λz=>((p.length:Int)-z.2).toNat) ⟨⟨QW _,by simp only [];omega⟩,rfl⟩ λz ⟨⟨h1,h2⟩,h3⟩ => ?_;unfold fO;simp only [h.up];refine .bifD (λhlt=>?_) λhge => .pure (by rw [h3,show z.2.toNat=p.length by omega]);obtain ⟨l,i⟩:=z;simp only at h1 h2 h3 hlt;obtain ⟨n,rfl⟩:∃ n:Nat,i=n:=⟨i.toNat,by omega⟩;simp only [tnn] at h3;subst h3;have hfl:=vY (cnB s) Int.ofNat n;have hpn:n<p.length:=by omega
  refine Nk.bind (P:=(· = fil (cnB s) Int.ofNat (n+1))) ?_ λv hv => .gdI (by omega)<|.pure ⟨⟨⟨by simp only [];omega,by simp only [];omega⟩,hv⟩,by simp only [];omega⟩;refine (Bg hp iv hpn).bind λv ⟨e1,e2⟩ => ?_;refine Nk.bind (P:=(· = cnB s n)) ?_ λb hb => .bif (λhc => .gd (dY (by simp only [];omega) rfl)<|.pure ?_) λhc => .pure ?_
  ·refine .bif (λhc=>?_) λhc => .pure ?_
   ·have e3:=e2 hc;refine Nk.bind (P:=(· = ((jl s.values n).Op != 4&&(jl s.values n).Op != 5))) ?_ λw hw=>Nk.bind (P:=(· = cnB s n)) (.bif (λk => .pure ?_) λk=>(FD hp h hpn).bind λw hw => .pure ?_) λw hw => .pure hw
    ·rw [e3];exact .bif (λk => .pure<|by rw [k];rfl) λk => .pure (by rw [k];rfl)
    ·unfold cnB;rw [<- e1,hc,<- hw,k];rfl
    unfold cnB;rw [<- e1,hc,hw,<- ‹_=((jl s.values n).Op != 4&&_)›,k];rfl
   unfold cnB;rw [<- e1,hc];rfl
  ·rw [uX,if_pos (by rw [<- hb,hc])];rfl
  rw [uX,if_neg (by rw [<- hb,hc];decide)]
 ·subst hv;refine Nk.loop (λz=>(0<=z.2/\z.2<=(s.waits.length:Int))/\z.1=fil (cnB s) Int.ofNat p.length++fil (λb => !(s.waits.getD b default).isEmpty) (λb:Nat=>(s.values.p.length:Int)+(b:Int)) z.2.toNat) (λz=>((s.waits.length:Int)-z.2).toNat) ⟨⟨QW _,by simp only [];omega⟩,by simp [fil]⟩ λz ⟨⟨h1,h2⟩,h3⟩ => ?_;unfold fo;refine .bifD (λhlt=>?_) λhge => .pure (by rw [h3,show z.2.toNat=s.waits.length by omega]);obtain ⟨l,i⟩:=z;simp only at h1 h2 h3 hlt;obtain ⟨n,rfl⟩:∃ n:Nat,i=n:=⟨i.toNat,by omega⟩;simp only [tnn] at h3 ⊢;subst h3;have hf1:=vY (cnB s) Int.ofNat p.length;have hf2:=vY (λb => !(s.waits.getD b default).isEmpty) (λb:Nat=>(s.values.p.length:Int)+(b:Int)) n;have hup:s.values.p.length<=3:=by rw [h.up];exact hl
  refine Nk.bind (P:=(· = fil (cnB s) Int.ofNat p.length++fil (λb => !(s.waits.getD b default).isEmpty) (λb:Nat=>(s.values.p.length:Int)+(b:Int)) (n+1))) ?_ λv hv => .gdI (by omega)<|.pure ⟨⟨⟨by omega,by omega⟩,hv⟩,by omega⟩;refine .gdD ⟨h1,hlt⟩<|.bifD (λhc => .gdI (by omega)<|.gd (dY (by rw [lla];omega) rfl)<|.pure ?_) λhc => .pure ?_
  ·rw [uX,if_pos,List.append_assoc];rw [Bool.not_eq_true',Ro];intro e;rw [e] at hc;simp at hc
  rw [uX,if_neg];rw [Bool.not_eq_true',Ro,ne_eq,Decidable.not_not];exact Ri (by omega)
 rw [hv];simp only [tC,fil,h.up]
theorem FE (hp:PV p) (h:IB p sp s) (iv:Iv p s.values):Nk (da s) (· = tC.dn s):=by
 have hl:=hp.vs.1;have hwl:s.waits.length<=9:=by rw [h.wl];cases sp <;> simp only [cond_true,cond_false] <;> omega
 unfold da;refine (vX hp iv).bind λv hv=>Nk.bind (P:=(· = tC.dn s)) (.bif (λhb=>?_) λhb => .pure ?_) λw hw => .pure hw
 ·unfold aY;refine Nk.bind (P:=(· = !s.waits.all (·.isEmpty))) ?_ λw hw => .pure ?_
  ·refine Nk.bind (P:=λv:Int=>decide (0<=v) = !s.waits.all (·.isEmpty)) ?_ λv hv => .pure hv;unfold bh;refine Nk.sum (PS:=λ_=>s.waits.all (·.isEmpty)=true) (PW:=λv:Int=>decide (0<=v) = !s.waits.all (·.isEmpty)) ?_ λ_ he => .pure (by rw [he];rfl);refine Nk.loop (λi=>(0<=i/\i<=(s.waits.length:Int))/\∀ j:Nat,(j:Int)<i->(s.waits.getD j default).isEmpty=true) (λi=>((s.waits.length:Int)-i).toNat) ⟨⟨QW _,by omega⟩,λj hj=>by omega⟩ λi ⟨⟨h1,h2⟩,h3⟩ => ?_;unfold bK;refine .bifD (λhlt => .gdD ⟨h1,hlt⟩ ?_) λhge => .pure ?_
   ·refine Nk.bind (P:=λb=>b=decide ((0:Int)<((s.waits.getD i.toNat default).length:Int))) (.pure rfl) λb hb=>?_;rw [hb];refine .bifD (λhn => .pure ?_) λhn => .gdI (by omega)<|.pure ⟨⟨⟨by omega,by omega⟩,λj hj=>?_⟩,by omega⟩
    ·simp only [];rw [decide_eq_true h1];have hi:i.toNat<s.waits.length:=by omega
     have : s.waits.all (·.isEmpty)=false:=List.all_eq_false.2 ⟨s.waits[i.toNat],List.getElem_mem hi,by
      rw [Bool.not_eq_true,Ro];intro e;rw [gdq,geq hi,QZ,e] at hn;simp at hn⟩
     rw [this];rfl
    by_cases e:j=i.toNat
    ·subst e;rw [Q0];exact Ri (by omega)
    exact h3 j (by omega)
   simp only [];refine Rf.2 λw hw=>?_;obtain ⟨j,hj,rfl⟩:=Ru hw;have := h3 j (by omega)
   rwa [gdq,geq hj,QZ] at this
  show _=((tv s.values).isEmpty&&s.waits.all (·.isEmpty));rw [hw,<- hv,hb,Bool.not_not];rfl
 show _=((tv s.values).isEmpty&&s.waits.all (·.isEmpty));rw [<- hv,hb];rfl
theorem Cw {cl:Int->Int} {l:List Nf}:∀ {k:Nat} {u:LSt},u∈LSn cl l k->∀ c,(u.2 c).length<=k
 | 0,u,h,c=>by rw [Q6.1 h];exact QT _
 | k+1,u,h,c=>by
  obtain ⟨v,hv,hu⟩:=QY.1 h;have ih:=Cw hv;have := ih c;unfold lsx at hu
  split at hu
  ·simp only [Q3,Q5,or_false] at hu;rcases hu with rfl | rfl | rfl | rfl <;> (simp only [];omega)
  split at hu
  ·simp only [Q3,Q5,or_false] at hu;rcases hu with rfl | rfl
   ·simp only [pz]
    split
    ·rename_i e;have := ih<|cl (l.getD k default).Loc;rw [lla,Rw];omega
    omega
   simp only [pz]
   split
   ·exact Q4 _
   omega
  rw [Q6.1 hu];omega
theorem IB.wlen (hp:PV p) (h:IB p sp s) {cl:Int->Int} (hi:InT (prg p) cl<|AB s) (b:Nat):(s.waits.getD b default).length<=7:=by
 rcases Rm b s.waits.length with hb | hb
 ·obtain ⟨t,c,ht,hc,rfl⟩:=zW (by rw [<- h.wl];exact hb:b<bif sp then 3*p.length else p.length);have h1:=Cw (hi.ls t) c;have h2:=hi.pc t;have h3:=hp.vs.2 t;simp only at h1;rw [h.bf ht hc,llm] at h1;unfold prg at h2;omega
 rw [gdq,gen hb];exact Q4 _
theorem GY (hp:PV p) (h:IB p sp s) {cl:Int->Int} (hi:InT (prg p) cl<|AB s):Nk (cF s) (· = tC.ky s):=by
 have iv:=h.iv hi;have hwl:s.waits.length<=9:=by have := hp.vs.1;rw [h.wl];cases sp <;> simp only [cond_true,cond_false] <;> omega
 unfold cF;refine (Cv s.values).bind λv hv=>?_;subst hv;have hk:(keyL s.values).length=15:=rfl;have hsz:(strOfNums<|keyL s.values).size=15:=by
  have := congrArg List.length<|strOfNums_data<|keyL s.values;simpa [hk] using this
 refine .gdD (by rw [hsz];decide) ?_;rw [xY (uk hp iv)];refine Nk.bind (P:=(· = KZ s)) ?_ λv hv => .pure (by rw [hv];rfl);refine Nk.loop (λz=>(0<=z.2/\z.2<=(s.waits.length:Int))/\z.1=keyL s.values++((s.waits.take z.2.toNat).flatMap λw=>(w.length:Int)::w)/\z.1.length<=15+8*z.2.toNat) (λz=>((s.waits.length:Int)-z.2).toNat) ⟨⟨QW _,by simp only [];omega⟩,by simp,by simp only [hk];omega⟩ λz ⟨⟨h1,h2⟩,h3,h4⟩ => ?_;unfold ic;refine .bifD (λhlt=>?_) λhge => .pure ?_
 ·have hw:=h.wlen hp hi z.2.toNat;have hn:z.2.toNat<s.waits.length:=by omega
  refine .gdD ⟨h1,hlt⟩<|.gdY (by omega)<|.gd (dY (by omega) rfl)<|.gd (dY (by rw [lla,Rw];omega) rfl)<|.gdI (by omega)<|.pure ⟨⟨⟨by simp only [];omega,by simp only [];omega⟩,?_,?_⟩,by simp only [];omega⟩
  ·simp only [];rw [show (z.2+1).toNat=z.2.toNat+1 by omega,List.take_add_one,geq hn,h3,RH,show s.waits.getD z.2.toNat default=s.waits[z.2.toNat] by simp [List.getD,hn]];simp only [Option.toList,Q9,List.flatMap_nil,List.append_nil,List.append_assoc,Rx,List.nil_append]
  simp only [lla,Rw];omega
 rw [h3,show z.2.toNat=s.waits.length by omega,List.take_length]
 rfl
theorem uY {α:Type} {e:Bool} {A B:Option α} {v:α} (ha:e=true->A=some v) (hb:B=some v):Nk (nilK e A B) (· = v):=by
 unfold nilK
 cases e with
 | true=>
  rw [cond_true,if_pos ((ha rfl).trans hb.symm)];exact ⟨v,ha rfl,rfl⟩
 | false=>exact ⟨v,hb,rfl⟩
theorem FG (w:LL) (h:w.length<=9):Nk (eQ w) (· = w):=
 uY (λe=>by rw [Q0.1 e]) (kT<|dY (by simp;omega) rfl)
theorem Dz (w:LI) (h:w.length<=9):Nk (fq w) (· = w):=
 uY (λe=>by rw [Q0.1 e]) (kT<|dY (by simp;omega) rfl)
theorem FH (hp:PV p) (h:IB p sp s) {t:Nat} (ht:t<p.length) {l:Int} (hl:0<=l/\l<=2):Nk (dQ s t l) (· = sS (s.waits.getD (gF s.split t l).toNat default) l (Z3b.get s.values.mem l)):=by
 have := hp.vs.1;have hx:=h.ixl ht hl;unfold dQ;refine .gdD ⟨by omega,by omega⟩<|.gdD hx.2<|.gd ?_<|.pure rfl;refine Rf.2 λb hb=>decide_eq_true ?_;have hi:(gF s.split t l).toNat<s.waits.length:=by omega
 rw [gdq,geq hi,QZ] at hb;exact h.by_ _ (List.getElem_mem hi) b hb
theorem DC (hp:PV p) (h:IB p sp s) {cl:Int->Int} (hi:InT (prg p) cl<|AB s) {m:Int} (hm:m∈tC.mv s):Nk (cJ s m) (· = tC.af s m):=by
 have iv:=h.iv hi;have hl:=hp.vs.1;have hup:s.values.p.length=p.length:=by rw [h.up]
 have hwl:s.waits.length<=9:=by rw [h.wl];cases sp <;> simp only [cond_true,cond_false] <;> omega
 unfold cJ;refine (FG s.waits hwl).bind λv1 e1=>?_;subst e1;rcases yI.1 hm with ⟨t,h1,rfl,h2⟩ | ⟨b,h1,rfl,h2⟩
 ·rw [hup] at h1;refine .bifD (λk=>absurd k<|by omega) λ_=>?_;have hc:qf s.values t=true:=by
   unfold cnB at h2;exact (bae _ _ ▸ h2).1
  have hx:=iv.ins hp h1 hc;have e:tC.af s t=exB s t (jl s.values t):=by
   simp only [tC,h.up];rw [if_neg (by omega)]
  rw [e];refine (Bg hp iv h1).bind λv ⟨g1,g2⟩ => ?_;have g3:=g2<|g1.trans hc;have hpc:=iv.pc t (by omega);have hr7:=hp.vs.2 t;have hval:=(h.val iv (by omega:t<3) hx).2;rw [<- g3] at hx hval ⊢;generalize v.1=x at hx hval ⊢;have hX:=hx;obtain ⟨x1,x2,x3,x4,x5,x6⟩:=hX;refine .gdD ⟨by omega,by omega⟩<|.gdY (by omega) ?_;refine Nk.bind (P:=λw=>(⟨⟨w.1,w.2.1,w.2.2.1⟩,⟨w.2.2.2.1,w.2.2.2.2.1,w.2.2.2.2.2.1⟩,⟨w.2.2.2.2.2.2.1,w.2.2.2.2.2.2.2.1,w.2.2.2.2.2.2.2.2.1⟩⟩:Z33)=(exB s t x).values.reg/\w.2.2.2.2.2.2.2.2.2=s.waits) ?_ λw5 ⟨hw5,hw6⟩ => ?_
  ·refine (Fg _).bind λb hb=>?_;have hb':b=Nl x:=hb;refine .bif (λhc=>(FH hp h h1 ⟨x1,x2⟩).bind λv20 hv20 => .gdD ⟨x3,by omega⟩<|.pure ⟨?_,rfl⟩) λhc => .pure ⟨?_,rfl⟩
   ·simp only [exB];rw [if_pos (by rw [<- hb'];exact hc),hv20]
   simp only [exB];rw [if_neg (by rw [<- hb',hc];decide)]
  refine Nk.bind (P:=λw=>(⟨w.1,w.2.1,w.2.2.1⟩:Z3b)=(exB s t x).values.mem/\w.2.2.2=(exB s t x).waits) ?_ λw10 ⟨hw10,hw11⟩ => .pure ?_
  ·rw [hw6];refine Nk.bind (P:=(· = ul x)) (.bif (λhc => .pure<|by unfold ul;rw [hc];rfl) λhc => .pure<|by unfold ul;rw [hc];rfl) λb hb=>?_;subst hb;refine .bif (λhs=>?_) λhs=>?_
   ·obtain ⟨o1,o2,o3,o4⟩:=KV hs;refine (xZ s (by omega) ⟨x1,x2⟩).bind λv29 hv29=>?_;subst hv29;have hix:=h.ixl h1 (l:=x.Loc) ⟨x1,x2⟩;have hwb:=h.wlen hp hi (gF s.split t x.Loc).toNat;refine .gdD hix<|.gdY (by omega)<|.gdY (by omega)<|(Dz _<|by omega).bind λv33 hv33=>?_;subst hv33;refine Nk.bind (P:=(· = sF s.values t x)) ?_ λv37 hv37=>?_
    ·unfold bI sF;refine .bif (λho => .gdD ⟨by omega,by omega⟩<|.gdD ⟨x3,by simp only [];omega⟩<|.pure ?_) λho => .gdY (by simp only [];omega) (.pure ?_)
     ·rw [if_pos (by simpa using ho)]
     rw [if_neg (by simpa using ho)]
    subst hv37;refine .gdY (by omega)<|.gd (dY (by omega) rfl)<|.gdD hix<|.pure ⟨?_,?_⟩
    ·simp only [exB];rw [if_neg o4]
    simp only [exB];rw [if_pos hs]
   refine .bif (λh5 => .gdY (by omega)<|.gdD ⟨x1,by omega⟩<|.pure ⟨?_,?_⟩) λh5 => .pure ⟨?_,?_⟩
   ·simp only [exB];rw [if_pos (by simpa using h5)]
   ·simp only [exB];rw [if_neg (by rw [hs];decide)]
   ·simp only [exB];rw [if_neg (by simpa using h5)]
   simp only [exB];rw [if_neg (by rw [hs];decide)]
  rw [hw5,hw10,hw11]
  rfl
 have hb:(s.waits.getD b default).length<=7:=h.wlen hp hi b;have hne:0<(s.waits.getD b default).length:=List.length_pos_iff.2 h2;have eb:((s.values.p.length:Int)+(b:Int)-(s.values.p.length:Int)).toNat=b:=by omega
 have e:tC.af s ((s.values.p.length:Int)+(b:Int))=flB s b:=by
  simp only [tC];rw [if_pos (by omega),eb]
 rw [e];have hloc:0<=((s.waits.getD b default).getD 0 default).tdiv 16/\((s.waits.getD b default).getD 0 default).tdiv 16<=2:=by
  rw [h.wl] at h1;obtain ⟨t,c,ht,hc,rfl⟩:=zW h1;have hb:=h.bf ht hc;obtain ⟨b,w,hw⟩:=RF h2;rw [hw,Rp] at hb;have he:=((hi.vl t).2 c (Ap b)<|by show _∈(AB s).bf t c;rw [hb];exact QV).1;rw [hw];exact he
 refine .bifD (λ_=>?_) λk=>absurd (by omega) k;rw [eb];refine .gdI (by omega)<|.gdD ⟨by omega,by omega⟩<|.gdD ⟨QW _,by omega⟩<|.gdD ⟨by omega,by omega,QW _⟩<|.gdD ⟨by omega,by omega⟩<|.gdD (by decide)<|.gdY ?_<|.gdD ⟨hloc.1,?_⟩<|.pure ?_
 ·exact ⟨hloc.1,Int.le_trans hloc.2<|by decide⟩
 ·exact Int.lt_of_le_of_lt hloc.2 (by decide)
 unfold flB;have : ((s.waits.getD b default).drop (1:Int).toNat).take (((s.waits.getD b default).length:Int).toNat-(1:Int).toNat)=(s.waits.getD b default).drop 1:=by
  rw [List.take_of_length_le]
  ·rfl
  rw [List.length_drop];exact QT _
 rw [this]
 rfl
end
theorem FI {a b:Z3b} (h:∀ t:Nat,t<3->Z3b.get a t=Z3b.get b t):a=b:=by
 have h0:=h 0 (by decide);have h1:=h 1 (by decide);have h2:=h 2 (by decide);rw [ME,ME] at h0;rw [MF,MF] at h1;rw [MG,MG] at h2
 cases a;cases b
 simp only at h0 h1 h2;rw [h0,h1,h2]
theorem Jy {a b:Z33} (h:∀ t:Nat,t<3->Z33.get a t=Z33.get b t):a=b:=by
 have h0:a.x0=b.x0:=h 0 (by decide);have h1:a.x1=b.x1:=h 1 (by decide);have h2:a.x2=b.x2:=h 2 (by decide)
 cases a;cases b
 simp only at h0 h1 h2;rw [h0,h1,h2]
theorem zZ:∀ {v w:LL},v.length=w.length->(v.flatMap λw=>(w.length:Int)::w)=(w.flatMap λw=>(w.length:Int)::w)->v=w
 | [],[],_,_=>rfl
 | [],_::_,h,_=>by cases h
 | _::_,[],h,_=>by cases h
 | a::v,b::w,h,e=>by
  rw [Q9,Q9,Rx,Rx] at e;injection e with e1 e2;obtain ⟨e3,e4⟩:=List.append_inj e2 (by omega);rw [e3,zZ (by simpa using h) e4]
section
variable {p:List (List Nf)} {sp:Bool}
theorem Jz {u v:Ng} (hp:u.p=v.p) (h1:pcF u.pc=pcF v.pc) (hu:∀ t:Nat,t<3->0<=Z3b.get u.pc t) (hv:∀ t:Nat,t<3->0<=Z3b.get v.pc t) (h2:rgF u.reg=rgF v.reg) (h3:mmF u.mem=mmF v.mem):u=v:=by
 have e1:u.pc=v.pc:=FI λt ht=>by
  have := congrFun h1 t;simp only [pcF,if_pos ht] at this;have := hu t ht;have := hv t ht;omega
 have e2:u.reg=v.reg:=Jy λt ht=>FI λg hg=>by
  have := congrFun (congrFun h2 t) g;simp only [rgF] at this
  rwa [if_pos ⟨ht,by omega,by omega⟩,if_pos ⟨ht,by omega,by omega⟩] at this
 have e3:u.mem=v.mem:=FI λl hl=>by
  have := congrFun h3 l;simp only [mmF] at this
  rwa [if_pos ⟨by omega,by omega⟩,if_pos ⟨by omega,by omega⟩] at this
 cases u;cases v
 simp only at hp e1 e2 e3;subst hp e1 e2 e3
 rfl
theorem K3 {s t:aj} (hs:IB p sp s) (ht:IB p sp t) (h:AB s=AB t):s=t:=by
 have e1:s.values=t.values:=Jz (hs.up.trans ht.up.symm) (congrArg TS.pc h) hs.pc ht.pc (congrArg TS.rg h)<|congrArg TS.mm h;have e2:s.waits=t.waits:=by
  refine Q7 (hs.wl.trans ht.wl.symm) λb h1 h2=>?_;rw [hs.wl] at h1;obtain ⟨i,c,hi,hc,rfl⟩:=zW h1;have := congrFun (congrFun (congrArg TS.bf h) i) c;rw [hs.bf hi hc,ht.bf hi hc] at this;have := um this;rw [<- hs.wl] at h1;simpa [List.getD,h1,h2] using this
 have e3:=hs.sq.trans ht.sq.symm
 cases s;cases t
 simp only at e1 e2 e3;subst e1 e2 e3
 rfl
theorem FJ (hp:PV p) {s:aj} (h:IB p sp s) {cl:Int->Int} (hi:InT (prg p) cl<|AB s):∀ x∈KZ s,0<=x/\x<=255:=λx hx=>by
 unfold KZ at hx;rcases Rl.1 hx with hx | hx
 ·exact uk hp (h.iv hi) x hx
 obtain ⟨w,hw,hx⟩:=QY.1 hx;rcases Q3.1 hx with rfl | hx
 ·obtain ⟨b,hb,rfl⟩:=Ru hw;have := h.wlen hp hi b;rw [gdq,geq hb,QZ] at this;omega
 exact h.by_ w hw x hx
theorem JA (hp:PW p):Mok tC (mV p sp) 549755813888:=
 (zY hp sp).mok (λs t hs ht rs rt h=>by
  have is:=InT.of hp.pv.prg rs;have it:=InT.of hp.pv.prg rt;have e:=nK (FJ hp.pv hs is) (FJ hp.pv ht it) h;unfold KZ at e;obtain ⟨e1,e2⟩:=List.append_inj e rfl;have e3:=uT (hs.up.trans ht.up.symm) e1;have e4:=zZ (hs.wl.trans ht.wl.symm) e2;have e5:=hs.sq.trans ht.sq.symm
  cases s;cases t
  simp only at e3 e4 e5;subst e3 e4 e5
  rfl) (λs t hs ht h=>K3 hs ht h) hp.cnl
theorem JB (hp:PW p):Mrt cH cJ cF da (λs=>aQ s.values) tC (mV p sp):=by
 have B:=zY hp sp;have hi:∀ {s},Rea tC (mV p sp) s->InT (prg p) (clB sp) (AB s):=λh=>InT.of hp.pv.prg (B.rea h).2;refine ⟨λs hs=>Dy hp.pv (B.rea hs).1<|(B.rea hs).1.iv<|hi hs,λs m hs hm=>DC hp.pv (B.rea hs).1 (hi hs) hm,λs hs=>GY hp.pv (B.rea hs).1<|hi hs,λs hs=>FE hp.pv (B.rea hs).1<|(B.rea hs).1.iv<|hi hs,λs hs _=>yH hp.pv<|(B.rea hs).1.iv<|hi hs,λs hs=>?_⟩;have h1:=vY (cnB s) Int.ofNat s.values.p.length;have h2:=vY (λb => !(s.waits.getD b default).isEmpty) (λb:Nat=>(s.values.p.length:Int)+(b:Int)) s.waits.length;have h3:=hp.pv.vs.1;have h4:=(B.rea hs).1.wl;have h5:=(B.rea hs).1.up;have h6:s.waits.length<=9:=by rw [h4];cases sp <;> simp only [cond_true,cond_false] <;> omega
 have e:tC.mv s=fil (cnB s) Int.ofNat s.values.p.length++fil (λb => !(s.waits.getD b default).isEmpty) (λb:Nat=>(s.values.p.length:Int)+(b:Int)) s.waits.length:=rfl;rw [e,lla];have : s.values.p.length<=3:=by rw [h5];exact h3
 omega
theorem GZ (hp:PV p) (sp:Bool):Nk (iy p sp) (· = mV p sp):=by
 have := hp.vs.1;unfold iy;refine .gdD ⟨by omega,QW _,by omega,by omega⟩ ?_;refine Nk.bind (P:=(· = Rn (bif sp then 3*p.length else p.length) [])) (.bif (λh => .gdI (by omega)<|.gdD ⟨by omega,QW _,by omega,by omega⟩<|.pure ?_) λh => .pure ?_) λv hv => .pure ?_
 ·rw [h,cond_true];congr 1
 ·rw [h,cond_false];congr 1
 rw [hv];rfl
structure Run (O:List Int->Prop) (q:List (List Int)):Prop where
 lt:q.Pairwise ltL
 mem:∀ o,o∈q↔O o
 len:q.length<=549755813888
def Gq (p:List<|List Nf) (sp:Bool):LI->Prop:=Kt (prg p) false (clB sp) p.length
theorem Cy (hp:PW p) (hv:aA p=some true) (sp:Bool):Nk (fu p sp) λq=>Run (Gq p sp) q.1:=by
 unfold fu;rw [hv];refine Nk.bind (P:=(· = true)) (.pure rfl) λb hb => .bif (λh=>absurd h (by rw [hb];decide)) λ_=>?_;refine (GZ hp.pv sp).bind λv ev=>?_;subst ev;refine Nk.bind (P:=λq:LL×Int=>Run (Gq p sp) q.1) ?_ λq hq => .pure hq;have e:ek (mV p sp)=KO cH cJ cF da (λs=>aQ s.values) aR (mV p sp):=rfl;rw [e];have B:=zY hp sp;have hQ:∀ l:LL,l.length<=549755813888->(∀ o∈l,Jo tC (mV p sp) o)->Nk (aR l) λq=>Sor l q/\l.length<=549755813888:=λl hl ho=>(tu (by omega) λr hr=>by
  obtain ⟨s,h1,_,rfl⟩:=ho r hr;have h2:=(B.rea h1).1.up;have h3:=hp.pv.vs.1;show (xc s.values).length<=_;rw [uU,h2];omega).mono λq h=>⟨h,hl⟩
 exact (Be (Q:=λl q=>Sor l q/\l.length<=549755813888) (JA hp) (JB hp) (by decide) hQ).mono λq ⟨l,⟨h1,h3⟩,h2,_⟩=>⟨h1.lt,λo=>(h1.mem o).trans<|(h2 o).trans<|B.outs o,QX h1.len h3⟩
theorem K4 (hp:PV p) (cl:Int->Int):Bis KQ ⟨v0 p⟩ (StT (prg p) true cl) a0T (DnT<|prg p) (outT p.length) (λs=>Iv p s.values) AS:=by
 have hl:=hp.vs.1;have hex:∀ (s:Nh) (t:Nat) (x:Nf),Iv p s.values->t<p.length->InR x->AS ⟨Fj s.values t x⟩=exT true cl (AS s) t x:=λs t x h ht hx=>by
  have ht3:t<3:=by omega
  have hloc:0<=x.Loc/\x.Loc<=2:=⟨hx.1,hx.2.1⟩;have hreg:0<=x.Reg/\x.Reg<=2:=⟨hx.2.2.1,hx.2.2.2.1⟩;have hv:sF s.values t x=Bi (AS s) t x:=by
   unfold sF Bi
   split
   ·simp only [AS,rgF];rw [if_pos ⟨ht3,hreg⟩]
   rfl
  have hm:(AS s).mm x.Loc=Z3b.get s.values.mem x.Loc:=if_pos hloc;have hse:qg cl (AS s) t x.Loc=Z3b.get s.values.mem x.Loc:=hm;refine TS.ext ?_ ?_ ?_ ?_
  ·have := h.pc t ht3;simp only [AS,Fj,exT];rw [Bj _ ht3]
   congr 1
   simp only [pcF,if_pos ht3];omega
  ·rw [IA,hse];simp only [AS,Fj]
   split
   ·rw [Bl _ ht3 hreg]
   rfl
  ·rw [IC,<- hv];simp only [AS,Fj,Bool.true_or,Bool.and_true]
   split
   ·rw [Bm _ hloc]
   rfl
  rw [ID];simp [AS]
 refine ⟨Iv.start p,?_,λs m h hr hm=>?_,λs a h hr hs=>?_,λs h hr=>?_,λs h hr _=>?_⟩
 ·obtain ⟨h1,h2,h3⟩:=yJ p;exact TS.ext h1 h2 h3 rfl
 ·obtain ⟨t,h1,rfl,h2⟩:=jm.1 hm;rw [h.up] at h1;have hx:=h.ins hp h1 h2;show Iv p (Fj _ t<|jl _ t)/\_;refine ⟨h.after (by omega) h2 hx,?_⟩;show StT _ _ _ _ (AS ⟨Fj s.values t<|jl s.values t⟩);rw [hex s t _ h h1 hx];exact .ex ⟨(kg h.up (by omega:t<3) (h.pc t<|by omega).1).1 h2,λ_ _=>rfl⟩
 ·cases hs with
  | @ex t x hc=>
   have ht:=zX hc.1;obtain ⟨h3,rfl⟩:=(kg h.up (by omega:t<3) (h.pc t<|by omega).1).2 x hc.1;exact ⟨t,jm.2 ⟨t,by rw [h.up];exact ht,rfl,h3⟩,hex s t _ h ht<|hp.prg _ _ _ hc.1⟩
  | fl hb=>cases hb
 ·show (tv s.values).isEmpty=true↔_;rw [Q0];refine ⟨λg=>⟨λt=>?_,λ_ _=>rfl⟩,λg=>?_⟩
  ·rcases Rm t p.length with ht | ht
   ·refine Decidable.byContradiction λk=>?_;have := ((kg h.up (by omega:t<3) (h.pc t<|by omega).1).2 _<|geq<|Nat.lt_of_not_le k).1;have : (t:Int)∈tv s.values:=jm.2 ⟨t,by rw [h.up];exact ht,rfl,this⟩;rw [g] at this;cases this
   unfold prg;rw [gdq,gen ht];exact Q4 _
  refine RG.2 λm hm=>?_;obtain ⟨t,ht,rfl,hc⟩:=jm.1 hm;rw [h.up] at ht;have := (ges<|(kg h.up (by omega:t<3) (h.pc t<|by omega).1).1 hc).1;have := g.1 t;simp only [AS] at this;omega
 have := IE (u:=s.values) (a:=AS s) rfl rfl (by rw [h.up];exact hl);rw [h.up] at this;exact this.symm
theorem yK (hp:PV p) (cl:Int->Int) (o:LI):GU p o↔Kt (prg p) true cl p.length o:=(K4 hp cl).outs o
theorem G3 (hp:PV p) (hv:aA p=some true):Nk (jh p) (Run<|GU p):=by
 have h0:Iv p (⟨v0 p⟩:Nh).values:=Iv.start p;have e:gG ⟨v0 p⟩=KO eB eC dh di (λs=>aQ s.values) aR ⟨v0 p⟩:=rfl;have hQ:∀ l:LL,l.length<=8589934592->(∀ o∈l,GU p o)->Nk (aR l) λq=>Sor l q/\l.length<=8589934592:=λl hl ho=>(tu (by omega) λr hr=>by
  obtain ⟨s,h1,_,rfl⟩:=ho r hr;have h2:=(qy hp h0 h1).up;have h3:=hp.vs.1;show (xc s.values).length<=_;rw [uU,h2];omega).mono λq h=>⟨h,hl⟩
 have hr:=(Be (Q:=λl q=>Sor l q/\l.length<=8589934592) (Js hp h0) (Jt hp h0) (by decide) hQ).mono (P':=λq=>Run (GU p) q.1) λq ⟨l,⟨h1,h3⟩,h2,_⟩=>⟨h1.lt,λo=>(h1.mem o).trans<|h2 o,QX h1.len<|by omega⟩;unfold jh;rw [hv];refine Nk.bind (P:=(· = true)) (.pure rfl) λb hb => .bif (λh=>absurd h<|by rw [hb];decide) λ_=>?_;exact Nk.bind (P:=λs:Nh=>s=⟨v0 p⟩) (.pure rfl) λv hv=>Nk.bind (P:=λq:LL×Int=>Run (GU p) q.1) (hv ▸ (e ▸ hr)) λq hq => .pure hq
theorem Cz (n:Nat) (a:TS):(outT n a).length=3*n+3:=by
 unfold outT;rw [lla];have : ∀ n,((QS n).flatMap λt=>(QS 3).map λg:Nat=>a.rg t g).length=3*n:=λn=>by
  induction n with
  | zero=>rfl
  | succ n ih=>
   rw [show QS (n+1)=QS n++[n] from Rv,RH,lla,ih];simp;omega
 rw [this];simp
theorem CB {o:LI} (h:Gq p sp o):o.length=3*p.length+3:=by
 obtain ⟨a,_,_,rfl⟩:=h;exact Cz _ _
theorem G5 (hp:PV p) {o:LI} (h:GU p o):o.length=3*p.length+3:=by
 obtain ⟨a,_,_,rfl⟩:=(yK hp id o).1 h;exact Cz _ _
theorem PW.of (h:cK (p.map λr=>r.map fK)=true):PW p:=by
 have hp:=PV.of h;refine ⟨hp,?_,λt k x hx=>?_⟩
 ·have hc:lQ pg (p.map λr=>r.map fK)<=12:=by
   simp only [cK,mi,bae,dte] at h;exact h.1.1.2
  have he:∀ l:List Nf,Nn l=(l.map fK).countP pg:=λl=>by
   unfold Nn;rw [List.countP_map]
   rfl
  have hl:=hp.vs.1;unfold lQ at hc;have hd:(default:List Nf)=[]:=rfl;unfold prg
  match p,hl with
  | [],_=>simp [he,hd]
  | [a],_=>simp [he,hd] at hc ⊢;omega
  | [a,b],_=>simp [he,hd] at hc ⊢;omega
  | [a,b,c],_=>simp [he,hd] at hc ⊢;omega
  | _::_::_::_::_,hl=>simp at hl
 have ht:=zX hx;obtain ⟨hk,e⟩:=ges hx;have h1:=(Vs.of h).2 t k ht hk;have e2:(p.getD t default).getD k default=x:=by
  rw [gdq];unfold Go.Proofs.YtjcmfddobaplbaaGreat.prg at hx;rw [hx];rfl
 rw [e2] at h1;unfold iG fK at h1;simp only at h1
 split at h1
 ·omega
 split at h1
 ·omega
 split at h1
 ·omega
 split at h1
 ·omega
 cases h1
end
def dw (s1_:List Nf) (s2_:List Nf):LS Int (Unit ⊕ Bool):=λs5=>bif decide (s5<(s1_.length:Int)) then gd (decide<|0<=s5/\s5<(s1_.length:Int)) <|gd (decide<|0<=s5/\s5<(s2_.length:Int)) <|bif (!(((s1_.getD s5.toNat default).Op)==((s2_.getD s5.toNat default).Op)&&(((s1_.getD s5.toNat default).Loc)==((s2_.getD s5.toNat default).Loc)&&(((s1_.getD s5.toNat default).Reg)==((s2_.getD s5.toNat default).Reg)&&(((s1_.getD s5.toNat default).Val)==((s2_.getD s5.toNat default).Val)&&true))))) then some (.inr<|.inr false) else gd (Nb .i64<|s5+(1:Int)) <|some (.inl<|s5+(1:Int)) else some (.inr<|.inl ())
def bz (s1_:List Nf) (s2_:List Nf):Option Bool:= bif ((s1_.length:Int) != (s2_.length:Int)) then some false else sumK (bA (dw s1_ s2_) (0:Int)) λs2=>some true
def iJ (x:List Nf) (y:List Nf):Option Bool:= QU (bz x y) λv1=>some v1
def aL (s1_:List<|List Nf) (s2_:List<|List Nf):LS Int (Unit ⊕ Bool):=λs5=>bif decide (s5<(s1_.length:Int)) then gd (decide<|0<=s5/\s5<(s1_.length:Int)) <|gd (decide<|0<=s5/\s5<(s2_.length:Int)) <|QU (iJ (s1_.getD s5.toNat default)<|s2_.getD s5.toNat default) λv10=>bif !v10 then some (.inr<|.inr false) else gd (Nb .i64<|s5+(1:Int)) <|some (.inl<|s5+(1:Int)) else some (.inr<|.inl ())
def aG (s1_:List<|List Nf) (s2_:List<|List Nf):Option Bool:= bif ((s1_.length:Int) != (s2_.length:Int)) then some false else sumK (bA (aL s1_ s2_) (0:Int)) λs2=>some true
def eF (a:List<|List Nf) (b:List<|List Nf):Option Bool:= QU (aG a b) λv1=>some v1
def iR (code:LI):Option ak:= QU (bif decide ((2000:Int)<(code.length:Int)) then gd (decide<|0<=(0:Int)/\(0:Int)<=(2000:Int)/\(2000:Int)<=(code.length:Int)) <|some ((code.drop (0:Int).toNat).take<|(2000:Int).toNat-(0:Int).toNat) else some code) λs1=>some (⟨s1,(0:Int)⟩:ak)
def aP (r_:ak) (n:Int):Option (ak×Int):= gd (Nb .i64<|r_.p+(1:Int)) <|QU (bif decide (n<(1:Int)) then some true else some ((r_.b.length:Int)==(0:Int))) λs2=>bif s2 then some ((⟨r_.b,(r_.p+(1:Int))⟩:ak),(0:Int)) else gd (Nb .i64<|(r_.p+(1:Int))-(1:Int)) <|bif decide (((r_.p+(1:Int))-(1:Int))<(r_.b.length:Int)) then gd (decide<|0<=((r_.p+(1:Int))-(1:Int))/\((r_.p+(1:Int))-(1:Int))<(r_.b.length:Int)) <|gd (Nb .i64<|r_.b.getD ((r_.p+(1:Int))-(1:Int)).toNat default) <|gd (decide<|n≠0) <|some ((⟨r_.b,(r_.p+(1:Int))⟩:ak),((r_.b.getD ((r_.p+(1:Int))-(1:Int)).toNat default).tmod n)) else gd (decide<|(r_.b.length:Int)≠0) <|gd (decide<|0<=(((r_.p+(1:Int))-(1:Int)).tmod (r_.b.length:Int))/\(((r_.p+(1:Int))-(1:Int)).tmod (r_.b.length:Int))<(r_.b.length:Int)) <|gd (Nb .i64<|r_.b.getD (((r_.p+(1:Int))-(1:Int)).tmod (r_.b.length:Int)).toNat default) <|gd (Nb .i64<|(r_.b.getD (((r_.p+(1:Int))-(1:Int)).tmod (r_.b.length:Int)).toNat default)*(131:Int)) <|gd (Nb .i64<|((r_.p+(1:Int))-(1:Int))*(7:Int)) <|gd (Nb .i64<|(((r_.p+(1:Int))-(1:Int))*(7:Int))+(3:Int)) <|gd (decide<|0<=(((((r_.p+(1:Int))-(1:Int))*(7:Int))+(3:Int)).tmod (r_.b.length:Int))/\(((((r_.p+(1:Int))-(1:Int))*(7:Int))+(3:Int)).tmod (r_.b.length:Int))<(r_.b.length:Int)) <|gd (Nb .i64<|r_.b.getD (((((r_.p+(1:Int))-(1:Int))*(7:Int))+(3:Int)).tmod (r_.b.length:Int)).toNat default) <|gd (Nb .i64<|(r_.b.getD (((((r_.p+(1:Int))-(1:Int))*(7:Int))+(3:Int)).tmod (r_.b.length:Int)).toNat default)*(1117:Int)) <|gd (Nb .i64<|((r_.b.getD (((r_.p+(1:Int))-(1:Int)).tmod (r_.b.length:Int)).toNat default)*(131:Int))+((r_.b.getD (((((r_.p+(1:Int))-(1:Int))*(7:Int))+(3:Int)).tmod (r_.b.length:Int)).toNat default)*(1117:Int))) <|gd (Nb .i64<|((r_.p+(1:Int))-(1:Int))*(29:Int)) <|gd (Nb .i64<|(((r_.b.getD (((r_.p+(1:Int))-(1:Int)).tmod (r_.b.length:Int)).toNat default)*(131:Int))+((r_.b.getD (((((r_.p+(1:Int))-(1:Int))*(7:Int))+(3:Int)).tmod (r_.b.length:Int)).toNat default)*(1117:Int)))+(((r_.p+(1:Int))-(1:Int))*(29:Int))) <|gd (Nb .i64<|((r_.p+(1:Int))-(1:Int)).tdiv (r_.b.length:Int)) <|gd (Nb .i64<|(((r_.p+(1:Int))-(1:Int)).tdiv (r_.b.length:Int))*(53:Int)) <|gd (Nb .i64<|((((r_.b.getD (((r_.p+(1:Int))-(1:Int)).tmod (r_.b.length:Int)).toNat default)*(131:Int))+((r_.b.getD (((((r_.p+(1:Int))-(1:Int))*(7:Int))+(3:Int)).tmod (r_.b.length:Int)).toNat default)*(1117:Int)))+(((r_.p+(1:Int))-(1:Int))*(29:Int)))+((((r_.p+(1:Int))-(1:Int)).tdiv (r_.b.length:Int))*(53:Int))) <|gd (decide<|(64:Int)≠0) <|gd (Nb .i64<|(((((r_.b.getD (((r_.p+(1:Int))-(1:Int)).tmod (r_.b.length:Int)).toNat default)*(131:Int))+((r_.b.getD (((((r_.p+(1:Int))-(1:Int))*(7:Int))+(3:Int)).tmod (r_.b.length:Int)).toNat default)*(1117:Int)))+(((r_.p+(1:Int))-(1:Int))*(29:Int)))+((((r_.p+(1:Int))-(1:Int)).tdiv (r_.b.length:Int))*(53:Int))).tdiv (64:Int)) <|QU (some<|LR .i64 (((((r_.b.getD (((r_.p+(1:Int))-(1:Int)).tmod (r_.b.length:Int)).toNat default)*(131:Int))+((r_.b.getD (((((r_.p+(1:Int))-(1:Int))*(7:Int))+(3:Int)).tmod (r_.b.length:Int)).toNat default)*(1117:Int)))+(((r_.p+(1:Int))-(1:Int))*(29:Int)))+((((r_.p+(1:Int))-(1:Int)).tdiv (r_.b.length:Int))*(53:Int)))<|(((((r_.b.getD (((r_.p+(1:Int))-(1:Int)).tmod (r_.b.length:Int)).toNat default)*(131:Int))+((r_.b.getD (((((r_.p+(1:Int))-(1:Int))*(7:Int))+(3:Int)).tmod (r_.b.length:Int)).toNat default)*(1117:Int)))+(((r_.p+(1:Int))-(1:Int))*(29:Int)))+((((r_.p+(1:Int))-(1:Int)).tdiv (r_.b.length:Int))*(53:Int))).tdiv (64:Int)) λw27=>gd (decide<|n≠0) <|some ((⟨r_.b,(r_.p+(1:Int))⟩:ak),(w27.tmod n))
def bH (r_:ak) (list:LI):Option (ak×Int):= QU (aP (⟨r_.b,r_.p⟩:ak) (list.length:Int)) λv1=>gd (decide<|0<=v1.2/\v1.2<(list.length:Int)) <|some ((⟨v1.1.b,v1.1.p⟩:ak),(list.getD v1.2.toNat default))
def fZ (x:Int) (low:Int) (high:Int):Option Bool:= QU (bif decide (low<=x) then some (decide<|x<=high) else some false) λs1=>some s1
section
variable {p:List (List Nf)}
structure RunL (p:List (List Nf)) (O:List Int->Prop) (q:List (List Int)):Prop where
 run:Run O q
 row:∀ r∈q,r.length=3*p.length+3
abbrev MH:ByteArray:=⟨#[115,101,113]⟩
abbrev MI:ByteArray:=⟨#[116,115,111]⟩
abbrev MJ:ByteArray:=⟨#[112,115,111]⟩
theorem Mf (hp:PV p) (hv:aA p=some true):Nk (jh p) (RunL p<|GU p):=(G3 hp hv).mono λq h=>⟨h,λr hr=>G5 hp<|(h.mem r).1 hr⟩
theorem G6 (hp:PV p) (hv:aA p=some true):Nk (aK p MH) (RunL p<|GU p):=by
 unfold aK;exact .bifD (λ_=>(Mf hp hv).bind λq h => .pure h) λh=>absurd rfl h
theorem G7 (hp:PW p) (hv:aA p=some true):Nk (aK p MI) (RunL p<|Gq p false):=by
 unfold aK;refine .bifD (λh=>absurd h<|by decide) λ_ => .bifD (λ_=>?_) λh=>absurd rfl h;refine Nk.bind (P:=RunL p<|Gq p false) ?_ λq h => .pure h;unfold nI;exact (Cy hp hv false).bind λq h => .pure ⟨h,λr hr=>CB<|(h.mem r).1 hr⟩
theorem G8 (hp:PW p) (hv:aA p=some true):Nk (aK p MJ) (RunL p<|Gq p true):=by
 unfold aK;refine .bifD (λh=>absurd h<|by decide) λ_ => .bifD (λh=>absurd h<|by decide) λ_ => .bifD (λ_=>?_) λh=>absurd rfl h;refine Nk.bind (P:=RunL p<|Gq p true) ?_ λq h => .pure h;unfold nJ;exact (Cy hp hv true).bind λq h => .pure ⟨h,λr hr=>CB<|(h.mem r).1 hr⟩
end
open Go.ChangeShapes Go.WideShapes Go.ChangeAt Go.RowKit

theorem Ow.setOther {α:Type} {f:α->List Value} {s:Nat} {t t':TypeId} {w:World} {lo hi g:Nat} {v:Value} {xs:List α} {cs:Array Value} (h:Ow f s t w lo hi v xs) (hB:Ni w g t' cs) (hne:t≠t') (i:Nat) (u:Value):Ow f s t (w.setCell ⟨g,i,none⟩ u) lo hi v xs:=by
 obtain ⟨A,c,rfl,hc,hm,r⟩:=h;refine ⟨A,c,rfl,hc,hm,λhn=>?_⟩;obtain ⟨g',cur,rfl,h1,h2,h3,h4⟩:=r hn;refine ⟨g',cur,rfl,h1,h2,h3.far ?_ _,h4⟩;rintro rfl;exact hne (h3.inj hB).1
theorem FK {lo hi:Nat} {u:Value} {xs:List Ins} {w:World} (hu:Sl Ins.cells 4 w lo hi u xs) (hx:xs.length<=1048576) :
  Calls Tryz.prog 101 #[u] w λe w'=>(∃ A c,e = .returned (.slice A xs.length c)/\Ow Ins.cells 4 69 w' w.heap.size w'.heap.size (.slice A xs.length c) xs)/\Below w.heap.size w w':=by
 obtain ⟨A,c,rfl,hsrc⟩:=hu.src sV (by omega);obtain ⟨A',c',hu',hc,hm,_⟩:=hu;injection hu' with h1 _ h2;subst h1 h2;obtain ⟨i0,hi0,hz0,hz1,hz2⟩:=info_parts Tryz.infoIns;have hnil:=λW=>Lib.run_eql_slice_nil (P:=Tryz.prog) W 66 69 A xs.length c 0 0 Tryz.underlying66;rcases A with _ | ad
 ·have h0:xs.length=0:=by
   rcases Nat.eq_zero_or_pos xs.length with h | h
   ·exact h
   obtain ⟨ad,h,_⟩:=hsrc h
   cases h
  have hxs:xs=[]:=Ri h0;have HXS:=Lib.hid hxs;clear hxs h0 hsrc
  go_enter Tryz.func101,Tryz.ntmps101
  go_wp2_with fail
  go_ret
  exact ⟨⟨none,0,by rw [HXS.out];rfl,by rw [HXS.out];exact Ow.uP _ _<|by omega⟩,Below.refl _ _⟩
 have SRC:=Lib.hid hsrc;clear hsrc;have NEW:Hid ((w.alloc<|.cells #[] 69).ownsRow w.heap.size 69 4 (.slice (some ⟨w.heap.size,0,none⟩) 0 0) 0 []):=World.ownsRow_made w #[] 0 (QT _) (by simp [maxLen]) rfl;have SRC2:Hid (Src (w.alloc<|.cells #[] 69) (some ad) xs.length<|xs.flatMap Ins.cells):=by
  intro hn;obtain ⟨ad',h,hc⟩:=SRC.out hn;refine ⟨ad',h,λj u hu=>?_⟩;have := hc j u hu;rw [World.cell?_alloc_lt w _ _ (World.block_lt_of_cell? w _ this)];exact this
 go_enter Tryz.func101,Tryz.ntmps101
 by_cases hn:0<xs.length
 ·go_wp2_with (at_builtin;refine mh _ rfl _ _ 66 rfl w.heap.size 69 i0 _ 4 32 Tryz.underlying66 hi0 hz0 hz1 hz2 rfl (by omega) (.slice (some ⟨w.heap.size,0,none⟩) 0 0) 0 [] rfl NEW.out (some ad) xs.length c (xs.flatMap Ins.cells) rfl (p6 sV xs) SRC2.out (Bb xs) (by simp only [maxLen];omega) (by omega) (by simp) (by omega) ?_;intro gg cap w1 hown hgrow hat hlt)
  go_ret
  refine ⟨⟨some ⟨gg,0,none⟩,cap,by simp, Ow.of_row sV (by simpa using hown) rfl rfl⟩,((Below.refl _ _).alloc (QT _) _).grown hgrow (by simp) λk hk=>by simp [Value.ownBlock] at hk;omega⟩
 have hxs:xs=[]:=Ri (by omega);have HXS:=Lib.hid hxs;clear hxs
 go_wp2_with (at_builtin;refine j6 _ rfl _ _ 66 rfl w.heap.size 69 i0 _ 4 32 Tryz.underlying66 hi0 hz0 hz1 hz2 rfl (by omega) (.slice (some ⟨w.heap.size,0,none⟩) 0 0) 0 [] rfl NEW.out (some ad) xs.length c (xs.flatMap Ins.cells) rfl (p6 sV xs) SRC2.out (Bb xs) (by simp only [maxLen];omega) (by omega) (by simp) ?_;intro v' w1 hown hgrow hat)
 go_ret
 refine ⟨?_,((Below.refl _ _).alloc (QT _) _).grown hgrow (by simp) λk hk=>by simp [Value.ownBlock] at hk;omega⟩;rw [HXS.out] at hown ⊢;rcases hown.2 with ⟨rfl,_⟩ | ⟨g,cap,cur,rfl,_,_,_,hcap,_⟩
 ·exact ⟨none,0,rfl,Ow.uP _ _<|by omega⟩
 simp only [maxLen] at hcap;exact ⟨some ⟨g,0,none⟩,cap,rfl,Ow.uP _ _<|by omega⟩
theorem nY.made2 {α:Type} {f:α->List Value} {s:Nat} {to ti:TypeId} {w:World} {lo hi g c:Nat} {cs:Array Value} {p:List (List α)} {V:Nat->Value}
  (hB:Ni w g to cs) (hg:lo<=g/\g<hi) (hc:cs.size=c) (hpc:p.length<=c) (hc63:c<=9223372036854775807)
  (hrow:∀ j (h:j<p.length),cs[j]? = some (V j)/\Ow f s ti w lo hi (V j) p[j])
  (hsep:∀ i j (hi:i<p.length) (hj:j<p.length),i≠j->0<p[i].length->0<p[j].length->(V i).ownBlock≠(V j).ownBlock):nY f s to ti w lo hi (.slice (some ⟨g,0,none⟩) p.length c) p:=by
 have hcl:p.length<=cs.toList.length:=by simp;omega
 have hlen:(cs.toList.take p.length).length=p.length:=by simp;omega
 have hget:∀ j (h:j<(cs.toList.take p.length).length) (h':j<p.length),(cs.toList.take p.length)[j]=V j:=by
  intro j h h';have h2:=(hrow j h').1;rw [List.getElem_take];rw [Array.getElem?_eq_some_iff] at h2;obtain ⟨_,h2⟩:=h2;simpa using h2
 refine ⟨cs.toList.take p.length,⟨_,c,by rw [hlen],by rw [hlen];exact hpc,hc63,λ_=>⟨g,cs,rfl,hg.1,hg.2,hB,by omega,λk h j u hu=>?_⟩⟩,hlen,λk h h' => ?_,λi j hi hj hi' hj' hne h1 h2=>?_⟩
 ·match j,hu with
  | 0,hu=>
   simp only [ET,List.getElem?_cons_zero,sie] at hu;rw [<- hu,Nat.mul_one,Nat.add_zero,hget k h (by omega)];exact (hrow k<|by omega).1
  | n+1,hu=>simp [ET] at hu
 ·rw [hget k h h'];exact (hrow k h').2
 rw [hget i hi hi',hget j hj hj'];exact hsep i j hi' hj' hne h1 h2
theorem uC {lo hi:Nat} {u:Value} {p:List (List Ins)} {w:World} (hu:sD Ins.cells 4 w lo hi u p) (hhi:hi<=w.heap.size) (hl:p.length<=1048576) (ht:total p<=1048576) :
  Calls Tryz.prog 67 #[u] w λe w'=>(∃ (g:Nat) (cs:Array Value) (V:Nat->Value),e = .returned (.slice (some ⟨g,0,none⟩) p.length p.length)/\Ni w' g 66 cs/\w.heap.size<=g/\cs.size=p.length /\
   (∀ j (h:j<p.length),cs[j]? = some (V j)/\Ow Ins.cells 4 69 w' w.heap.size w'.heap.size (V j) p[j]) /\
   (∀ i j (hi:i<p.length) (hj:j<p.length),i≠j->0<p[i].length->0<p[j].length->(V i).ownBlock≠(V j).ownBlock))/\Below w.heap.size w w':=by
 obtain ⟨xs,hxs,hxl,hxr⟩:=hu;obtain ⟨A,ca,rfl,hca,hma,hA⟩:=hxs.vals;clear hxs hma;obtain ⟨i0,hi0,hz0,hz1,hz2⟩:=info_parts Tryz.infoInsS;have hmk:=λW=>yE (P:=Tryz.prog) 24 66 i0 _ Tryz.underlying24 hi0 hz0 .i64 .i64 xs.length xs.length (QT _) (by rw [hz2];omega) (by omega) W;rw [hz1] at hmk;have HX:=Lib.hid hxl;have hxle:xs.length<=1048576:=by omega
 clear hxl;have HXR:=Lib.hid hxr;clear hxr
 go_enter Tryz.func67,Tryz.ntmps67
 go_wp2_with fail
 clear hmk
 go_loopw [11] (λi wr=>∃ (k:Nat) (cs:Array Value) (V:Nat->Value),k<=xs.length/\i = .int .i64 k/\Below w.heap.size w wr/\Ni wr w.heap.size 66 cs/\cs.size=xs.length /\
   (∀ j (h:j<p.length),j<k->cs[j]? = some (V j)/\Ow Ins.cells 4 69 wr w.heap.size wr.heap.size (V j) p[j]) /\
   (∀ i j (hi:i<p.length) (hj:j<p.length),i<k->j<k->i≠j->0<p[i].length->0<p[j].length->(V i).ownBlock≠(V j).ownBlock)) (λi _=>xs.length-(intOf i).toNat)
 case atStart=>
  exact ⟨0,_,λ_ => .slice none 0 0,Q4 _,rfl,(Below.refl _ _).alloc (QT _) _,Ni.new _ _ _,by simp [size_madeCells],λj _ h=>absurd h (by omega),λi j _ _ h=>absurd h<|by omega⟩
 case round=>
  obtain ⟨k,cs,V,hk,rfl,hb,hB,hcs,hin,hdj⟩:=hrel;have HI:=Lib.hid hin;clear hin;have HD:=Lib.hid hdj;clear hdj;have HB:=Lib.hid hB;have HCS:=Lib.hid hcs;have hgl:=hB.lt;clear hB hcs
  by_cases hlt:k<xs.length
  ·obtain ⟨ba,oa,rfl,_,_,hba,hA⟩:=hA (by omega);have hp:k<p.length:=HX.out ▸ hlt;have ca1:=(hb.cell (p:=⟨ba,oa+k,none⟩) hba).trans<|hA k hlt;have RX:=Lib.hid<|(HXR.out k hlt hp).below hb hhi;have hr:p[k].length<=1048576:=QX (mg p k hp) ht;clear hA;have i1:(0:Int)<=(k:Int):=by omega
   have i2:(k:Int)<(xs.length:Int):=by omega
   go_wp2_with fail
   refine (FK RX.out hr).mono ?_;rintro e w1 ⟨⟨A1,c1,rfl,hown⟩,hq1⟩;have B1:=HB.out.below hq1 hgl;have HO:=Lib.hid hown;clear hown;have hz:k<cs.size:=by rw [HCS.out];omega
   have f0:=B1.frozen k;have e0:=B1.cell k;rw [Array.getElem?_eq_getElem (by omega)] at e0;have HB1:=Lib.hid B1;clear B1;have hw1:=hq1.size
   go_wp2_with fail
   go_roundw
   case rel=>
    refine ⟨k+1,cs.setIfInBounds k<|.slice A1 p[k].length c1,upd V k<|.slice A1 p[k].length c1,by omega,by go_num,(hb.trans<|hq1.mono hb.size).setCell (by simp) _,HB1.out.set_ _ _,?_,?_,?_⟩
    ·simp;exact HCS.out
    ·intro j h hj;have hsz:(w1.setCell ⟨w.heap.size,k,none⟩<|.slice A1 p[k].length c1).heap.size=w1.heap.size:=by simp [World.setCell]
     rw [hsz]
     by_cases e:j=k
     ·subst e;rw [upd_same];exact ⟨zM hz,(HO.out.mono (by omega)<|QT _).setOther HB1.out (by decide) _ _⟩
     rw [upd_ne _ _ e];obtain ⟨h3,h4⟩:=HI.out j h (by omega);exact ⟨by rw [Dt (by omega)];exact h3,(((h4.below hq1<|QT _).mono (QT _) hw1).setOther HB1.out (by decide) _ _)⟩
    intro i j hi hj hik hjk hij h1 h2
    by_cases e:i=k
    ·subst e;rw [upd_same,upd_ne _ _ (by omega)];obtain ⟨g1,_,hg1,hl1,_⟩:=HO.out.block h1;obtain ⟨g2,_,hg2,_,hl2,_⟩:=(HI.out j hj<|by omega).2.block h2;rw [hg1,hg2];intro h;injection h with h;omega
    rw [upd_ne _ _ e]
    by_cases e2:j=k
    ·subst e2;rw [upd_same];obtain ⟨g1,_,hg1,hl1,_⟩:=HO.out.block h2;obtain ⟨g2,_,hg2,_,hl2,_⟩:=(HI.out i hi<|by omega).2.block h1;rw [hg1,hg2];intro h;injection h with h;omega
    rw [upd_ne _ _ e2];exact HD.out i j hi hj (by omega) (by omega) hij h1 h2
   case measure=>simp [intOf];omega
  have hkx:k=xs.length:=by omega
  go_wp2
  go_ret
  have hX:=HX.out;exact ⟨⟨w.heap.size,cs,V,by rw [<- hX];rfl,HB.out,QT _,by rw [<- hX];exact HCS.out,λj h=>HI.out j h (by omega),λi j hi hj=>HD.out i j hi hj (by omega)<|by omega⟩,hb⟩
section
variable {P:Program} (w:World) {α:Type} {f:α->List Value}
theorem z7 {e:TypeId} {base:Nat} {size:Nat} {v':Value} {w':World} {xs:List α} (hf:∀ x,(f x).length=size) (h:w'.ownsRow base e size v' (0+xs.length)<|[]++xs.flatMap f) :
  ∃ A c,v' = .slice A xs.length c/\Ow f size e w' base w'.heap.size (.slice A xs.length c) xs:=by
 rw [Nat.zero_add,List.nil_append] at h;have h2:=Ow.of_row hf h rfl rfl;obtain ⟨A,c,rfl,r⟩:=h2;exact ⟨A,c,rfl,A,c,rfl,r⟩
theorem tE {ops:Array Oper} {rest:List Oper} {o:Oper} {a:Act} {Q:Exit->Act->World->Prop} (hgd:o.guard=none) (s x:Operand) (t:TypeId)
  (ho:o.op = .call { callee := .builtin .append,args := #[s,x],argTypes := #[t,t] })
  (base:Nat) (e:TypeId) (i:TypeInfo) (z:Value) (size bytes:Nat) (ht:P.underlying t=some (.slice e)) (hi:P.info? e=some i) (hz:i.zero=some z)
  (hsize:i.size=size) (hby:i.bytes=bytes) (hzs:z.cells.size=size) (hsz:0<size)
  (v:Value) (hs:a.eval s=v) (hown:w.ownsRow base e size v 0 [])
  (A:Option Addr) (c:Nat) (xs:List α) (hf:∀ x,(f x).length=size) (hx:a.eval x = .slice A xs.length c) (hr:Src w A xs.length<|xs.flatMap f) (h1:∀ u∈xs.flatMap f,u.oneCell'=true)
  (h63:0+xs.length<=maxLen) (hbytes:(0+xs.length)*bytes<=140737488355328) (hbase:base<=w.heap.size)
  (h:∀ A' c' w',Ow f size e w' base w'.heap.size (.slice A' xs.length c') xs->w.grownBy w' v.ownBlock->wpList P ops Q rest (a.put o.dst<|.slice A' xs.length c') w'):wpList P ops Q (o::rest) a w:=by
 refine j6 w hgd s x t ho base e i z size bytes ht hi hz hsize hby hzs hsz v 0 [] hs hown A xs.length c (xs.flatMap f) hx (p6 hf xs) hr h1 h63 hbytes hbase λv' w' h2 h3 _=>?_;obtain ⟨A',c',rfl,ho'⟩:=z7 hf h2;exact h A' c' w' ho' h3
end
section
variable {α:Type} {f:α->List Value} {s:Nat} {t e:TypeId} {w w':World} {lo hi:Nat} {u v:Value} {xs:List α} {base size n:Nat} {cells:List Value}
theorem Ow.grownRow (h:Ow f s t w lo hi v xs) (ho:w.ownsRow base e size u n cells) (hne:t≠e) (hg:w.grownBy w' u.ownBlock):Ow f s t w' lo hi v xs:=by
 refine h.grown hg λhn=>?_;obtain ⟨g,cur,h1,_,_,h2⟩:=h.block hn;rw [h1];rcases ho.2 with ⟨rfl,_⟩ | ⟨g',cap,cur',rfl,_,hh,_⟩
 ·simp [Value.ownBlock]
 simp only [Value.ownBlock,ne_eq,sie];rintro rfl;have h3:Ni w g e cur':=hh;exact hne (h2.inj h3).1
end
theorem Src.one {w:World} {g:Nat} {t:TypeId} {u:Value} (h:Ni w g t #[u]):Src w (some ⟨g,0,none⟩) 1 [u]:=by
 intro _;refine ⟨_,rfl,λj x hx=>?_⟩;rw [mR,Nat.zero_add,h.cell]
 match j,hx with
 | 0,hx=>simpa using hx
 | j+1,hx=>simp at hx
theorem Src.below {w w':World} {B m:Nat} {A:Option Addr} {news:List Value} (h:Src w A m news) (hb:Below B w w') (hB:w.heap.size<=B):Src w' A m news:=by
 intro hm;obtain ⟨ad,rfl,hc⟩:=h hm;refine ⟨ad,rfl,λj u hu=>?_⟩;have := hc j u hu;rw [hb.cell (Nat.lt_of_lt_of_le (World.block_lt_of_cell? w _ this) hB)];exact this


theorem nY.of_row {α:Type} {f:α->List Value} {s:Nat} {to ti:TypeId} {w:World} {base n:Nat} {v:Value} {p:List (List α)} {V:Nat->Value}
  (ho:w.ownsRow base to 1 v n<|(QS n).map V) (hn:n=p.length)
  (hrow:∀ j (h:j<p.length),Ow f s ti w base w.heap.size (V j) p[j])
  (hsep:∀ i j (hi:i<p.length) (hj:j<p.length),i≠j->0<p[i].length->0<p[j].length->(V i).ownBlock≠(V j).ownBlock):nY f s to ti w base w.heap.size v p:=by
 subst hn;have hlen:((QS p.length).map V).length=p.length:=by simp
 refine ⟨(QS p.length).map V,Ow.of_row Jl ho hlen.symm (EU _).symm,hlen,λk h h' => ?_,λi j hi hj hi' hj' hne h1 h2=>?_⟩
 ·have : ((QS p.length).map V)[k]=V k:=by simp
  rw [this];exact hrow k h'
 have e1:((QS p.length).map V)[i]=V i:=by simp
 have e2:((QS p.length).map V)[j]=V j:=by simp
 rw [e1,e2];exact hsep i j hi' hj' hne h1 h2
theorem xe {V:Nat->Value} (k:Nat) (x:Value):(QS<|k+1).map (upd V k x)=(QS k).map V++[x]:=by
 rw [Rv,Rs]
 congr 1
 ·apply Rt;intro a ha;rw [Ra] at ha;exact upd_ne _ _ (by omega)
 simp [upd_same]
theorem FL {to ti:TypeId} (hne:ti≠to) {B k n:Nat} {wr w1 w2:World} {o1 o2:Obj} {u v1:Value} {cells:List Value} {q:List (List Ins)} {V:Nat->Value} (hB:B<=wr.heap.size)
  (hI:∀ j (h:j<q.length),j<k->Ow Ins.cells 4 ti wr B wr.heap.size (V j) q[j])
  (hD:∀ i j (hi:i<q.length) (hj:j<q.length),i<k->j<k->i≠j->0<q[i].length->0<q[j].length->(V i).ownBlock≠(V j).ownBlock)
  (hk:k<q.length) (hO:Ow Ins.cells 4 ti w1 wr.heap.size w1.heap.size v1 q[k]) (hg1:(wr.alloc o1).grownBy w1<|some wr.heap.size)
  (hout:(w1.alloc o2).ownsRow B to 1 u n cells) (hg2:(w1.alloc o2).grownBy w2 u.ownBlock) :
  (∀ j (h:j<q.length),j<k+1->Ow Ins.cells 4 ti w2 B w2.heap.size (upd V k v1 j) q[j]) /\
  (∀ i j (hi:i<q.length) (hj:j<q.length),i<k+1->j<k+1->i≠j->0<q[i].length->0<q[j].length->(upd V k v1 i).ownBlock≠(upd V k v1 j).ownBlock):=by
 have s1:=hg1.size;have s2:=hg2.size;simp only [World.size_alloc] at s1 s2;refine ⟨λj h hj=>?_,λi j hi hj hik hjk hij h1 h2=>?_⟩
 ·by_cases e:j=k
  ·subst e;rw [upd_same];exact ((hO.fr ((Fr.refl 0 0 w1).alloc o2)<|by omega).grownRow hout hne hg2).mono hB (by omega)
  rw [upd_ne _ _ e];have h0:=hI j h (by omega);have h3:=(h0.fr ((Fr.refl 0 0 wr).alloc o1) (by omega)).grown hg1 (λhn=>by
   obtain ⟨g,cur,h4,_,h5,_⟩:=h0.block hn;rw [h4];intro h6;injection h6 with h6;omega)
  exact ((h3.fr ((Fr.refl 0 0 w1).alloc o2)<|by omega).grownRow hout hne hg2).mono (QT _) (by omega)
 by_cases e:i=k
 ·subst e;rw [upd_same,upd_ne _ _ (by omega)];obtain ⟨g1,_,hg1,hl1,_⟩:=hO.block h1;obtain ⟨g2,_,hg2,_,hl2,_⟩:=(hI j hj<|by omega).block h2;rw [hg1,hg2];intro h;injection h with h;omega
 rw [upd_ne _ _ e]
 by_cases e2:j=k
 ·subst e2;rw [upd_same];obtain ⟨g1,_,hg1,hl1,_⟩:=hO.block h2;obtain ⟨g2,_,hg2,_,hl2,_⟩:=(hI i hi<|by omega).block h1;rw [hg1,hg2];intro h;injection h with h;omega
 rw [upd_ne _ _ e2];exact hD i j hi hj (by omega) (by omega) hij h1 h2
set_option maxHeartbeats 1000000 in
theorem DD {lo hi:Nat} {u:Value} {p:List (List Ins)} {w:World} (hu:sD Ins.cells 4 w lo hi u p) (hhi:hi<=w.heap.size) (hl:p.length<=1048576) (ht:total p<=1048576) :
  Calls Tryz.prog 75 #[u] w λe w'=>(∃ (A:Option Addr) (c:Nat),e = .returned (.slice A p.length c)/\nY Ins.cells 4 66 69 w' w.heap.size w'.heap.size (.slice A p.length c) p)/\Below w.heap.size w w':=by
 obtain ⟨xs,hxs,hxl,hxr⟩:=hu;obtain ⟨A,ca,rfl,hca,hma,hA⟩:=hxs.vals;clear hxs hma;obtain ⟨i0,hi0,hz0,hz1,hz2⟩:=info_parts Tryz.infoIns;obtain ⟨j0,hj0,hy0,hy1,hy2⟩:=info_parts Tryz.infoInsS;have HX:=Lib.hid hxl;have hxle:xs.length<=1048576:=by omega
 clear hxl;have HXR:=Lib.hid hxr;clear hxr
 go_enter Tryz.func75,Tryz.ntmps75
 go_wp2_with fail
 go_loopw [3,4] (λsv i wr=>∃ (k:Nat) (V:Nat->Value) (A:Option Addr) (c:Nat),k<=xs.length/\i = .int .i64 k/\sv = .slice A k c/\Below w.heap.size w wr /\
   wr.ownsRow w.heap.size 66 1 (.slice A k c) k ((QS k).map V) /\
   (∀ j (h:j<p.length),j<k->Ow Ins.cells 4 69 wr w.heap.size wr.heap.size (V j) p[j]) /\
   (∀ i j (hi:i<p.length) (hj:j<p.length),i<k->j<k->i≠j->0<p[i].length->0<p[j].length->(V i).ownBlock≠(V j).ownBlock)) (λ_ i _=>xs.length-(intOf i).toNat)
 case atStart=>
  exact ⟨0,λ_ => .slice none 0 0,_,_,Q4 _,rfl,rfl,(Below.refl _ _).alloc (QT _) _,World.ownsRow_made w #[] 0 (QT _) (by simp [maxLen]) rfl,λj _ h=>absurd h (by omega),λi j _ _ h=>absurd h<|by omega⟩
 case round=>
  obtain ⟨k,V,A',c',hk,rfl,rfl,hb,hown,hin,hdj⟩:=hrel;have HI:=Lib.hid hin;clear hin;have HD:=Lib.hid hdj;clear hdj;have HOUT:=Lib.hid hown;clear hown;have hws:=hb.size
  by_cases hlt:k<xs.length
  ·obtain ⟨ba,oa,rfl,_,_,hba,hA⟩:=hA (by omega);have hp:k<p.length:=HX.out ▸ hlt;have ca1:=(hb.cell (p:=⟨ba,oa+k,none⟩) hba).trans<|hA k hlt;obtain ⟨Ak,ck,hk1,hsrc⟩:=((HXR.out k hlt hp).below hb hhi).src sV (by omega);rw [hk1] at ca1;have hr:p[k].length<=1048576:=QX (mg p k hp) ht;clear hA hk1;have i1:(0:Int)<=(k:Int):=by omega
   have i2:(k:Int)<(xs.length:Int):=by omega
   have NEW:Hid ((wr.alloc<|.cells #[] 69).ownsRow wr.heap.size 69 4 (.slice (some ⟨wr.heap.size,0,none⟩) 0 0) 0 []):=World.ownsRow_made wr #[] 0 (QT _) (by simp [maxLen]) rfl;have SRC:Hid (Src (wr.alloc<|.cells #[] 69) Ak p[k].length<|p[k].flatMap Ins.cells):=hsrc.below ((Below.refl wr.heap.size wr).alloc (QT _) _)<|QT _;clear hsrc;have ca2:(wr.alloc<|.cells #[] 69).cell? ⟨ba,oa+k,none⟩=some (.slice Ak p[k].length ck):=by
    rw [World.cell?_alloc_lt _ _ _ (World.block_lt_of_cell? wr _ ca1)];exact ca1
   clear ca1;have OUT2:Hid (∀ w1:World,(wr.alloc<|.cells #[] 69).grownBy w1 (some wr.heap.size)->∀ o,(w1.alloc o).ownsRow w.heap.size 66 1 (.slice A' k c') k<|(QS k).map V):=by
    intro w1 hg o;refine ((HOUT.out.alloc _).kept hg ?_).alloc o
    by_cases h:(Value.slice A' k c').ownBlock=some wr.heap.size
    ·have := (HOUT.out.lt _ h).2;omega
    exact .inr h
   go_wp2_with (first
    | (at_builtin;refine tE _ rfl (.tmp 13) (.tmp 17) 66 rfl wr.heap.size 69 i0 _ 4 32 Tryz.underlying66 hi0 hz0 hz1 hz2 rfl (by omega) (.slice (some ⟨wr.heap.size,0,none⟩) 0 0) rfl NEW.out Ak ck p[k] sV rfl SRC.out (Bb p[k]) (by simp only [maxLen];omega) (by omega) (by simp) ?_;intro A1 c1 w1 hown1 hg1;have s1:=hg1.size;have HO1:=Lib.hid hown1;clear hown1;have HG1:=Lib.hid hg1;clear hg1)
    | (at_builtin;refine mh _ rfl (.tmp 12) (.tmp 19) 24 rfl w.heap.size 66 j0 _ 1 24 Tryz.underlying24 hj0 hy0 hy1 hy2 rfl (by omega) (.slice A' k c') k ((QS k).map V) rfl (OUT2.out w1 HG1.out _) (some ⟨w1.heap.size,0,none⟩) 1 1 [.slice A1 p[k].length c1] rfl rfl (Src.one (Ni.new w1 _ _)) (by simp [Value.oneCell']) (by simp only [maxLen];omega) (by omega) (by simp at s1 ⊢;omega) (by omega) ?_;intro gg cap w2 hown2 hg2 hat2 hlt2))
   go_roundw
   case rel=>
    have CS:=FL (by decide) hb.size HI.out HD.out hp HO1.out HG1.out (OUT2.out w1 HG1.out _) hg2;have s2:=hg2.size;refine ⟨k+1,upd V k<|.slice A1 p[k].length c1,some ⟨gg,0,none⟩,cap,by omega,by go_num,rfl,?_,?_,CS.1,CS.2⟩
    ·have g1:=((Below.refl w.heap.size wr).alloc hb.size<|.cells #[] 69).grown HG1.out (by simp;omega) (λq hq=>by simp [Value.ownBlock] at hq;omega);have g2:=((hb.trans g1).alloc (by simp at s1;omega)<|.cells #[.slice A1 p[k].length c1] 66).grown hg2 (by simp at s1 ⊢;omega) (λq hq=>(HOUT.out.lt q hq).1);exact g2
    rw [xe];exact hown2
   case measure=>simp [intOf];omega
  have hkx:k=xs.length:=by omega
  go_wp2
  go_ret
  have hX:=HX.out;refine ⟨⟨A',c',by rw [<- hX,<- hkx];rfl,?_⟩,hb⟩;rw [<- hX,<- hkx];exact nY.of_row HOUT.out (by omega) (λj h=>HI.out j h<|by omega) λi j hi hj=>HD.out i j hi hj (by omega) (by omega)
def mH (n i k:Int):Int:=if n=i then k else if n=k then i else n
theorem DF (n i k:Int) (w:World):Calls Tryz.prog 74 #[.int .i64 n,.int .i64 i,.int .i64 k] w λe w'=>e = .returned (.int .i64<|mH n i k)/\w=w':=by
 unfold mH
 go_enter Tryz.func74,Tryz.ntmps74
 go_wp2_with fail
 all_goals (go_ret;exact ⟨qJ (by simp_all),rfl⟩)
theorem Bn (n i k:Int) (w:World):Calls Tryz.prog 70 #[.int .i64 n,.int .i64 i,.int .i64 k] w λe w'=>e = .returned (.int .i64<|mH n i k)/\w=w':=by
 unfold mH
 go_enter Tryz.func70,Tryz.ntmps70
 go_wp2_with fail
 all_goals (go_ret;exact ⟨qJ (by simp_all),rfl⟩)
def fB (t i k:Nat):Nat:=if t=i then k else if t=k then i else t
theorem yL {n t i k:Nat} (ht:t<n) (hi:i<n) (hk:k<n):fB t i k<n:=by unfold fB;split <;> (try split) <;> omega
theorem heap_drew (w:World):w.drew.heap=w.heap:=rfl


section
variable {w:World} {g:Nat} {t:TypeId} {cs:Array Value}
end


section
variable {α β:Type} [Inhabited β] {f:α->List Value} {s:Nat} {c:β->List AV} {w:World} {fz:Nat->Prop} {v:Value}
theorem qA {u x:Value} (h:FRel w fz (.v u) x):x=u:=by
 cases h with
 | v _=>rfl
theorem yc {e:β->α} (hf:∀ x,c x=(f<|e x).map AV.v) (hs:∀ x,(f<|e x).length=s) {l:List β} (h:FRel w fz (eL c l) v):Sl f s w 0 w.heap.size v (l.map e):=by
 unfold eL at h
 cases h with
 | sl us hc hm ha hr hu h1 h=>
  refine ⟨_,_,by rw [llm],by simpa using hc,hm,λhn=>?_⟩;rw [llm] at hn;obtain ⟨rfl,hg,hlt⟩:=ha hn;refine ⟨_,_,rfl,Q4 _,hlt,hlt,λk hk j u hu' => ?_⟩;rw [llm] at hk;rw [Rj] at hu';have hk0:l.getD k default=l[k]:=by simp [List.getD,hk]
  have hrow:(c<|l.getD k default)[j]? = some (.v u):=by rw [hk0,hf,Ry,hu'];rfl
  have hs':=hr k hk
  dsimp only at hs'
  rw [hf,llm,hs] at hs';subst hs';have h2:=hu k j _ hk hrow;rw [qA (h k j _ hk hrow)] at h2;exact h2
theorem kL {e:β->α} (hf:∀ x,c x=(f<|e x).map AV.v) (hs:∀ x,(f<|e x).length=s) {l:List (List β)} (h:FRel w fz (eL (cL c) l) v):sD f s w 0 w.heap.size v (l.map λr=>r.map e):=by
 unfold eL at h
 cases h with
 | sl us hc hm ha hr hu h1 h=>
  refine ⟨(QS l.length).map λi=>us i 0,?_,by simp,λk hk hk' => ?_⟩
  ·refine ⟨_,_,by rw [llm,Re],by simpa using hc,hm,λhn=>?_⟩;rw [llm,Re] at hn;obtain ⟨rfl,hg,hlt⟩:=ha hn;refine ⟨_,_,rfl,Q4 _,hlt,hlt,λk hk j u hu' => ?_⟩;rw [llm,Re] at hk;rw [Rj,List.getElem_range] at hu';have hs':=hr k hk;change 1=_ at hs';subst hs'
   match j with
   | 0=>
    have h2:=hu k 0 _ hk rfl;rw [h2];simpa [ET] using hu'
   | j+1=>simp [ET] at hu'
  rw [llm,Re] at hk;rw [Rj,Rj,List.getElem_range];have h2:=h k 0 _ hk rfl;have hk0:l.getD k default=l[k]:=by simp [List.getD,hk]
  rw [hk0] at h2;exact yc hf hs h2
theorem DG {e:α->β} (hf:∀ x,c (e x)=(f x).map AV.v) (hs:∀ x,(f x).length=s) (hp:∀ x,∀ u∈f x,plain u=true) {l:List α} {hi:Nat} (h:Sl f s w 0 hi v l):FRel w (λg=>g<w.heap.size) (eL c<|l.map e) v:=by
 obtain ⟨A,cap,rfl,hc,hm,h⟩:=h;have key:∀ (g o:Nat),(0<l.length->A=some ⟨g,o,none⟩/\g<w.heap.size/\∀ (k:Nat) (h:k<l.length) (j:Nat) (u:Value),(f l[k])[j]? = some u->w.cell? ⟨g,o+k*s+j,none⟩=some u)->FRel w (λg=>g<w.heap.size) (eL c<|l.map e) (.slice A l.length cap):=by
  intro g o hh;have hrow:∀ (i j:Nat) (a:AV),i<l.length->(c<|(l.map e).getD i default)[j]? = some a->∃ u,l[i]?.bind (λx=>(f x)[j]?)=some u/\a = .v u/\plain u=true/\w.cell? ⟨g,o+i*s+j,none⟩=some u:=by
   intro i j a hi ha;have h0:(l.map e).getD i default=e l[i]:=by simp [List.getD,hi]
   rw [h0,hf,Ry] at ha
   cases hq:(f l[i])[j]? with
   | none=>rw [hq] at ha;cases ha
   | some u=>
    rw [hq] at ha;refine ⟨u,by rw [geq hi];exact hq,(osl ha).symm,hp _ u<|Rh hq,(hh<|by omega).2.2 i hi j u hq⟩
  have e0:(l.map e).length=l.length:=by simp
  unfold eL;rw [e0];refine FRel.sl (s:=s) (g:=g) (o:=o) (λi j=>(l[i]?.bind λx=>(f x)[j]?).getD<|.bool false) hc hm (λhn=>⟨(hh hn).1,(hh hn).2.1,(hh hn).2.1⟩) (λi hi=>?_) (λi j a hi ha=>?_) (λi j a hi ha=>?_) λi j a hi ha=>?_
  ·have h0:(l.map e).getD i default=e l[i]:=by simp [List.getD,hi]
   rw [h0,hf,llm,hs]
  ·obtain ⟨u,h1,h2,h3,h4⟩:=hrow i j a hi ha;simp only [h1,QZ];exact h4
  ·obtain ⟨u,h1,h2,h3,h4⟩:=hrow i j a hi ha;simp only [h1,QZ];exact qZ h3
  obtain ⟨u,h1,h2,h3,h4⟩:=hrow i j a hi ha;subst h2;simp only [h1,QZ];exact .v h3
 by_cases h0:0<l.length
 ·obtain ⟨b,o,hA,_,_,hlt,hcell⟩:=h h0;exact key b o λ_=>⟨hA,hlt,hcell⟩
 exact key 0 0 λh1=>absurd h1 h0
theorem yM {P:Program} {g:FuncId} {ars:List AV} {r:AV} (h:aW P g ars r) (vs:Array Value) (hl:vs.size=ars.length) (hr:∀ (i:Nat) (a:AV) (v:Value),ars[i]? = some a->vs[i]? = some v->FRel w (λg=>g<w.heap.size) a v) (hgl:Gl w (λg=>g<w.heap.size):=by exact Ei) :
  Calls P g vs w λe w'=>∃ v fz',e = .returned v/\Below w.heap.size w w'/\FRel w' fz' r v:=
 (h.2 w _ vs (λg hg=>hg) hgl hl hr).mono λe w' ⟨v,fz',h1,h2,h3,_⟩=>⟨v,fz',h1,h2,h3⟩
theorem Mg {a:AV} {u:Value} (h:FRel w fz a u):∀ (i:Nat) (a':AV) (v:Value),[a][i]? = some a' -> #[u][i]? = some v->FRel w fz a' v:=by
 intro i a' v h1 h2
 match i with
 | 0=>
  obtain rfl:=osl h1;obtain rfl:u=v:=by simpa using h2
  exact h
 | i+1=>simp at h1
end
theorem DI {w:World} {v:Value} {hi:Nat} {l:LI} (h:Sl A8 1 w 0 hi v l):FRel w (λg=>g<w.heap.size) (eL cY l) v:=by
 have := DG (f:=A8) (s:=1) (c:=cY) (e:=id) (λ_=>rfl) (λ_=>rfl) (λx u hu=>by simp [A8] at hu;subst hu;rfl) h
 rwa [List.map_id] at this
theorem Bp {P:Program} {g:FuncId} {ars:List AV} {w:World} {vs:Array Value} (h:aW P g ars<|Bo true) (hl:vs.size=ars.length) (hr:∀ (i:Nat) (a:AV) (v:Value),ars[i]? = some a->vs[i]? = some v->FRel w (λg=>g<w.heap.size) a v) (hgl:Gl w (λg=>g<w.heap.size):=by exact Ei) :
  Calls P g vs w λe w'=>e = .returned (.bool true)/\Below w.heap.size w w':=
 (yM h vs hl hr hgl).mono λe w' ⟨v,fz',h1,h2,h3⟩=>⟨by rw [h1,qA h3],h2⟩
section
variable {α β:Type} [Inhabited β] {f:α->List Value} {s:Nat} {c:β->List AV} {w:World} {fz:Nat->Prop} {v:Value}
theorem Bq {e:α->β} (hf:∀ x,c (e x)=(f x).map AV.v) (hs:∀ x,(f x).length=s) (hp:∀ x,∀ u∈f x,plain u=true) {l:List α} {lo hi:Nat} (hfz:∀ g,lo<=g->g<hi->fz g) (h:Sl f s w lo hi v l):FRel w fz (eL c<|l.map e) v:=by
 obtain ⟨A,cap,rfl,hc,hm,h⟩:=h;have key:∀ (g o:Nat),(0<l.length->A=some ⟨g,o,none⟩/\(fz g/\g<w.heap.size)/\∀ (k:Nat) (h:k<l.length) (j:Nat) (u:Value),(f l[k])[j]? = some u->w.cell? ⟨g,o+k*s+j,none⟩=some u)->FRel w fz (eL c<|l.map e) (.slice A l.length cap):=by
  intro g o hh;have hrow:∀ (i j:Nat) (a:AV),i<l.length->(c<|(l.map e).getD i default)[j]? = some a->∃ u,l[i]?.bind (λx=>(f x)[j]?)=some u/\a = .v u/\plain u=true/\w.cell? ⟨g,o+i*s+j,none⟩=some u:=by
   intro i j a hi ha;have h0:(l.map e).getD i default=e l[i]:=by simp [List.getD,hi]
   rw [h0,hf,Ry] at ha
   cases hq:(f l[i])[j]? with
   | none=>rw [hq] at ha;cases ha
   | some u=>
    rw [hq] at ha;refine ⟨u,by rw [geq hi];exact hq,(osl ha).symm,hp _ u<|Rh hq,(hh<|by omega).2.2 i hi j u hq⟩
  have e0:(l.map e).length=l.length:=by simp
  unfold eL;rw [e0];refine FRel.sl (s:=s) (g:=g) (o:=o) (λi j=>(l[i]?.bind λx=>(f x)[j]?).getD<|.bool false) hc hm (λhn=>⟨(hh hn).1,(hh hn).2.1.1,(hh hn).2.1.2⟩) (λi hi=>?_) (λi j a hi ha=>?_) (λi j a hi ha=>?_) λi j a hi ha=>?_
  ·have h0:(l.map e).getD i default=e l[i]:=by simp [List.getD,hi]
   rw [h0,hf,llm,hs]
  ·obtain ⟨u,h1,h2,h3,h4⟩:=hrow i j a hi ha;simp only [h1,QZ];exact h4
  ·obtain ⟨u,h1,h2,h3,h4⟩:=hrow i j a hi ha;simp only [h1,QZ];exact qZ h3
  obtain ⟨u,h1,h2,h3,h4⟩:=hrow i j a hi ha;subst h2;simp only [h1,QZ];exact .v h3
 by_cases h0:0<l.length
 ·obtain ⟨b,o,hA,h1,h2,hlt,hcell⟩:=h h0;exact key b o λ_=>⟨hA,⟨hfz b h1 h2,hlt⟩,hcell⟩
 exact key 0 0 λh1=>absurd h1 h0
end
theorem DJ {α β:Type} [Inhabited β] {f:α->List Value} {s:Nat} {c:β->List AV} {e:α->β} (hf:∀ x,c (e x)=(f x).map AV.v) (hs:∀ x,(f x).length=s) (hp:∀ x,∀ u∈f x,plain u=true) {w:World} {v:Value} {l:List (List α)} {lo hi:Nat} {fz:Nat->Prop} (hfz:∀ g,lo<=g->g<hi->fz g) (h:sD f s w lo hi v l) :
  FRel w fz (eL (cL c)<|l.map λr=>r.map e) v:=by
 obtain ⟨xs,⟨A,cap,rfl,hc,hm,h⟩,hl,hr⟩:=h;have e0:(l.map λr=>r.map e).length=xs.length:=by rw [llm,hl]
 have key:∀ (g o:Nat),(0<xs.length->A=some ⟨g,o,none⟩/\(fz g/\g<w.heap.size)/\∀ (k:Nat) (h:k<xs.length),w.cell? ⟨g,o+k*1+0,none⟩=some xs[k])->FRel w fz (eL (cL c)<|l.map λr=>r.map e) (.slice A xs.length cap):=by
  intro g o hh;unfold eL;rw [e0];have hg:∀ i (h:i<xs.length),(l.map λr=>r.map e).getD i default=(l[i]'(by omega)).map e:=λi h=>by simp [List.getD,show i<l.length by omega]
  have one:∀ (i j:Nat) (a:AV),(cL c<|(l.map λr=>r.map e).getD i default)[j]? = some a->j=0/\a=eL c ((l.map λr=>r.map e).getD i default):=λi j a ha=>by
   match j with
   | 0=>exact ⟨rfl,(osl ha).symm⟩
   | j+1=>simp [cL] at ha
  have us:∀ i (h:i<xs.length),(xs[i]?.getD<|.bool false)=xs[i]:=λi h=>by simp [h]
  have ho:∀ i (h:i<xs.length),∃ A n k,xs[i] = .slice A n k:=λi h=>by
   obtain ⟨A,k,he,_⟩:=hr i h (by omega);exact ⟨A,_,k,he⟩
  refine FRel.sl (s:=1) (g:=g) (o:=o) (λi _=>xs[i]?.getD<|.bool false) hc hm (λhn=>⟨(hh hn).1,(hh hn).2.1.1,(hh hn).2.1.2⟩) (λi hi=>rfl) (λi j a hi ha=>?_) (λi j a hi ha=>?_) λi j a hi ha=>?_
  ·obtain ⟨rfl,_⟩:=one i j a ha;rw [us i hi];exact (hh<|by omega).2.2 i hi
  ·rw [us i hi];obtain ⟨A,n,k,he⟩:=ho i hi;rw [he]
   rfl
  obtain ⟨rfl,rfl⟩:=one i j a ha;rw [us i hi,hg i hi];exact Bq hf hs hp hfz<|hr i hi (by omega)
 by_cases h0:0<xs.length
 ·obtain ⟨b,o,hA,h1,h2,hlt,hcell⟩:=h h0;exact key b o λ_=>⟨hA,⟨hfz b h1 h2,hlt⟩,λk hk=>hcell k hk 0 _ rfl⟩
 exact key 0 0 λh1=>absurd h1 h0
def z8 (x:Ins):Nf:=⟨x.op,x.loc,x.reg,x.val⟩
abbrev toP (p:List<|List Nf):List (List Ins):=p.map λr=>r.map fK
abbrev ofP (p:List<|List Ins):List (List Nf):=p.map λr=>r.map z8
theorem FM {w:World} {v:Value} {p:List (List Ins)} {lo hi:Nat} {fz:Nat->Prop} (hfz:∀ g,lo<=g->g<hi->fz g) (h:sD Ins.cells 4 w lo hi v p):FRel w fz (eL (cL Nf.c)<|ofP p) v:=
 DJ (f:=Ins.cells) (s:=4) (c:=Nf.c) (e:=z8) (λ_=>rfl) (λ_=>rfl) (λx u hu=>by simp [Ins.cells] at hu;rcases hu with rfl | rfl | rfl | rfl <;> rfl) hfz h
theorem G9 {w:World} {fz:Nat->Prop} {a b:AV} {u v:Value} (ha:FRel w fz a u) (hb:FRel w fz b v):FRel w fz (.tup [a,b]) (.tuple #[u,v]):=by
 refine .tup rfl λi c x hc hx=>?_
 match i with
 | 0=>
  obtain rfl:=osl hc;obtain rfl:u=x:=by simpa using hx
  exact ha
 | 1=>
  obtain rfl:=osl hc;obtain rfl:v=x:=by simpa using hx
  exact hb
 | i+2=>simp at hc
theorem CC {P:Program} {g:FuncId} {ars:List AV} {r:List (List Ins)×Bool} {to ti:TypeId} (hc:eD P g=true) (h:∀ (w:World) (fz:Nat->Prop) (vs:Array Value),vs.size=ars.length->(∀ (i:Nat) (a:AV) (v:Value),ars[i]? = some a->vs[i]? = some v->FRel w fz a v) ->
  Calls P g vs w λe w'=>(∃ v,e = .returned (.tuple #[v,.bool r.2])/\nY Ins.cells 4 to ti w' w.heap.size w'.heap.size v r.1)/\Below w.heap.size w w'):aW P g ars (.tup [eL (cL Nf.c) (ofP r.1),Bo r.2]):=by
 refine ⟨hc,λw fz vs hlt _ hl hrel=>(h w fz vs hl hrel).mono λe w' ⟨⟨v,he,ho⟩,hb⟩ => ?_⟩;have hfz:∀ g,w.heap.size<=g->g<w'.heap.size->(λg=>fz g\/(w.heap.size<=g/\g<w'.heap.size)) g:=λg h1 h2 => .inr ⟨h1,h2⟩;refine ⟨_,λg=>fz g\/(w.heap.size<=g/\g<w'.heap.size),he,hb,G9 (FM hfz ho.sl)<|.v rfl,λg hg => .inl hg,λg hg=>?_,λg hg=>?_⟩
 ·rcases hg with hg | hg
  ·exact .inl hg
  exact .inr hg.1
 rcases hg with hg | hg
 ·exact Nat.lt_of_lt_of_le (hlt g hg) hb.size
 exact hg.2
theorem FN {w:World} {fz:Nat->Prop} {vs:Array Value} {a:AV} {t i:Int} (hl:vs.size=[a,I t,I i].length) (hrel:∀ (j:Nat) (c:AV) (v:Value),[a,I t,I i][j]? = some c->vs[j]? = some v->FRel w fz c v):∃ u,vs = #[u,.int .i64 t,.int .i64 i]:=by
 obtain ⟨l⟩:=vs
 match l,hl with
 | [x,y,z],_=>
  have e1:=qA<|hrel 1 _ y rfl rfl;have e2:=qA<|hrel 2 _ z rfl rfl;subst e1 e2;exact ⟨x,rfl⟩
theorem nY.hdr {to ti:TypeId} {w:World} {lo hi:Nat} {v:Value} {p:List (List Ins)} (h:nY Ins.cells 4 to ti w lo hi v p) (t:Nat) (r:List Ins) (hr:p[t]? = some r) :
  ∃ (go co ct:Nat) (At:Option Addr),v = .slice (some ⟨go,0,none⟩) p.length co/\lo<=go/\go<hi/\go<w.heap.size/\w.cell? ⟨go,t,none⟩=some (.slice At r.length ct):=by
 obtain ⟨ht,rfl⟩:=ges hr;obtain ⟨vs,ho,hl,hrow,hsep⟩:=h;obtain ⟨A,co,rfl,hco,hmo,hx⟩:=ho;obtain ⟨go,curo,rfl,hg1,hg2,hBo,hszo,hcells⟩:=hx (by omega);obtain ⟨At,ct,hvt,hct,hmt,hxt⟩:=hrow t (by omega) ht;refine ⟨go,co,ct,At,by rw [hl],hg1,hg2,hBo.lt,?_⟩;rw [hBo.cell];have := hcells t (by omega) 0 vs[t] (by simp [ET]);rw [hvt] at this;simpa using this
theorem nY.openRow2 {to ti:TypeId} {w:World} {lo hi:Nat} {v:Value} {p:List (List Ins)} (hne:ti≠to) (h:nY Ins.cells 4 to ti w lo hi v p) (t:Nat) (r:List Ins) (hr:p[t]? = some r) (hn:0<r.length) :
  ∃ (go co gt ct:Nat) (cur:Array Value),v = .slice (some ⟨go,0,none⟩) p.length co/\lo<=go/\go<hi/\go<w.heap.size/\go≠gt/\lo<=gt/\gt<hi/\w.cell? ⟨go,t,none⟩=some (.slice (some ⟨gt,0,none⟩) r.length ct) /\
   Ni w gt ti cur/\cur.size=ct*4/\r.length<=ct/\(∀ k (h:k<r.length),rL cur (k*4) r[k]) /\
   ∀ (w':World) (cur':Array Value) (xs:List Ins),(∀ k,k<w.heap.size->k≠gt->w'.heap[k]? = w.heap[k]?)->Ni w' gt ti cur'->cur'.size=cur.size->xs.length=r.length->(∀ k (h:k<xs.length),rL cur' (k*4) xs[k]) ->
    nY Ins.cells 4 to ti w' lo hi v (p.set t xs):=by
 obtain ⟨ht,rfl⟩:=ges hr;obtain ⟨vs,ho,hl,hrow,hsep⟩:=h;obtain ⟨A,co,rfl,hco,hmo,hx⟩:=ho;obtain ⟨go,curo,rfl,hg1,hg2,hBo,hszo,hcells⟩:=hx (by omega);obtain ⟨At,ct,hvt,hct,hmt,hxt⟩:=hrow t (by omega) ht;obtain ⟨gt,cur,rfl,hg3,hg4,hBt,hszt,hcur⟩:=hxt hn;have hgg:go≠gt:=by
  intro e;subst e;exact hne (hBt.inj hBo).1
 refine ⟨go,co,gt,ct,cur,by rw [hl],hg1,hg2,hBo.lt,hgg,hg3,hg4,?_,hBt,hszt,hct,λk hk => .of_cells<|hcur k hk,?_⟩
 ·rw [hBo.cell];have := hcells t (by omega) 0 vs[t] (by simp [ET]);rw [hvt] at this;simpa using this
 intro w' cur' xs hfr hB' hsz' hxl hhas;refine ⟨vs,⟨_,co,rfl,hco,hmo,λ_=>⟨go,curo,rfl,hg1,hg2,(hfr go hBo.lt hgg).trans hBo,hszo,hcells⟩⟩,by simp [hl],λk hk hk' => ?_,λi j hi hj hi' hj' hij h1 h2=>?_⟩
 ·by_cases e:k=t
  ·subst e;rw [hvt];simp only [List.getElem_set_self];exact ⟨_,ct,by rw [hxl],by omega,hmt,λ_=>⟨gt,cur',rfl,hg3,hg4,hB',by omega,λq hq=>(hhas q hq).cells⟩⟩
  have hkp:k<p.length:=by simpa using hk'
  have hget:(p.set t xs)[k]=p[k]:=by simp [Ne.symm e]
  rw [hget];obtain ⟨Ak,ck,hvk,hck,hmk,hxk⟩:=hrow k hk hkp;refine ⟨Ak,ck,hvk,hck,hmk,λhn' => ?_⟩;obtain ⟨gk,curk,rfl,h3,h4,hBk,hszk,hcurk⟩:=hxk hn';have hs:=hsep k t hk (by omega) hkp ht e hn' hn;rw [hvk,hvt] at hs;refine ⟨gk,curk,rfl,h3,h4,(hfr gk hBk.lt ?_).trans hBk,hszk,hcurk⟩;intro e2;subst e2;exact hs rfl
 have hip:i<p.length:=by simpa using hi'
 have hjp:j<p.length:=by simpa using hj'
 refine hsep i j hi hj hip hjp hij ?_ ?_
 ·by_cases e:i=t
  ·subst e;exact hn
  simpa [Ne.symm e] using h1
 by_cases e:j=t
 ·subst e;exact hn
 simpa [Ne.symm e] using h2
def eG (i k:Int) (x:Ins):Ins:=if x.op=4 then x else ⟨x.op,mH x.loc i k,x.reg,x.val⟩
def gY (f:Ins->Ins) (n:Nat) (r:List Ins):List Ins:=r.mapIdx λj x=>if j<n then f x else x
def fD (f:Ins->Ins) (k:Nat) (p:List<|List Ins):List (List Ins):=p.mapIdx λj r=>if j<k then r.map f else r
def mN (p:List<|List Ins) (i k:Int):List (List Ins)×Bool:=if (cK p&&(Nj i 2&&Nj k 2))=true then (p.map<|List.map<|eG i k,true) else ([],false)
section
variable {f:Ins->Ins}
theorem bG (n:Nat) (r:List Ins):(gY f n r).length=r.length:=by simp [gY]
theorem kv (n:Nat) (p:List<|List Ins):(fD f n p).length=p.length:=by simp [fD]
theorem ko (n:Nat) (r:List Ins) (j:Nat) (h:j<(gY f n r).length) (h':j<r.length):(gY f n r)[j]=if j<n then f r[j] else r[j]:=by simp [gY]
theorem vZ (r:List Ins):gY f 0 r=r:=Q7 (bG _ _) λj h h'=>by rw [ko _ _ _ h h',if_neg (by omega)]
theorem yd (r:List Ins) {n:Nat} (hn:r.length<=n):gY f n r=r.map f:=Q7 (by simp [gY]) λj h h'=>by
 have hj:j<r.length:=by simpa using h'
 rw [ko _ _ _ h hj,if_pos (by omega),Rj]
theorem uq (p:List<|List Ins):fD f 0 p=p:=Q7 (kv _ _) λj h h'=>by simp [fD]
theorem wh (p:List<|List Ins) {n:Nat} (hn:p.length<=n):fD f n p=p.map (List.map f):=Q7 (by simp [fD]) λj h h'=>by
 have hj:j<p.length:=by simpa using h'
 simp [fD,show j<n by omega]
theorem tG (n:Nat) (p:List<|List Ins) (h:n<p.length):(fD f n p)[n]? = some p[n]:=by simp [fD,h]
theorem ut (n:Nat) (p:List<|List Ins) (h:n<p.length):(fD f n p).set n (p[n].map f)=fD f (n+1) p:=Q7 (by simp [fD]) λj h1 h2=>by
 have hj:j<p.length:=by rwa [kv] at h2
 rw [List.getElem_set]
 split
 ·rename_i e;subst e;simp [fD]
 rename_i e;simp [fD,show (j<n↔j<n+1) by omega]
theorem Aa {α:Type} (p:List α) (n:Nat) (x:α) (h:p[n]? = some x):p.set n x=p:=by
 obtain ⟨hn,rfl⟩:=ges h;exact List.set_getElem_self hn
theorem CE {r:List Ins} {cur:Array Value} {n:Nat} {l:Int} (h:∀ j (hj:j<(gY f n r).length),rL cur (j*4) (gY f n r)[j]) (hn:n<r.length) (hs:r.length*4<=cur.size)
  (hf:f r[n]=⟨r[n].op,l,r[n].reg,r[n].val⟩):∀ j (hj:j<(gY f (n+1) r).length),rL (cur.setIfInBounds (n*4+1)<|.int .i64 l) (j*4) (gY f (n+1) r)[j]:=by
 intro j hj;have hj':j<r.length:=by rwa [bG] at hj
 have h0:=h j (by rw [bG];exact hj');rw [ko _ _ _ _ hj'] at h0 ⊢
 by_cases e:j=n
 ·subst e;rw [if_neg (by omega)] at h0;rw [if_pos (by omega),hf];obtain ⟨h1,h2,h3,h4⟩:=h0;refine ⟨?_,?_,?_,?_⟩
  ·rw [Q8 (by omega)];exact h1
  ·simp [show j*4+1<cur.size by omega]
  ·rw [Q8 (by omega)];exact h3
  rw [Q8 (by omega)];exact h4
 have h5:(if j<n+1 then f r[j] else r[j])=if j<n then f r[j] else r[j]:=by
  by_cases h6:j<n
  ·rw [if_pos h6,if_pos (by omega)]
  rw [if_neg h6,if_neg (by omega)]
 rw [h5];obtain ⟨h1,h2,h3,h4⟩:=h0;refine ⟨?_,?_,?_,?_⟩
 ·rw [Q8 (by omega)];exact h1
 ·rw [Q8 (by omega)];exact h2
 ·rw [Q8 (by omega)];exact h3
 rw [Q8 (by omega)];exact h4
theorem CF {r:List Ins} {n:Nat} (hn:n<r.length) (hf:f r[n]=r[n]):gY f (n+1) r=gY f n r:=Q7 (by simp [gY]) λj h h'=>by
 have hj:j<r.length:=by rwa [bG] at h
 rw [ko _ _ _ _ hj,ko _ _ _ _ hj]
 by_cases e:j=n
 ·subst e;rw [if_pos (by omega),if_neg (by omega),hf]
 by_cases h6:j<n
 ·rw [if_pos h6,if_pos (by omega)]
 rw [if_neg h6,if_neg (by omega)]
end
def jp (p:List<|List Nf) (i k:Int):Option (List (List Nf)×Bool):=gd (decide<|p.length<=1048576/\total p<=1048576)<|some (ofP (mN (toP p) i k).1,(mN (toP p) i k).2)
def jq (p:List<|List Nf) (i k:Int):Option (List (List Nf)×Bool):=gd (decide<|p.length<=1048576/\total p<=1048576)<|some (ofP (mN (toP p) i k).1,(mN (toP p) i k).2)
open Go.RowKit
open Go.RowKit
def DK (p:List<|List Nf):Bool:=decide (p.length<=1048576)&&p.all λr=>decide<|r.length<=1048576
def Gr (p:List<|List Nf) (i:Nat) (x:List Nf):List (List Nf):=p.set i<|p.getD i []++x
def ij (r_:ak) (p:List<|List Nf):Option (ak×List (List Nf)):= gd (DK p) <|bif Nat.beq p.length 0 then some (r_,p) else QU (aP r_ (p.length:Int)) λv1=>QU (aP v1.1 (40:Int)) λv2=>gd (decide<|0<=v1.2/\v1.2<(p.length:Int)) <|bif v2.2==(0:Int) then QU (bH v2.1 ([(0:Int),(6:Int),(1:Int),(4:Int)]:LI)) λa=>QU (bH a.1 ([(0:Int),(3:Int),(-1:Int)]:LI)) λb=>some (b.1,Gr p v1.2.toNat [⟨a.2,b.2,0,0⟩]) else bif v2.2==(1:Int) then QU (bH v2.1 ([(4:Int),(-1:Int),(3:Int)]:LI)) λa=>some (a.1,Gr p v1.2.toNat [⟨2,0,0,a.2⟩]) else bif v2.2==(2:Int) then some (v2.1,p++Rn (4-p.length) []) else bif v2.2==(3:Int) then some (v2.1,Gr p v1.2.toNat<|Rn (8-(p.getD v1.2.toNat []).length) ⟨1,0,0,0⟩) else bif v2.2==(4:Int) then some (v2.1,(p.drop 1).take<|p.length-1) else some (v2.1,p)
def nZ (a:LI) (b:LI):LS Int (Unit ⊕ Bool):=λs5=>bif decide (s5<(a.length:Int)) then gd (decide<|0<=s5/\s5<(a.length:Int)) <|gd (decide<|0<=s5/\s5<(b.length:Int)) <|bif ((a.getD s5.toNat default) != (b.getD s5.toNat default)) then some (.inr<|.inr false) else gd (Nb .i64<|s5+(1:Int)) <|some (.inl<|s5+(1:Int)) else some (.inr<|.inl ())
def lq (a:LI) (b:LI):Option Bool:= bif ((a.length:Int) != (b.length:Int)) then some false else sumK (bA (nZ a b) (0:Int)) λs2=>some true
end
end Go.Proofs.YtjcmfddobaplbaaGreat
