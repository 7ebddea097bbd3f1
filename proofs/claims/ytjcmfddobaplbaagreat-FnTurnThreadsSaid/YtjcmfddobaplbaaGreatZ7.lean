/- Texts joined. No conditions. -/
import Derived.BigRegion
import Derived.Outline
import Derived.Deep.RegionLaw
import Derived.WalkSpells
import Derived.Lib.SliceRun
import Derived.Lib.AppendZeros
import Derived.Deep.Upon
import Derived.Test.YtjcmfddobaplbaaGreatZ6
namespace Go.Proofs.YtjcmfddobaplbaaGreat
noncomputable section
open _root_.List renaming range -> Qq, mem_cons_self -> Qt, mem_flatMap -> Qw, isEmpty_iff -> Qy, mem_cons -> Qz, not_mem_nil -> QA, mem_singleton -> QC, flatMap_cons -> QD, mem_range -> QE, mem_map -> QF, length_range -> QH, all_eq_true -> QI, mem_of_getElem? -> QJ, eq_nil_of_length_eq_zero -> QK, mem_cons_of_mem -> QL, mem_append -> QM, replicate -> QO, isEmpty_eq_false_iff -> QP, getElem_map -> QQ, map_cons -> QR, map_append -> QT, map_congr_left -> QU, getElem_of_mem -> QV, range_succ -> QW, length_singleton -> QX, cons_append -> QY, getElem?_map -> QZ, getElem?_set_ne -> Q3, map_eq_nil_iff -> Q4, mem_or_eq_of_mem_set -> Q5, exists_cons_of_ne_nil -> Q6, eq_nil_iff_forall_not_mem -> Q7, flatMap_append -> Q8
open _root_.Nat renaming le_refl -> Qr, le_trans -> Qu, zero_le -> QB, mul_le_mul_right -> QG, lt_or_ge -> QN, pow_le_pow_right -> Q0
open _root_.Option renaming bind -> Qs, getD_some -> Qx
open _root_.Int renaming le_refl -> Qv, mul_tdiv_add_tmod -> QS, eq_ofNat_of_zero_le -> Q9
open Go.RowKit
set_option maxRecDepth 100000
def ud {κ α:Type} [DecidableEq κ] (f:κ->α) (k:κ) (v:α):κ->α:=λj=>if j=k then v else f j
section
variable {κ α:Type} [DecidableEq κ]
theorem pg (f:κ->α) (k j:κ) (v:α):ud f k v j=if j=k then v else f j:=rfl
theorem dU (f:κ->α) (k:κ) (v:α):ud f k v k=v:=if_pos rfl
theorem jZ {f:κ->α} {k j:κ} {v:α} (h:j≠k):ud f k v j=f j:=if_neg h
theorem zG (f:κ->α) (k:κ) (v w:α):ud (ud f k v) k w=ud f k w:=by
 funext j;unfold ud;split <;> rfl
theorem Kr (f:κ->α) (k:κ):ud f k (f k)=f:=by
 funext j;unfold ud;split
 ·rename_i h;rw [h]
 rfl
theorem EQ (f:κ->α) {k j:κ} (v w:α) (h:k≠j):ud (ud f k v) j w=ud (ud f j w) k v:=by
 funext i;unfold ud;split <;> split <;> first | rfl | (exfalso;rename_i h1 h2;exact h<|h2 ▸ h1)
end
inductive Rch {α:Type} (S:α->α->Prop) (a0:α):α->Prop
 | base:Rch S a0 a0
 | step {a b:α} (h:Rch S a0 a) (s:S a b):Rch S a0 b
theorem Rch.inv {α:Type} {S:α->α->Prop} {a0:α} (I:α->Prop) (h0:I a0) (hs:∀ a b,I a->S a b->I b) {a:α} (h:Rch S a0 a):I a:=by
 induction h with
 | base=>exact h0
 | step _ s ih=>exact hs _ _ ih s
theorem Rch.trans {α:Type} {S:α->α->Prop} {a0 a b:α} (h:Rch S a0 a) (k:Rch S a b):Rch S a0 b:=by
 induction k with
 | base=>exact h
 | step _ s ih=>exact ih.step s
structure Bis {σ α:Type} (M:Mac σ) (s0:σ) (S:α->α->Prop) (a0:α) (D:α->Prop) (O:α->List Int) (I:σ->Prop) (A:σ->α):Prop where
 i0:I s0
 h0:A s0=a0
 fw:∀ s m,I s->Rch S a0 (A s)->m∈M.mv s->I (M.af s m)/\S (A s) (A<|M.af s m)
 bw:∀ s b,I s->Rch S a0 (A s)->S (A s) b->∃ m,m∈M.mv s/\A (M.af s m)=b
 dn:∀ s,I s->Rch S a0 (A s)->(M.dn s=true↔D (A s))
 oc:∀ s,I s->Rch S a0 (A s)->M.dn s=true->M.oc s=O (A s)
section
variable {σ α:Type} {M:Mac σ} {s0:σ} {S:α->α->Prop} {a0:α} {D:α->Prop} {O:α->LI} {I:σ->Prop} {A:σ->α}
theorem Bis.rea (B:Bis M s0 S a0 D O I A) {s:σ} (h:Rea M s0 s):I s/\Rch S a0 (A s):=by
 induction h with
 | base=>exact ⟨B.i0,by rw [B.h0];exact .base⟩
 | step _ hm ih=>
  have := B.fw _ _ ih.1 ih.2 hm;exact ⟨this.1,ih.2.step this.2⟩
theorem Bis.back (B:Bis M s0 S a0 D O I A) {a:α} (h:Rch S a0 a):∃ s,Rea M s0 s/\A s=a:=by
 induction h with
 | base=>exact ⟨s0,.base,B.h0⟩
 | step h k ih=>
  obtain ⟨s,h1,rfl⟩:=ih;have h2:=B.rea h1;obtain ⟨m,h3,h4⟩:=B.bw s _ h2.1 h2.2 k;exact ⟨_,.step h1 h3,h4⟩
def LA (S:α->α->Prop) (a0:α) (D:α->Prop) (O:α->LI) (o:LI):Prop:=∃ a,Rch S a0 a/\D a/\O a=o
theorem Bis.outs (B:Bis M s0 S a0 D O I A) (o:LI):I2 M s0 o↔LA S a0 D O o:=by
 refine ⟨λ⟨s,h1,h2,h3⟩ => ?_,λ⟨a,h1,h2,h3⟩ => ?_⟩
 ·have h4:=B.rea h1;exact ⟨A s,h4.2,(B.dn s h4.1 h4.2).1 h2,by rw [<- B.oc s h4.1 h4.2 h2,h3]⟩
 obtain ⟨s,h4,rfl⟩:=B.back h1;have h5:=B.rea h4;have h6:=(B.dn s h5.1 h5.2).2 h2;exact ⟨s,h4,h6,by rw [B.oc s h5.1 h5.2 h6,h3]⟩
theorem Bis.mok (B:Bis M s0 S a0 D O I A) {N:Nat} (hk:∀ s t,I s->I t->Rch S a0 (A s)->Rch S a0 (A t)->M.ky s=M.ky t->s=t) (ha:∀ s t,I s->I t->A s=A t->s=t) (hc:∀ V:List α,V.Nodup->(∀ v∈V,Rch S a0 v)->V.length<=N):Mok M s0 N where
 key:=λs t hs ht h=>hk s t (B.rea hs).1 (B.rea ht).1 (B.rea hs).2 (B.rea ht).2 h
 cnt:=λV hn hV=>by
  have := hc (V.map A) ?_ λv hv=>?_
  ·simpa using this
  ·rw [List.nodup_iff_pairwise_ne] at hn ⊢;rw [List.pairwise_map];exact hn.imp_of_mem λ{a b} h1 h2 hne e=>hne<|ha a b (B.rea<|hV a h1).1 (B.rea<|hV b h2).1 e
  obtain ⟨s,hs,rfl⟩:=QF.1 hv;exact (B.rea<|hV s hs).2
end
structure TS where
 pc:Nat->Nat
 rg:Nat->Int->Int
 mm:Int->Int
 bf:Nat->Int->List (Int×Int)
def wU (x:MI):Bool:=x.Op==2||x.Op==3
section
variable (P:Nat->List MI) (d:Bool) (cl:Int->Int)
def xL (l:Int) (b:List<|Int×Int) (z:Int):Int:=match b.reverse.find? (λe=>decide<|e.1=l) with
 | some e=>e.2
 | none=>z
def qc (a:TS) (t:Nat) (l:Int):Int:=xL l (a.bf t<|cl l)<|a.mm l
def z7 (a:TS) (t:Nat) (x:MI):Int:=if x.Op=3 then a.rg t x.Reg else x.Val
def exT (a:TS) (t:Nat) (x:MI):TS where
 pc:=ud a.pc t<|a.pc t+1
 rg:=if rdX x then ud a.rg t (ud (a.rg t) x.Reg<|qc cl a t x.Loc) else a.rg
 mm:=if wrX x&&(d||x.Op==5) then ud a.mm x.Loc (z7 a t x) else a.mm
 bf:=if wU x && !d then ud a.bf t (ud (a.bf t) (cl x.Loc)<|a.bf t (cl x.Loc)++[(x.Loc,z7 a t x)]) else a.bf
theorem H6 (a:TS) (t:Nat) (x:MI):(exT d cl a t x).rg=if rdX x then ud a.rg t (ud (a.rg t) x.Reg<|qc cl a t x.Loc) else a.rg:=rfl
theorem H7 (a:TS) (t:Nat) (x:MI):(exT d cl a t x).mm=if wrX x&&(d||x.Op==5) then ud a.mm x.Loc (z7 a t x) else a.mm:=rfl
theorem H8 (a:TS) (t:Nat) (x:MI):(exT d cl a t x).bf=if wU x && !d then ud a.bf t (ud (a.bf t) (cl x.Loc)<|a.bf t (cl x.Loc)++[(x.Loc,z7 a t x)]) else a.bf:=rfl
def flT (a:TS) (t:Nat) (c:Int) (e:Int×Int) (r:List<|Int×Int):TS:={ a with mm:=ud a.mm e.1 e.2,bf:=ud a.bf t (ud (a.bf t) c r) }
def LC (a:TS) (t:Nat) (x:MI):Prop:=(P t)[a.pc t]? = some x/\(x.Op=4\/x.Op=5->∀ c,a.bf t c=[])
inductive StT:TS->TS->Prop
 | ex {a:TS} {t:Nat} {x:MI} (h:LC P a t x):StT a (exT d cl a t x)
 | fl {a:TS} {t:Nat} {c:Int} {e:Int×Int} {r:List (Int×Int)} (h:a.bf t c=e::r):StT a (flT a t c e r)
def a0T:TS:=⟨λ_=>0,λ_ _=>0,λ_=>0,λ_ _=>[]⟩
def DnT (a:TS):Prop:=(∀ t,(P t).length<=a.pc t)/\∀ t c,a.bf t c=[]
def outT (n:Nat) (a:TS):LI:=((Qq n).flatMap λt=>(Qq 3).map λg:Nat=>a.rg t g)++(Qq 3).map λl:Nat=>a.mm l
def J0 (n:Nat):LI->Prop:=LA (StT P d cl) a0T (DnT P)<|outT n
end
section
variable {P:Nat->List MI} {d:Bool} {cl:Int->Int}
theorem TS.ext {a b:TS} (h1:a.pc=b.pc) (h2:a.rg=b.rg) (h3:a.mm=b.mm) (h4:a.bf=b.bf):a=b:=by
 cases a;cases b;simp only at h1 h2 h3 h4;subst h1 h2 h3 h4;rfl
theorem Ks {x:MI} (h:wU x=true):rdX x=false/\wrX x=true/\x.Op≠4/\x.Op≠5:=by
 unfold wU at h;unfold rdX wrX;rcases Bool.or_eq_true _ _ ▸ h with h | h <;> (have:=eq_of_beq h;rw [this];decide)
end
theorem wV {α β:Type} {f:α->List β} {m:Nat}:∀ {l:List α},(∀ x∈l,(f x).length<=m)->(l.flatMap f).length<=l.length*m
 | [],_=>by simp
 | x::l,h=>by
  have h1:=h x Qt;have h2:=wV (l:=l) λy hy=>h y<|QL _ hy;rw [QD,lla,llc,Nat.add_mul,Nat.one_mul];omega
theorem zH {α:Type} {V l:List α} (hn:V.Nodup) (h:∀ v∈V,v∈l):V.length<=l.length:=List.Nodup.length_le_of_subset hn h
abbrev LSt:=(Int->Int)×(Int->List (Int×Int))
def l0:LSt:=(λ_=>0,λ_=>[])
def Mj (s:LSt) (x:MI):Int:=if x.Op=3 then s.1 x.Reg else x.Val
section
variable (cl:Int->Int)
def lsx (x:MI) (s:LSt):List LSt:=
 if rdX x then [(ud s.1 x.Reg 0,s.2),(ud s.1 x.Reg 1,s.2),(ud s.1 x.Reg 2,s.2),(ud s.1 x.Reg 3,s.2)]
 else if wU x then [(s.1,ud s.2 (cl x.Loc)<|s.2 (cl x.Loc)++[(x.Loc,Mj s x)]),(s.1,ud s.2 (cl x.Loc) [])]
 else [s]
def LSn (l:List MI):Nat->List LSt
 | 0=>[l0]
 | k+1=>(LSn l k).flatMap (lsx cl<|l.getD k default)
def MP (l:List MI):Nat:=l.countP λx=>x.Op != 4
variable {cl}
theorem I8 (x:MI) (s:LSt):(lsx cl x s).length<=4 ^ MP [x]:=by
 unfold lsx MP rdX wU
 by_cases h:x.Op=4
 ·simp [h]
 have : (x.Op != 4)=true:=by simpa using h
 rw [List.countP_cons_of_pos (p:=λx:MI=>x.Op != 4) this]
 split
 ·simp
 split <;> simp
theorem ER {l:List MI}:∀ {k:Nat},k<=l.length->(LSn cl l k).length<=4 ^ MP (l.take k)
 | 0,_=>by simp [LSn,MP]
 | k+1,h=>by
  have h1:=ER (l:=l) (k:=k) (by omega);have h2:=wV (f:=lsx cl<|l.getD k default) (l:=LSn cl l k) λs _=>I8 _ s;have h3:MP (l.take<|k+1)=MP (l.take k)+MP [l.getD k default]:=by
   unfold MP;rw [List.take_add_one,List.countP_append,geq (by omega)];simp [List.getD,show k<l.length by omega]
  rw [h3,Nat.pow_add];exact Qu h2<|QG _ h1
theorem uO (l:List MI) (k:Nat):MP (l.take k)<=MP l:=(List.take_sublist k l).countP_le
theorem xM {l:List MI} {c:Int} {e:Int×Int}:∀ {k:Nat} {s:LSt} {r:List (Int×Int)},s∈LSn cl l k->s.2 c=e::r->(s.1,ud s.2 c r)∈LSn cl l k
 | 0,s,r,h,hc=>by
  obtain rfl:=QC.1 h
  cases hc
 | k+1,s,r,h,hc=>by
  obtain ⟨u,hu,hs⟩:=Qw.1 h;refine Qw.2 ?_;unfold lsx at hs ⊢
  split at hs
  ·have h2:s.2=u.2:=by
    simp only [Qz,QA,or_false] at hs;rcases hs with rfl | rfl | rfl | rfl <;> rfl
   rename_i hr;have := xM (s:=u) hu<|h2 ▸ hc;refine ⟨_,this,?_⟩;rw [if_pos hr];simp only [Qz,QA,or_false] at hs ⊢;rcases hs with rfl | rfl | rfl | rfl <;> simp
  rename_i hr
  split at hs
  ·rename_i ht;simp only [Qz,QA,or_false] at hs;rcases hs with rfl | rfl
   ·by_cases g:c=cl (l.getD k default).Loc
    ·subst g;simp only [dU] at hc
     cases hb:u.2 (cl (l.getD k default).Loc) with
     | nil=>
      rw [hb] at hc;injection hc with _ hc;refine ⟨u,hu,?_⟩;rw [if_neg hr,if_pos ht,<- hc,zG];simp
     | cons e0 r0=>
      rw [hb] at hc;injection hc with h1 hc;refine ⟨_,xM hu hb,?_⟩;rw [if_neg hr,if_pos ht];simp only [dU,zG];rw [<- hc];exact Qt
    simp only [jZ g] at hc;refine ⟨_,xM hu hc,?_⟩;rw [if_neg hr,if_pos ht];simp only [];rw [jZ λe=>g e.symm,EQ _ _ _ g];exact Qt
   by_cases g:c=cl (l.getD k default).Loc
   ·subst g;simp only [dU] at hc
    cases hc
   simp only [jZ g] at hc;refine ⟨_,xM hu hc,?_⟩;rw [if_neg hr,if_pos ht];simp only [];rw [show ud (ud u.2 (cl (l.getD k default).Loc) []) c r=ud (ud u.2 c r) (cl (l.getD k default).Loc) [] from EQ _ _ _ λe=>g e.symm];exact QL _ Qt
  rename_i ht;obtain rfl:=QC.1 hs;refine ⟨_,xM hu hc,?_⟩;rw [if_neg hr,if_neg ht];exact Qt
end
def VlL (s:LSt):Prop:=(∀ g,0<=s.1 g/\s.1 g<=3)/\∀ c e,e∈s.2 c->(0<=e.1/\e.1<=2)/\0<=e.2/\e.2<=3
section
variable {P:Nat->List MI} {cl:Int->Int}
structure InT (P:Nat->List MI) (cl:Int->Int) (a:TS):Prop where
 ls:∀ t,(a.rg t,a.bf t)∈LSn cl (P t) (a.pc t)
 vl:∀ t,VlL (a.rg t,a.bf t)
 pc:∀ t,a.pc t<=(P t).length
 mm:∀ l,0<=a.mm l/\a.mm l<=3
 m0:∀ l,¬ (0<=l/\l<=2)->a.mm l=0
theorem ES {l z:Int} {b:List (Int×Int)}:xL l b z=z\/∃ e∈b,xL l b z=e.2:=by
 unfold xL
 cases h:b.reverse.find? λe=>decide (e.1=l) with
 | none=>exact .inl rfl
 | some e=>exact .inr ⟨e,List.mem_reverse.1<|List.mem_of_find?_eq_some h,rfl⟩
theorem InT.start:InT P cl a0T:=⟨λ_=>Qt,λ_=>⟨λ_=>⟨Qv _,by show (0:Int)<=3;decide⟩,λ_ _ h=>by cases h⟩,λ_=>QB _,λ_=>⟨Qv _,by show (0:Int)<=3;decide⟩,λ_ _=>rfl⟩
theorem InT.seen {a:TS} (h:InT P cl a) (t:Nat) (l:Int):0<=qc cl a t l/\qc cl a t l<=3:=by
 unfold qc;rcases ES (l:=l) (z:=a.mm l) (b:=a.bf t<|cl l) with e | ⟨x,hx,e⟩
 ·rw [e];exact h.mm l
 rw [e];exact ((h.vl t).2 _ _ hx).2
theorem InT.val {a:TS} (h:InT P cl a) (t:Nat) {x:MI} (hx:InR x):0<=z7 a t x/\z7 a t x<=3:=by
 unfold z7
 split
 ·exact (h.vl t).1 _
 exact ⟨hx.2.2.2.2.1,hx.2.2.2.2.2⟩
theorem InT.step (hP:∀ (t k:Nat) (x:MI),(P t)[k]? = some x->InR x) {a b:TS} (h:InT P cl a) (s:StT P false cl a b):InT P cl b:=by
 cases s with
 | @ex t x hc=>
  have hx:=hP _ _ _ hc.1;have hs:=h.seen t x.Loc;have hv:=h.val t hx;obtain ⟨hk,he⟩:=ges hc.1;have hg:(P t).getD (a.pc t) default=x:=by simp [List.getD,hc.1]
  refine ⟨λu=>?_,λu=>?_,λu=>?_,λl=>?_,λl hl=>?_⟩
  ·by_cases hu:u=t
   ·subst hu;have hl:=h.ls u;simp only [exT,dU];refine Qw.2 ⟨_,hl,?_⟩;rw [hg];unfold lsx
    cases hr:rdX x with
    | true=>
     have hn:wU x=false:=by
      cases e:wU x with
      | false=>rfl
      | true=>rw [(Ks e).1] at hr;cases hr
     rw [hn];simp only [if_true,Bool.false_and,Bool.false_eq_true,if_false,dU,Qz,QA,or_false];have : qc cl a u x.Loc=0\/qc cl a u x.Loc=1\/qc cl a u x.Loc=2\/qc cl a u x.Loc=3:=by omega
     rcases this with e | e | e | e <;> rw [e] <;> simp
    | false=>
     simp only [Bool.false_eq_true,if_false]
     cases ht:wU x with
     | false=>simp
     | true=>
      simp only [if_true,Bool.true_and,Bool.not_false,dU];exact Qt
   simp only [exT,jZ hu];have hl:=h.ls u;have e1:(if rdX x=true then ud a.rg t (ud (a.rg t) x.Reg<|qc cl a t x.Loc) else a.rg) u=a.rg u:=by split <;> simp [jZ hu]
   have e2:(if (wU x && !false)=true then ud a.bf t (ud (a.bf t) (cl x.Loc)<|a.bf t (cl x.Loc)++[(x.Loc,z7 a t x)]) else a.bf) u=a.bf u:=by split <;> simp [jZ hu]
   rw [e1,e2];exact hl
  ·have hl:=h.vl u
   by_cases hu:u=t
   ·subst hu;refine ⟨λg=>?_,λc e he=>?_⟩
    ·simp only [exT]
     split
     ·rw [dU];unfold ud
      split
      ·exact hs
      exact hl.1 g
     exact hl.1 g
    simp only [exT] at he
    split at he
    ·rw [dU] at he;unfold ud at he
     split at he
     ·rcases QM.1 he with he | he
      ·exact hl.2 _ _ he
      rw [QC.1 he];exact ⟨⟨hx.1,hx.2.1⟩,hv⟩
     exact hl.2 _ _ he
    exact hl.2 _ _ he
   have e1:(exT false cl a t x).rg u=a.rg u:=by simp only [exT];split <;> simp [jZ hu]
   have e2:(exT false cl a t x).bf u=a.bf u:=by simp only [exT];split <;> simp [jZ hu]
   rw [e1,e2];exact hl
  ·simp only [exT,ud]
   split
   ·rename_i e;subst e;omega
   exact h.pc u
  ·simp only [exT]
   split
   ·unfold ud
    split
    ·exact hv
    exact h.mm l
   exact h.mm l
  simp only [exT]
  split
  ·rw [jZ λe=>hl (by rw [e];exact ⟨hx.1,hx.2.1⟩)];exact h.m0 l hl
  exact h.m0 l hl
 | @fl t c e r hb=>
  have he:=(h.vl t).2 c e (by show e∈a.bf t c;rw [hb];exact Qt);refine ⟨λu=>?_,λu=>?_,h.pc,λl=>?_,λl hl=>?_⟩
  ·by_cases hu:u=t
   ·subst hu;simp only [flT,dU];exact xM (h.ls u) hb
   simp only [flT,jZ hu];exact h.ls u
  ·have hl:=h.vl u
   by_cases hu:u=t
   ·subst hu;refine ⟨hl.1,λc' e' he' => ?_⟩;simp only [flT,dU] at he';unfold ud at he'
    split at he'
    ·exact hl.2 c e' (by show e'∈a.bf u c;rw [hb];exact QL _ he')
    exact hl.2 _ _ he'
   simp only [flT,jZ hu];exact hl
  ·simp only [flT,ud]
   split
   ·exact he.2
   exact h.mm l
  simp only [flT];rw [jZ λe=>hl (by rw [e];exact he.1)];exact h.m0 l hl
theorem InT.of (hP:∀ (t k:Nat) (x:MI),(P t)[k]? = some x->InR x) {a:TS} (h:Rch (StT P false cl) a0T a):InT P cl a:=
 h.inv _ .start λ_ _ h s=>h.step hP s
def Lt (P:Nat->List MI) (cl:Int->Int) (t:Nat):List (Nat×LSt):=(Qq<|(P t).length+1).flatMap λk=>(LSn cl (P t) k).map λs=>(k,s)
theorem ET (h7:∀ t,(P t).length<=7) (t:Nat):(Lt P cl t).length<=8*4 ^ MP (P t):=by
 have := wV (f:=λk=>(LSn cl (P t) k).map λs=>(k,s)) (l:=Qq<|(P t).length+1) (m:=4 ^ MP (P t)) λk hk=>by
  have hk:=QE.1 hk;rw [llm];exact Qu (ER<|by omega)<|Q0 (by decide)<|uO _ _
 rw [QH] at this;exact Qu this<|QG _ (by have := h7 t;omega)
def m3:List (Int×Int×Int):=[0,1,2,3].flatMap λa=>[0,1,2,3].flatMap λb=>[0,1,2,3].map λc=>(a,b,c)
theorem Kt {a b c:Int} (ha:0<=a/\a<=3) (hb:0<=b/\b<=3) (hc:0<=c/\c<=3):(a,b,c)∈m3:=by
 have h:∀ x:Int,0<=x/\x<=3->x∈([0,1,2,3]:LI):=λx hx=>by
  have : x=0\/x=1\/x=2\/x=3:=by omega
  rcases this with rfl | rfl | rfl | rfl <;> decide
 exact Qw.2 ⟨a,h a ha,Qw.2 ⟨b,h b hb,QF.2 ⟨c,h c hc,rfl⟩⟩⟩
def Ku {α:Type} (a b c z:α) (t:Nat):α:=if t=0 then a else if t=1 then b else if t=2 then c else z
def mkT (a b c:Nat×LSt) (m:Int×Int×Int):TS where
 pc t:=(Ku a b c (0,l0) t).1
 rg t:=(Ku a b c (0,l0) t).2.1
 mm l:=if l=0 then m.1 else if l=1 then m.2.1 else if l=2 then m.2.2 else 0
 bf t:=(Ku a b c (0,l0) t).2.2
theorem Mk (hP:∀ (t k:Nat) (x:MI),(P t)[k]? = some x->InR x) (h3:∀ t,3<=t->P t=[]) (h7:∀ t,(P t).length<=7) (he:MP (P 0)+MP (P 1)+MP (P 2)<=12) (V:List TS) (hn:V.Nodup) (hV:∀ v∈V,Rch (StT P false cl) a0T v):V.length<=549755813888:=by
 have hs:=zH hn (l:=(Lt P cl 0).flatMap λa=>(Lt P cl 1).flatMap λb=>(Lt P cl 2).flatMap λc=>m3.map<|mkT a b c) λv hv=>?_
 ·have l2:=ET (cl:=cl) h7 2;have l1:=ET (cl:=cl) h7 1;have l0:=ET (cl:=cl) h7 0;have k2:∀ a b,((Lt P cl 2).flatMap λc=>m3.map<|mkT a b c).length<=8*4 ^ MP (P 2)*64:=λa b=>Qu (wV (m:=64) λ_ _=>by rw [llm];decide) (QG _ l2);have k1:∀ a,((Lt P cl 1).flatMap λb=>(Lt P cl 2).flatMap λc=>m3.map<|mkT a b c).length<=8*4 ^ MP (P 1)*(8*4 ^ MP (P 2)*64):=λa=>Qu (wV λb _=>k2 a b)<|QG _ l1;have k0:=Qu (wV (l:=Lt P cl 0) λa _=>k1 a)<|QG _ l0;have e:8*4 ^ MP (P 0)*(8*4 ^ MP (P 1)*(8*4 ^ MP (P 2)*64))=32768*4 ^ (MP (P 0)+MP (P 1)+MP (P 2)):=by
   rw [Nat.pow_add,Nat.pow_add];generalize 4 ^ MP (P 0)=x;generalize 4 ^ MP (P 1)=y;generalize 4 ^ MP (P 2)=z;have : 8*x*(8*y*(8*z*64))=32768*(x*y*z):=by
    simp only [Nat.mul_assoc,Nat.mul_left_comm,Nat.mul_comm]
   exact this
  rw [e] at k0;have h4:4 ^ (MP (P 0)+MP (P 1)+MP (P 2))<=4 ^ 12:=Q0 (by decide) he;have h5:(4:Nat) ^ 12=16777216:=by decide
  omega
 have hi:=InT.of hP<|hV v hv;have hm:∀ t,(v.pc t,v.rg t,v.bf t)∈Lt P cl t:=λt=>Qw.2 ⟨v.pc t,QE.2 (by have := hi.pc t;omega),QF.2 ⟨_,hi.ls t,rfl⟩⟩;refine Qw.2 ⟨_,hm 0,Qw.2 ⟨_,hm 1,Qw.2 ⟨_,hm 2,QF.2 ⟨(v.mm 0,v.mm 1,v.mm 2),Kt (hi.mm 0) (hi.mm 1)<|hi.mm 2,?_⟩⟩⟩⟩;have hsel:∀ t,Ku (v.pc 0,v.rg 0,v.bf 0) (v.pc 1,v.rg 1,v.bf 1) (v.pc 2,v.rg 2,v.bf 2) (0,l0) t=(v.pc t,v.rg t,v.bf t):=λt=>by
  unfold Ku
  split
  ·rename_i h;rw [h]
  split
  ·rename_i h;rw [h]
  split
  ·rename_i h;rw [h]
  have h0:=h3 t (by omega);have h1:=hi.pc t;have h2:=hi.ls t;rw [h0] at h1 h2;have h1:v.pc t=0:=by simpa using h1
  rw [h1] at h2 ⊢;rw [QC.1 h2]
 unfold mkT;refine TS.ext ?_ ?_ ?_ ?_
 ·funext t;simp only [hsel]
 ·funext t;simp only [hsel]
 ·funext l
  simp only []
  split
  ·rename_i h;rw [h]
  split
  ·rename_i h;rw [h]
  split
  ·rename_i h;rw [h]
  exact (hi.m0 l<|by omega).symm
 funext t;simp only [hsel]
end
def prg (p:List<|List MI):Nat->List MI:=λt=>p.getD t default
def clB (sp:Bool):Int->Int:=λl=>bif sp then l else 0
def yS (sp:Bool) (c:Int):Prop:=(sp=true/\0<=c/\c<=2)\/(sp=false/\c=0)
instance (sp:Bool) (c:Int):Decidable (yS sp c):=by unfold yS;infer_instance
def ixB (sp:Bool) (t:Nat) (c:Int):Nat:=bif sp then 3*t+c.toNat else t
def z8 (b:Int):Int×Int:=(b.tdiv 16,b.tmod 16)
def pcF (a:Z3b):Nat->Nat:=λt=>if t<3 then (Z3b.get a t).toNat else 0
def rgF (a:Z33):Nat->Int->Int:=λt g=>if t<3/\0<=g/\g<=2 then Z3b.get (Z33.get a t) g else 0
def mmF (a:Z3b):Int->Int:=λl=>if 0<=l/\l<=2 then Z3b.get a l else 0
def bfF (n:Nat) (sp:Bool) (w:LL):Nat->Int->List (Int×Int):=λt c=>if t<n/\yS sp c then (w.getD (ixB sp t c) default).map z8 else []
def AB (s:aj):TS:=⟨pcF s.values.pc,rgF s.values.reg,mmF s.values.mem,bfF s.values.p.length s.split s.waits⟩
def AS (s:MK):TS:=⟨pcF s.values.pc,rgF s.values.reg,mmF s.values.mem,λ_ _=>[]⟩
theorem AR (a:Z3b) {t:Nat} (ht:t<3) (v:Int):pcF (Z3b.set a t v)=ud (pcF a) t v.toNat:=by
 funext i
 simp only [pcF,pg]
 by_cases h:i<3
 ·rw [if_pos h,if_pos h,lg _ _ _ _ (by omega) (by omega)]
  by_cases e:i=t
  ·rw [if_pos (by omega),if_pos e]
  rw [if_neg (by omega),if_neg e]
 rw [if_neg h,if_neg h,if_neg (by omega)]
theorem zI (a:Z33) (t:Nat) (g:Int):rgF a t g=if t<3/\0<=g/\g<=2 then Z3b.get (Z33.get a t) g else 0:=rfl
theorem Kv (n:Nat) (sp:Bool) (w:LL) (t:Nat) (c:Int):bfF n sp w t c=if t<n/\yS sp c then (w.getD (ixB sp t c) default).map z8 else []:=rfl
theorem AU (a:Z33) {t:Nat} (ht:t<3) {g:Int} (hg:0<=g/\g<=2) (v:Int):rgF (Z33.set a t<|Z3b.set (Z33.get a t) g v)=ud (rgF a) t (ud (rgF a t) g v):=by
 funext i j
 rw [zI];simp only [pg]
 by_cases e:i=t
 ·subst e;rw [if_pos rfl];simp only [pg,rgF]
  by_cases h:0<=j/\j<=2
  ·rw [if_pos ⟨ht,h⟩,rO _ _ _ _ (by omega) (by omega),if_pos rfl,lg _ _ _ _ hg h]
   by_cases k:j=g
   ·rw [if_pos k,if_pos k]
   rw [if_neg k,if_neg k,if_pos ⟨ht,h⟩]
  rw [if_neg λk=>h k.2,if_neg λk=>h (by rw [k];exact hg),if_neg λk=>h k.2]
 rw [if_neg e];simp only [rgF]
 by_cases h:i<3/\0<=j/\j<=2
 ·rw [if_pos h,if_pos h,rO _ _ _ _ (by omega) (by omega),if_neg (by omega)]
 rw [if_neg h,if_neg h]
theorem AX (a:Z3b) {l:Int} (hl:0<=l/\l<=2) (v:Int):mmF (Z3b.set a l v)=ud (mmF a) l v:=by
 funext i
 simp only [mmF,pg]
 by_cases h:0<=i/\i<=2
 ·rw [if_pos h,if_pos h,lg _ _ _ _ hl h]
 rw [if_neg h,if_neg h,if_neg λe=>h (by rw [e];exact hl)]
theorem EU {sp:Bool} {t t':Nat} {c c':Int} (h:yS sp c) (h':yS sp c') (e:ixB sp t c=ixB sp t' c'):t=t'/\c=c':=by
 unfold ixB at e;rcases h with ⟨rfl,h⟩ | ⟨rfl,rfl⟩
 ·rcases h' with ⟨_,h'⟩ | ⟨h',_⟩
  ·simp only [cond_true] at e;omega
  cases h'
 rcases h' with ⟨h',_⟩ | ⟨_,rfl⟩
 ·cases h'
 exact ⟨e,rfl⟩
theorem EW {sp:Bool} {t n:Nat} {c:Int} (h:yS sp c) (ht:t<n):ixB sp t c<bif sp then 3*n else n:=by
 unfold ixB;rcases h with ⟨rfl,h⟩ | ⟨rfl,rfl⟩
 ·simp only [cond_true];omega
 exact ht
theorem zJ {sp:Bool} {n b:Nat} (hb:b<bif sp then 3*n else n):∃ t c,t<n/\yS sp c/\ixB sp t c=b:=by
 cases sp with
 | true=>
  simp only [cond_true] at hb;exact ⟨b / 3,((b % 3:Nat):Int),by omega,.inl ⟨rfl,by omega,by omega⟩,by simp only [ixB,cond_true];omega⟩
 | false=>exact ⟨b,0,hb,.inr ⟨rfl,rfl⟩,rfl⟩
theorem EY (sp:Bool) {l:Int} (hl:0<=l/\l<=2):yS sp (clB sp l):=by
 cases sp with
 | true=>exact .inl ⟨rfl,hl⟩
 | false=>exact .inr ⟨rfl,rfl⟩
theorem uP (sp:Bool) (t:Nat) {l:Int} (hl:0<=l/\l<=2):(gB sp t l).toNat=ixB sp t (clB sp l)/\0<=gB sp t l:=by
 unfold gB ixB clB
 cases sp with
 | true=>simp only [cond_true];omega
 | false=>simp only [cond_false];omega
theorem EZ {n:Nat} {sp:Bool} {w:LL} {t:Nat} {c:Int} (ht:t<n) (hc:yS sp c) (hw:w.length=bif sp then 3*n else n) (v:LI):bfF n sp (w.set (ixB sp t c) v)=ud (bfF n sp w) t (ud (bfF n sp w t) c<|v.map z8):=by
 have hlt:=EW hc ht;rw [<- hw] at hlt
 funext i j
 rw [Kv];simp only [pg]
 by_cases e:i=t
 ·subst e;rw [if_pos rfl];simp only [pg,bfF]
  by_cases g:j=c
  ·subst g;rw [if_pos ⟨ht,hc⟩,if_pos rfl];simp [List.getD,hlt]
  rw [if_neg g]
  by_cases h:yS sp j
  ·rw [if_pos ⟨ht,h⟩,if_pos ⟨ht,h⟩];have : ixB sp i c≠ixB sp i j:=λk=>g (EU hc h k).2.symm;simp [List.getD,Q3 this]
  rw [if_neg λk=>h k.2,if_neg λk=>h k.2]
 rw [if_neg e];simp only [bfF]
 by_cases h:i<n/\yS sp j
 ·rw [if_pos h,if_pos h];have : ixB sp t c≠ixB sp i j:=λk=>e (EU hc h.2 k).1.symm;simp [List.getD,Q3 this]
 rw [if_neg h,if_neg h]
theorem C0 (w:LI) (l z:Int):sO w l z=xL l (w.map z8) z:=by
 unfold sO xL;rw [<- List.map_reverse];generalize w.reverse=r
 induction r with
 | nil=>rfl
 | cons b r ih=>
  simp only [QR,List.find?_cons]
  by_cases h:b.tdiv 16=l
  ·have : (b.tdiv 16==l)=true:=by simpa using h
   rw [this];simp [z8,h]
  have : (b.tdiv 16==l)=false:=by simpa using h
  rw [this];simp only [z8,h,decide_false];exact ih
theorem Gs {a b:Int} (h:z8 a=z8 b):a=b:=by
 unfold z8 at h;injection h with h1 h2;have ha:=QS a 16;have hb:=QS b 16;omega
theorem uh:∀ {v w:LI},v.map z8=w.map z8->v=w
 | [],[],_=>rfl
 | [],_::_,h=>by cases h
 | _::_,[],h=>by cases h
 | a::v,b::w,h=>by
  injection h with h1 h2;rw [Gs h1,uh h2]
structure PW (p:List (List MI)):Prop where
 pv:PV p
 ev:MP (prg p 0)+MP (prg p 1)+MP (prg p 2)<=12
 op:∀ (t k:Nat) (x:MI),(prg p t)[k]? = some x->1<=x.Op/\x.Op<=5
section
variable {p:List (List MI)}
theorem zK {t k:Nat} {x:MI} (h:(prg p t)[k]? = some x):t<p.length:=by
 rcases QN t p.length with g | g
 ·exact g
 unfold prg at h;rw [gdq,gen g] at h
 cases h
theorem PV.prg (hp:PV p) (t k:Nat) (x:MI) (h:(prg p t)[k]? = some x):InR x:=by
 have ht:=zK h;obtain ⟨hk,e⟩:=ges h;have := hp.ins t k ht hk;have e2:(p.getD t default).getD k default=x:=by
  rw [gdq];unfold Go.Proofs.YtjcmfddobaplbaaGreat.prg at h;rw [h];rfl
 rw [e2] at this;exact this
theorem PV.prg0 (hp:PV p) (t:Nat) (h:3<=t):Go.Proofs.YtjcmfddobaplbaaGreat.prg p t=[]:=by
 have := hp.vs.1;unfold Go.Proofs.YtjcmfddobaplbaaGreat.prg;rw [gdq,gen (by omega)]
 rfl
theorem PW.cnl (hp:PW p) {cl:Int->Int} (V:List TS) (hn:V.Nodup) (hV:∀ v∈V,Rch (StT (prg p) false cl) a0T v):V.length<=549755813888:=
 Mk hp.pv.prg hp.pv.prg0 hp.pv.vs.2 hp.ev V hn hV
structure IB (p:List (List MI)) (sp:Bool) (s:aj):Prop where
 up:s.values.p=p
 sq:s.split=sp
 wl:s.waits.length=bif sp then 3*p.length else p.length
 by_:∀ w∈s.waits,∀ b∈w,0<=b/\b<=255
 pc:∀ t:Nat,t<3->0<=Z3b.get s.values.pc t
variable {sp:Bool} {s:aj}
theorem IB.iv (h:IB p sp s) {cl:Int->Int} (hi:InT (prg p) cl<|AB s):Iv p s.values where
 up:=h.up
 pc:=λt ht=>by
  have h1:=hi.pc t;have h2:=h.pc t ht;simp only [AB,pcF,if_pos ht] at h1;unfold prg at h1;omega
 rv:=λt g ht hg=>by
  have := (hi.vl t).1 g;simp only [AB,rgF] at this
  rwa [if_pos ⟨ht,by omega,by omega⟩] at this
 mv:=λl hl=>by
  have := hi.mm l;simp only [AB,mmF] at this
  rwa [if_pos ⟨by omega,by omega⟩] at this
theorem IB.bf (h:IB p sp s) {t:Nat} {c:Int} (ht:t<p.length) (hc:yS sp c):(AB s).bf t c=(s.waits.getD (ixB sp t c) default).map z8:=by
 simp only [AB,bfF,h.up,h.sq];rw [if_pos ⟨ht,hc⟩]
theorem IB.bf0 (h:IB p sp s) {t:Nat} {c:Int} (hc : ¬ (t<p.length/\yS sp c)):(AB s).bf t c=[]:=by
 simp only [AB,bfF,h.up,h.sq];rw [if_neg hc]
theorem kg {u:MJ} (hu:u.p=p) {t:Nat} (ht:t<3) (h0:0<=Z3b.get u.pc t):(qb u t=true->(prg p t)[pcF u.pc t]? = some (jp u t))/\(∀ x,(prg p t)[pcF u.pc t]? = some x->qb u t=true/\x=jp u t):=by
 have hpc:pcF u.pc t=(Z3b.get u.pc t).toNat:=if_pos ht;rw [hpc];unfold qb jp prg;rw [hu,tnn];refine ⟨λh=>?_,λx h=>?_⟩
 ·have h:=of_decide_eq_true h;have : (Z3b.get u.pc t).toNat<(p.getD t default).length:=by omega
  rw [gdq (l:=p.getD t default),geq this]
  rfl
 obtain ⟨h1,h2⟩:=ges h;refine ⟨decide_eq_true (by omega),?_⟩;rw [gdq (l:=p.getD t default),h]
 rfl
def ui (s:aj) (t:Nat):Bool:=([0,1,2]:LI).all λl=>(s.waits.getD (gB s.split t l).toNat default).isEmpty
theorem IB.empty (h:IB p sp s) {t:Nat} (ht:t<p.length):ui s t=true↔∀ c,(AB s).bf t c=[]:=by
 unfold ui;rw [QI,h.sq];refine ⟨λg c=>?_,λg l hl=>?_⟩
 ·by_cases hc:yS sp c
  ·rw [h.bf ht hc];have : ∃ l:Int,l∈([0,1,2]:LI)/\(0<=l/\l<=2)/\clB sp l=c:=by
    rcases hc with ⟨rfl,h1⟩ | ⟨rfl,rfl⟩
    ·have : c=0\/c=1\/c=2:=by omega
     exact ⟨c,by rcases this with rfl | rfl | rfl <;> decide,h1,rfl⟩
    exact ⟨0,by decide,by decide,rfl⟩
   obtain ⟨l,h1,h2,h3⟩:=this;have := g l h1;rw [(uP sp t h2).1,h3] at this;rw [Qy.1 this];rfl
  exact h.bf0 λk=>hc k.2
 have hl':0<=l/\l<=2:=by
  simp only [Qz,QA,or_false] at hl;omega
 have := g<|clB sp l;rw [h.bf ht (EY sp hl')] at this;rw [(uP sp t hl').1,Qy];exact Q4.1 this
def cnB (s:aj) (t:Nat):Bool:=qb s.values t&&(((jp s.values t).Op != 4&&(jp s.values t).Op != 5)||ui s t)
theorem IB.can (hp:PV p) (h:IB p sp s) {t:Nat} (ht:t<p.length):cnB s t=true↔LC (prg p) (AB s) t (jp s.values t):=by
 have hl:=hp.vs.1;obtain ⟨h1,h2⟩:=kg h.up (by omega:t<3)<|h.pc t (by omega);unfold cnB LC;rw [bae,Bool.or_eq_true,bae,h.empty ht];refine ⟨λ⟨g1,g2⟩=>⟨h1 g1,λg3=>g2.elim (λg2=>?_) id⟩,λ⟨g1,g2⟩=>⟨(h2 _ g1).1,?_⟩⟩
 ·simp only [bne_iff_ne] at g2;exact absurd g3 (by omega)
 by_cases g3:(jp s.values t).Op=4\/(jp s.values t).Op=5
 ·exact .inr<|g2 g3
 refine .inl ⟨?_,?_⟩ <;> simp only [bne_iff_ne] <;> omega
def exB (s:aj) (t:Int) (x:MI):aj:=
 ⟨⟨s.values.p,Z3b.set s.values.pc t (Z3b.get s.values.pc t+1),
  if rdX x=true then Z33.set s.values.reg t (Z3b.set (Z33.get s.values.reg t) x.Reg<|sO (s.waits.getD (gB s.split t x.Loc).toNat default) x.Loc<|Z3b.get s.values.mem x.Loc) else s.values.reg,
  if x.Op=5 then Z3b.set s.values.mem x.Loc x.Val else s.values.mem⟩,s.split,
  if wU x=true then s.waits.set (gB s.split t x.Loc).toNat (s.waits.getD (gB s.split t x.Loc).toNat default++[x.Loc*16+su s.values t x]) else s.waits⟩
def flB (s:aj) (b:Nat):aj:=
 ⟨⟨s.values.p,s.values.pc,s.values.reg,Z3b.set s.values.mem (((s.waits.getD b default).getD 0 default).tdiv 16)<|((s.waits.getD b default).getD 0 default).tmod 16⟩,s.split,s.waits.set b<|(s.waits.getD b default).drop 1⟩
theorem I9 {l v:Int} (hl:0<=l/\l<=2) (hv:0<=v/\v<=3):z8 (l*16+v)=(l,v):=by
 unfold z8;have h1:=QS (l*16+v) 16;have h2:0<=(l*16+v).tmod 16:=Int.tmod_nonneg _ (by omega);have h3:(l*16+v).tmod 16<16:=Int.tmod_lt_of_pos _ (by decide);refine Prod.ext ?_ ?_ <;> simp only [] <;> omega
theorem IB.val (h:IB p sp s) (iv:Iv p s.values) {t:Nat} (ht:t<3) {x:MI} (hx:InR x):su s.values t x=z7 (AB s) t x/\0<=su s.values t x/\su s.values t x<=3:=by
 obtain ⟨x1,x2,x3,x4,x5,x6⟩:=hx;unfold su z7
 split
 ·simp only [AB,rgF];rw [if_pos ⟨ht,x3,x4⟩];have := iv.rv t x.Reg.toNat ht (by omega);rw [Int.toNat_of_nonneg x3] at this;exact ⟨rfl,this⟩
 exact ⟨rfl,x5,x6⟩
theorem IB.exA (hp:PV p) (h:IB p sp s) (iv:Iv p s.values) {t:Nat} (ht:t<p.length) {x:MI} (hx:InR x):AB (exB s t x)=exT false (clB sp) (AB s) t x:=by
 have hl:=hp.vs.1;have ht3:t<3:=by omega
 have hloc:0<=x.Loc/\x.Loc<=2:=⟨hx.1,hx.2.1⟩;have hreg:0<=x.Reg/\x.Reg<=2:=⟨hx.2.2.1,hx.2.2.2.1⟩;have hv:=h.val iv ht3 hx;have hix:=uP sp t hloc;have hc:=EY sp hloc;have hbf:=h.bf ht hc;refine TS.ext ?_ ?_ ?_ ?_
 ·have := iv.pc t ht3;simp only [AB,exB,exT];rw [AR _ ht3]
  congr 1
  simp only [pcF,if_pos ht3];omega
 ·have hse:sO (s.waits.getD (gB s.split t x.Loc).toNat default) x.Loc (Z3b.get s.values.mem x.Loc)=qc (clB sp) (AB s) t x.Loc:=by
   have hm:(AB s).mm x.Loc=Z3b.get s.values.mem x.Loc:=if_pos hloc;unfold qc;rw [C0,h.sq,hix.1,<- hbf,hm]
  rw [H6,<- hse];simp only [AB,exB]
  split
  ·rw [AU _ ht3 hreg]
  rfl
 ·rw [H7];simp only [AB,exB]
  by_cases h5:x.Op=5
  ·have : (wrX x&&(false||x.Op==5))=true:=by unfold wrX;rw [h5];rfl
   rw [if_pos h5,if_pos this,AX _ hloc]
   congr 1
   unfold z7;rw [if_neg (by omega)]
  have : (wrX x&&(false||x.Op==5))=false:=by simp [h5]
  rw [if_neg h5,if_neg (by rw [this];decide)]
 rw [H8];simp only [AB,exB]
 by_cases hs:wU x=true
 ·rw [if_pos hs,if_pos (by rw [hs];rfl),h.sq,h.up,hix.1,EZ ht hc h.wl,QT,List.map_singleton,I9 hloc hv.2,hv.1];simp only [AB,h.sq,h.up] at hbf;rw [<- hbf]
  rfl
 rw [if_neg hs,if_neg (by simpa using hs)]
theorem IB.flA (hp:PV p) (h:IB p sp s) {t:Nat} {c:Int} (ht:t<p.length) (hc:yS sp c) {e:Int×Int} {r:List (Int×Int)} (hb:(AB s).bf t c=e::r) (he:0<=e.1/\e.1<=2):AB (flB s<|ixB sp t c)=flT (AB s) t c e r:=by
 rw [h.bf ht hc] at hb;obtain ⟨b,w,hw,rfl,rfl⟩:=List.map_eq_cons_iff.1 hb;refine TS.ext rfl rfl ?_ ?_
 ·simp only [AB,flB,flT];rw [hw];exact AX _ he _
 simp only [AB,flB,flT];rw [h.sq,h.up,EZ ht hc h.wl,hw]
 rfl
theorem IB.ex (hp:PV p) (h:IB p sp s) (iv:Iv p s.values) {t:Nat} (ht:t<p.length) {x:MI} (hx:InR x):IB p sp (exB s t x):=by
 have hl:=hp.vs.1;have hv:=h.val iv (by omega:t<3) hx;refine ⟨h.up,h.sq,?_,λw hw b hb=>?_,λi hi=>?_⟩
 ·simp only [exB]
  split
  ·rw [List.length_set];exact h.wl
  exact h.wl
 ·simp only [exB] at hw
  split at hw
  ·rcases Q5 hw with hw | rfl
   ·exact h.by_ w hw b hb
   rcases QM.1 hb with hb | hb
   ·have : s.waits.getD (gB s.split t x.Loc).toNat default∈s.waits\/s.waits.getD (gB s.split t x.Loc).toNat default=[]:=by
     rw [gdq]
     cases e:s.waits[(gB s.split t x.Loc).toNat]? with
     | none=>exact .inr rfl
     | some w=>exact .inl (QJ e)
    rcases this with g | g
    ·exact h.by_ _ g b hb
    rw [g] at hb;cases hb
   rw [QC.1 hb];obtain ⟨x1,x2,_⟩:=hx;omega
  exact h.by_ w hw b hb
 simp only [exB];rw [lg _ _ _ _ (by omega) (by omega)];have h1:=h.pc t (by omega);have h2:=h.pc i hi
 split <;> omega
theorem IB.fl (h:IB p sp s) (b:Nat):IB p sp (flB s b):=by
 refine ⟨h.up,h.sq,?_,λw hw b' hb=>?_,h.pc⟩
 ·simp only [flB];rw [List.length_set];exact h.wl
 simp only [flB] at hw;rcases Q5 hw with hw | rfl
 ·exact h.by_ w hw b' hb
 have hb:=List.mem_of_mem_drop hb;have : s.waits.getD b default∈s.waits\/s.waits.getD b default=[]:=by
  rw [gdq]
  cases e:s.waits[b]? with
  | none=>exact .inr rfl
  | some w=>exact .inl (QJ e)
 rcases this with g | g
 ·exact h.by_ _ g b' hb
 rw [g] at hb;cases hb
def Kw (s:aj):LI:=keyL s.values++s.waits.flatMap λw=>(w.length:Int)::w
def tE:Mac aj where
 mv s:=((Qq s.values.p.length).filter<|cnB s).map Int.ofNat++((Qq s.waits.length).filter λb => !(s.waits.getD b default).isEmpty).map λb:Nat=>(s.values.p.length:Int)+(b:Int)
 af s m:=if (s.values.p.length:Int)<=m then flB s (m-(s.values.p.length:Int)).toNat else exB s m (jp s.values m)
 ky s:=strOfNums<|Kw s
 dn s:=(tz s.values).isEmpty&&s.waits.all (·.isEmpty)
 oc s:=wT s.values
theorem yw {m:Int}:m∈tE.mv s↔(∃ t:Nat,t<s.values.p.length/\m=t/\cnB s t=true)\/∃ b:Nat,b<s.waits.length/\m=(s.values.p.length:Int)+(b:Int)/\s.waits.getD b default≠[]:=by
 simp only [tE,QM,QF,List.mem_filter,QE];refine or_congr ⟨λ⟨t,⟨h1,h2⟩,h3⟩=>⟨t,h1,h3.symm,h2⟩,λ⟨t,h1,h2,h3⟩=>⟨t,⟨h1,h3⟩,h2.symm⟩⟩ ⟨λ⟨t,⟨h1,h2⟩,h3⟩=>⟨t,h1,h3.symm,by simpa using h2⟩,λ⟨t,h1,h2,h3⟩=>⟨t,⟨h1,by simpa using h3⟩,h2.symm⟩⟩
def mR (p:List<|List MI) (sp:Bool):aj:=⟨v0 p,sp,QO (bif sp then 3*p.length else p.length) []⟩
theorem IB.start (p:List<|List MI) (sp:Bool):IB p sp (mR p sp):=by
 refine ⟨rfl,rfl,?_,λw hw b hb=>?_,λt _=>?_⟩
 ·simp [mR]
 ·rw [List.eq_of_mem_replicate hw] at hb;cases hb
 simp only [mR,v0,z3];exact Qv _
theorem yx (p:List<|List MI):pcF (v0 p).pc=a0T.pc/\rgF (v0 p).reg=a0T.rg/\mmF (v0 p).mem=a0T.mm:=by
 refine ⟨?_,?_,?_⟩
 ·funext t;simp only [pcF,v0,z3,a0T];split <;> rfl
 ·funext t g;simp only [rgF,v0,z33,z3,a0T];split <;> rfl
 funext t;simp only [mmF,v0,z3,a0T];split <;> rfl
theorem Gt (p:List<|List MI) (sp:Bool):AB (mR p sp)=a0T:=by
 obtain ⟨h1,h2,h3⟩:=yx p;refine TS.ext h1 h2 h3 ?_
 funext t c
 simp only [AB,bfF,mR,a0T]
 split
 ·rw [gdq,List.getElem?_replicate]
  split <;> rfl
 rfl
theorem Ja {α β:Type} {f g:α->List β}:∀ {l:List α},(∀ x∈l,f x=g x)->l.flatMap f=l.flatMap g
 | [],_=>rfl
 | x::l,h=>by rw [QD,QD,h x Qt,Ja λy hy=>h y (QL _ hy)]
theorem H9 {u:MJ} {a:TS} (h1:a.rg=rgF u.reg) (h2:a.mm=mmF u.mem) (hl:u.p.length<=3):outT u.p.length a=wT u:=by
 unfold outT wT tC JZ;rw [h1,h2]
 congr 1
 refine Ja λt ht=>QU λg hg=>?_;have ht:=QE.1 ht;have hg:=QE.1 hg;simp only [rgF];rw [if_pos ⟨by omega,by omega,by omega⟩]
theorem zL (hp:PW p) (sp:Bool):Bis tE (mR p sp) (StT (prg p) false<|clB sp) a0T (DnT<|prg p) (outT p.length) (IB p sp) AB where
 i0:=IB.start p sp
 h0:=Gt p sp
 fw:=λs m h hr hm=>by
  have hi:=InT.of hp.pv.prg hr;have iv:=h.iv hi;have hl:=hp.pv.vs.1;rcases yw.1 hm with ⟨t,h1,rfl,h2⟩ | ⟨b,h1,rfl,h2⟩
  ·rw [h.up] at h1;have hc:=(h.can hp.pv h1).1 h2;have hx:=hp.pv.prg _ _ _ hc.1;have e:tE.af s t=exB s t (jp s.values t):=by
    simp only [tE,h.up];rw [if_neg (by omega)]
   rw [e,h.exA hp.pv iv h1 hx];exact ⟨h.ex hp.pv iv h1 hx,.ex hc⟩
  rw [h.wl] at h1;obtain ⟨t,c,ht,hc,rfl⟩:=zJ h1;have e:tE.af s ((s.values.p.length:Int)+(ixB sp t c:Nat))=flB s (ixB sp t c):=by
   simp only [tE];rw [if_pos (by omega)]
   congr 1
   omega
  rw [e];have hb:=h.bf ht hc;obtain ⟨b,w,hw⟩:=Q6 h2;rw [hw,QR] at hb;have he:=((hi.vl t).2 c (z8 b)<|by show _∈(AB s).bf t c;rw [hb];exact Qt).1;rw [h.flA hp.pv ht hc hb he];exact ⟨h.fl _,.fl hb⟩
 bw:=λs a h hr hs=>by
  have hi:=InT.of hp.pv.prg hr;have iv:=h.iv hi;have hl:=hp.pv.vs.1
  cases hs with
  | @ex t x hc=>
   have ht:=zK hc.1;obtain ⟨h1,h2⟩:=kg h.up (by omega:t<3)<|h.pc t (by omega);obtain ⟨h3,rfl⟩:=h2 x hc.1;refine ⟨t,yw.2<|.inl ⟨t,by rw [h.up];exact ht,rfl,(h.can hp.pv ht).2 hc⟩,?_⟩;have e:tE.af s t=exB s t (jp s.values t):=by
    simp only [tE,h.up];rw [if_neg (by omega)]
   rw [e];exact h.exA hp.pv iv ht<|hp.pv.prg _ _ _ hc.1
  | @fl t c e r hb=>
   have hq:t<p.length/\yS sp c:=Decidable.byContradiction λk=>by rw [h.bf0 k] at hb;cases hb
   have hb':=hb;rw [h.bf hq.1 hq.2] at hb';have he:=((hi.vl t).2 c e<|by show _∈(AB s).bf t c;rw [hb];exact Qt).1;refine ⟨_,yw.2<|.inr ⟨ixB sp t c,by rw [h.wl];exact EW hq.2 hq.1,rfl,λk=>by rw [k] at hb';cases hb'⟩,?_⟩;have e2:tE.af s ((s.values.p.length:Int)+(ixB sp t c:Nat))=flB s (ixB sp t c):=by
    simp only [tE];rw [if_pos (by omega)]
    congr 1
    omega
   rw [e2];exact h.flA hp.pv hq.1 hq.2 hb he
 dn:=λs h hr=>by
  have hl:=hp.pv.vs.1;have hpc:(tz s.values).isEmpty=true↔∀ t,(prg p t).length<=(AB s).pc t:=by
   rw [Qy];refine ⟨λg t=>?_,λg=>?_⟩
   ·rcases QN t p.length with ht | ht
    ·refine Decidable.byContradiction λk=>?_;obtain ⟨h1,h2⟩:=kg h.up (by omega:t<3)<|h.pc t (by omega);have := (h2 _<|geq<|Nat.lt_of_not_le k).1;have : (t:Int)∈tz s.values:=jq.2 ⟨t,by rw [h.up];exact ht,rfl,this⟩;rw [g] at this;cases this
    unfold prg;rw [gdq,gen ht];exact QB _
   refine Q7.2 λm hm=>?_;obtain ⟨t,ht,rfl,hc⟩:=jq.1 hm;rw [h.up] at ht;obtain ⟨h1,h2⟩:=kg h.up (by omega:t<3)<|h.pc t (by omega);have := (ges<|h1 hc).1;have := g t;simp only [AB] at this;omega
  have hw:s.waits.all (·.isEmpty)=true↔∀ t c,(AB s).bf t c=[]:=by
   rw [QI];refine ⟨λg t c=>?_,λg w hw=>?_⟩
   ·by_cases hq:t<p.length/\yS sp c
    ·rw [h.bf hq.1 hq.2,gdq]
     cases e:s.waits[ixB sp t c]? with
     | none=>rfl
     | some w=>rw [Qx,Qy.1 (g w<|QJ e)];rfl
    exact h.bf0 hq
   obtain ⟨b,hb,rfl⟩:=QV hw;obtain ⟨t,c,ht,hc,e⟩:=zJ (by rw [<- h.wl];exact hb:b<bif sp then 3*p.length else p.length);have := g t c;rw [h.bf ht hc,e] at this;have := Q4.1 this;rw [Qy,<- this];simp [List.getD,hb]
  show ((tz s.values).isEmpty&&s.waits.all (·.isEmpty))=true↔_;rw [bae,hpc,hw]
  rfl
 oc:=λs h hr _=>by
  have := hp.pv.vs.1;have := H9 (u:=s.values) (a:=AB s) rfl rfl (by rw [h.up];exact this);rw [h.up] at this;exact this.symm
end
section
variable {p:List (List MI)} {sp:Bool} {s:aj}
theorem vR (hp:PV p) {u:MJ} (h:Iv p u):MN (bC u) (· = (tz u).isEmpty):=by
 have e:di ⟨u⟩=bC u:=by
  unfold di
  cases bC u <;> rfl
 rw [<- e];exact Ko hp h
theorem BZ (u:MJ):MN (bV u) (· = strOfNums (keyL u)):=by
 have e:df ⟨u⟩=bV u:=by
  unfold df
  cases bV u <;> rfl
 rw [<- e];exact BV u
theorem xO {l:LI} (h:∀ x∈l,0<=x/\x<=255):kU (strOfNums l)=l:=by
 unfold kU;rw [strOfNums_data,List.map_map]
 conv=>rhs;rw [<- List.map_id l]
 refine QU λx hx=>?_;have := h x hx;simp only [Function.comp,UInt8.toNat_ofNat',id];omega
def fil (f:Nat->Bool) (g:Nat->Int) (n:Nat):LI:=((Qq n).filter f).map g
theorem uQ (f:Nat->Bool) (g:Nat->Int) (n:Nat):fil f g (n+1)=if f n=true then fil f g n++[g n] else fil f g n:=by
 unfold fil;rw [QW,List.filter_append,QT]
 split
 ·rename_i h;rw [List.filter_cons_of_pos h];rfl
 rename_i h;rw [List.filter_cons_of_neg h];simp
theorem vS (f:Nat->Bool) (g:Nat->Int) (n:Nat):(fil f g n).length<=n:=by
 unfold fil;rw [llm];exact Qu (List.length_filter_le _ _) (by simp)
theorem xP (s:aj) {t l:Int} (ht:0<=t/\t<=3) (hl:0<=l/\l<=2):MN (dm s t l) (· = gB s.split t l):=by
 unfold dm gB;refine .bif (λhb => .gdI (by omega)<|.gdI (by omega)<|.pure<|by rw [hb];rfl) λhb => .pure (by rw [hb];rfl)
theorem IB.ixl (h:IB p sp s) {t:Nat} (ht:t<p.length) {l:Int} (hl:0<=l/\l<=2):0<=gB s.split t l/\(gB s.split t l)<(s.waits.length:Int):=by
 have h1:=uP sp t hl;have h2:=EW (EY sp hl) ht;rw [h.sq];rw [h.wl];omega
theorem E0 (hp:PV p) (h:IB p sp s) {t:Nat} (ht:t<p.length):MN (dY s t) (· = ui s t):=by
 have hl:=hp.vs.1;unfold dY;refine MN.sum (PS:=λ_=>ui s t=true) (PW:=(· = ui s t)) ?_ λ_ he => .pure he.symm;refine MN.loop (λi=>(0<=i/\i<=3)/\∀ l:Int,0<=l->l<i->(s.waits.getD (gB s.split t l).toNat default).isEmpty=true) (λi=>(3-i).toNat) ⟨⟨Qv _,by decide⟩,λl h1 h2=>by omega⟩ λi ⟨⟨h1,h2⟩,h3⟩ => ?_;unfold iP;refine .bifD (λhlt=>(xP s (by omega)<|by omega).bind λv hv=>?_) λhge => .pure ?_
 ·subst hv;have := h.ixl ht (l:=i) (by omega);refine .gdD this<|.bifD (λhn => .pure ?_) λhn => .gdI (by omega)<|.pure ⟨⟨⟨by omega,by omega⟩,λl g1 g2=>?_⟩,by omega⟩
  ·simp only [];unfold ui;refine (List.all_eq_false.2 ⟨i,?_,?_⟩).symm
   ·have : i=0\/i=1\/i=2:=by omega
    rcases this with rfl | rfl | rfl <;> decide
   rw [Bool.not_eq_true,QP];intro e;rw [e] at hn;simp at hn
  by_cases e:l=i
  ·subst e;rw [Qy];exact QK (by omega)
  exact h3 l g1 (by omega)
 simp only [];unfold ui;refine QI.2 λl hl=>h3 l ?_ ?_ <;> (simp only [Qz,QA,or_false] at hl;omega)
theorem C8 (hp:PV p) (h:IB p sp s) (iv:Iv p s.values):MN (cH s) (· = tE.mv s):=by
 have hl:=hp.vs.1;have hw:=h.wl;have hwl:s.waits.length<=9:=by rw [hw];cases sp <;> simp only [cond_true,cond_false] <;> omega
 unfold cH;refine MN.bind (P:=(· = fil (cnB s) Int.ofNat p.length)) ?_ λv hv=>MN.bind (P:=(· = fil (cnB s) Int.ofNat p.length++fil (λb => !(s.waits.getD b default).isEmpty) (λb:Nat=>(s.values.p.length:Int)+(b:Int)) s.waits.length)) ?_ λv hv => .pure ?_
 ·refine MN.loop (λz=>(0<=z.2/\z.2<=(p.length:Int))/\z.1=fil (cnB s) Int.ofNat z.2.toNat) (λz=>((p.length:Int)-z.2).toNat) ⟨⟨Qv _,by simp only [];omega⟩,rfl⟩ λz ⟨⟨h1,h2⟩,h3⟩ => ?_;unfold fK;simp only [h.up];refine .bifD (λhlt=>?_) λhge => .pure (by rw [h3,show z.2.toNat=p.length by omega]);obtain ⟨l,i⟩:=z;simp only at h1 h2 h3 hlt;obtain ⟨n,rfl⟩:∃ n:Nat,i=n:=⟨i.toNat,by omega⟩;simp only [tnn] at h3;subst h3;have hfl:=vS (cnB s) Int.ofNat n;have hpn:n<p.length:=by omega
  refine MN.bind (P:=(· = fil (cnB s) Int.ofNat (n+1))) ?_ λv hv => .gdI (by omega)<|.pure ⟨⟨⟨by simp only [];omega,by simp only [];omega⟩,hv⟩,by simp only [];omega⟩;refine (AP hp iv hpn).bind λv ⟨e1,e2⟩ => ?_;refine MN.bind (P:=(· = cnB s n)) ?_ λb hb => .bif (λhc => .gd (dZ (by simp only [];omega) rfl)<|.pure ?_) λhc => .pure ?_
  ·refine .bif (λhc=>?_) λhc => .pure ?_
   ·have e3:=e2 hc;refine MN.bind (P:=(· = ((jp s.values n).Op != 4&&(jp s.values n).Op != 5))) ?_ λw hw=>MN.bind (P:=(· = cnB s n)) (.bif (λk => .pure ?_) λk=>(E0 hp h hpn).bind λw hw => .pure ?_) λw hw => .pure hw
    ·rw [e3];exact .bif (λk => .pure<|by rw [k];rfl) λk => .pure (by rw [k];rfl)
    ·unfold cnB;rw [<- e1,hc,<- hw,k];rfl
    unfold cnB;rw [<- e1,hc,hw,<- ‹_=((jp s.values n).Op != 4&&_)›,k];rfl
   unfold cnB;rw [<- e1,hc];rfl
  ·rw [uQ,if_pos (by rw [<- hb,hc])];rfl
  rw [uQ,if_neg (by rw [<- hb,hc];decide)]
 ·subst hv;refine MN.loop (λz=>(0<=z.2/\z.2<=(s.waits.length:Int))/\z.1=fil (cnB s) Int.ofNat p.length++fil (λb => !(s.waits.getD b default).isEmpty) (λb:Nat=>(s.values.p.length:Int)+(b:Int)) z.2.toNat) (λz=>((s.waits.length:Int)-z.2).toNat) ⟨⟨Qv _,by simp only [];omega⟩,by simp [fil]⟩ λz ⟨⟨h1,h2⟩,h3⟩ => ?_;unfold fq;refine .bifD (λhlt=>?_) λhge => .pure (by rw [h3,show z.2.toNat=s.waits.length by omega]);obtain ⟨l,i⟩:=z;simp only at h1 h2 h3 hlt;obtain ⟨n,rfl⟩:∃ n:Nat,i=n:=⟨i.toNat,by omega⟩;simp only [tnn] at h3 ⊢;subst h3;have hf1:=vS (cnB s) Int.ofNat p.length;have hf2:=vS (λb => !(s.waits.getD b default).isEmpty) (λb:Nat=>(s.values.p.length:Int)+(b:Int)) n;have hup:s.values.p.length<=3:=by rw [h.up];exact hl
  refine MN.bind (P:=(· = fil (cnB s) Int.ofNat p.length++fil (λb => !(s.waits.getD b default).isEmpty) (λb:Nat=>(s.values.p.length:Int)+(b:Int)) (n+1))) ?_ λv hv => .gdI (by omega)<|.pure ⟨⟨⟨by omega,by omega⟩,hv⟩,by omega⟩;refine .gdD ⟨h1,hlt⟩<|.bifD (λhc => .gdI (by omega)<|.gd (dZ (by rw [lla];omega) rfl)<|.pure ?_) λhc => .pure ?_
  ·rw [uQ,if_pos,List.append_assoc];rw [Bool.not_eq_true',QP];intro e;rw [e] at hc;simp at hc
  rw [uQ,if_neg];rw [Bool.not_eq_true',QP,ne_eq,Decidable.not_not];exact QK (by omega)
 rw [hv];simp only [tE,fil,h.up]
theorem E5 (hp:PV p) (h:IB p sp s) (iv:Iv p s.values):MN (cZ s) (· = tE.dn s):=by
 have hl:=hp.vs.1;have hwl:s.waits.length<=9:=by rw [h.wl];cases sp <;> simp only [cond_true,cond_false] <;> omega
 unfold cZ;refine (vR hp iv).bind λv hv=>MN.bind (P:=(· = tE.dn s)) (.bif (λhb=>?_) λhb => .pure ?_) λw hw => .pure hw
 ·unfold aY;refine MN.bind (P:=(· = !s.waits.all (·.isEmpty))) ?_ λw hw => .pure ?_
  ·refine MN.bind (P:=λv:Int=>decide (0<=v) = !s.waits.all (·.isEmpty)) ?_ λv hv => .pure hv;unfold bh;refine MN.sum (PS:=λ_=>s.waits.all (·.isEmpty)=true) (PW:=λv:Int=>decide (0<=v) = !s.waits.all (·.isEmpty)) ?_ λ_ he => .pure (by rw [he];rfl);refine MN.loop (λi=>(0<=i/\i<=(s.waits.length:Int))/\∀ j:Nat,(j:Int)<i->(s.waits.getD j default).isEmpty=true) (λi=>((s.waits.length:Int)-i).toNat) ⟨⟨Qv _,by omega⟩,λj hj=>by omega⟩ λi ⟨⟨h1,h2⟩,h3⟩ => ?_;unfold bJ;refine .bifD (λhlt => .gdD ⟨h1,hlt⟩ ?_) λhge => .pure ?_
   ·refine MN.bind (P:=λb=>b=decide ((0:Int)<((s.waits.getD i.toNat default).length:Int))) (.pure rfl) λb hb=>?_;rw [hb];refine .bifD (λhn => .pure ?_) λhn => .gdI (by omega)<|.pure ⟨⟨⟨by omega,by omega⟩,λj hj=>?_⟩,by omega⟩
    ·simp only [];rw [decide_eq_true h1];have hi:i.toNat<s.waits.length:=by omega
     have : s.waits.all (·.isEmpty)=false:=List.all_eq_false.2 ⟨s.waits[i.toNat],List.getElem_mem hi,by
      rw [Bool.not_eq_true,QP];intro e;rw [gdq,geq hi,Qx,e] at hn;simp at hn⟩
     rw [this];rfl
    by_cases e:j=i.toNat
    ·subst e;rw [Qy];exact QK (by omega)
    exact h3 j (by omega)
   simp only [];refine QI.2 λw hw=>?_;obtain ⟨j,hj,rfl⟩:=QV hw;have := h3 j (by omega)
   rwa [gdq,geq hj,Qx] at this
  show _=((tz s.values).isEmpty&&s.waits.all (·.isEmpty));rw [hw,<- hv,hb,Bool.not_not];rfl
 show _=((tz s.values).isEmpty&&s.waits.all (·.isEmpty));rw [<- hv,hb];rfl
theorem B0 {cl:Int->Int} {l:List MI}:∀ {k:Nat} {u:LSt},u∈LSn cl l k->∀ c,(u.2 c).length<=k
 | 0,u,h,c=>by rw [QC.1 h];exact Qr _
 | k+1,u,h,c=>by
  obtain ⟨v,hv,hu⟩:=Qw.1 h;have ih:=B0 hv;have := ih c;unfold lsx at hu
  split at hu
  ·simp only [Qz,QA,or_false] at hu;rcases hu with rfl | rfl | rfl | rfl <;> (simp only [];omega)
  split at hu
  ·simp only [Qz,QA,or_false] at hu;rcases hu with rfl | rfl
   ·simp only [pg]
    split
    ·rename_i e;have := ih<|cl (l.getD k default).Loc;rw [lla,QX];omega
    omega
   simp only [pg]
   split
   ·exact QB _
   omega
  rw [QC.1 hu];omega
theorem IB.wlen (hp:PV p) (h:IB p sp s) {cl:Int->Int} (hi:InT (prg p) cl<|AB s) (b:Nat):(s.waits.getD b default).length<=7:=by
 rcases QN b s.waits.length with hb | hb
 ·obtain ⟨t,c,ht,hc,rfl⟩:=zJ (by rw [<- h.wl];exact hb:b<bif sp then 3*p.length else p.length);have h1:=B0 (hi.ls t) c;have h2:=hi.pc t;have h3:=hp.vs.2 t;simp only at h1;rw [h.bf ht hc,llm] at h1;unfold prg at h2;omega
 rw [gdq,gen hb];exact QB _
theorem Gu (hp:PV p) (h:IB p sp s) {cl:Int->Int} (hi:InT (prg p) cl<|AB s):MN (cF s) (· = tE.ky s):=by
 have iv:=h.iv hi;have hwl:s.waits.length<=9:=by have := hp.vs.1;rw [h.wl];cases sp <;> simp only [cond_true,cond_false] <;> omega
 unfold cF;refine (BZ s.values).bind λv hv=>?_;subst hv;have hk:(keyL s.values).length=15:=rfl;have hsz:(strOfNums<|keyL s.values).size=15:=by
  have := congrArg List.length<|strOfNums_data<|keyL s.values;simpa [hk] using this
 refine .gdD (by rw [hsz];decide) ?_;rw [xO (ug hp iv)];refine MN.bind (P:=(· = Kw s)) ?_ λv hv => .pure (by rw [hv];rfl);refine MN.loop (λz=>(0<=z.2/\z.2<=(s.waits.length:Int))/\z.1=keyL s.values++((s.waits.take z.2.toNat).flatMap λw=>(w.length:Int)::w)/\z.1.length<=15+8*z.2.toNat) (λz=>((s.waits.length:Int)-z.2).toNat) ⟨⟨Qv _,by simp only [];omega⟩,by simp,by simp only [hk];omega⟩ λz ⟨⟨h1,h2⟩,h3,h4⟩ => ?_;unfold ib;refine .bifD (λhlt=>?_) λhge => .pure ?_
 ·have hw:=h.wlen hp hi z.2.toNat;have hn:z.2.toNat<s.waits.length:=by omega
  refine .gdD ⟨h1,hlt⟩<|.gdY (by omega)<|.gd (dZ (by omega) rfl)<|.gd (dZ (by rw [lla,QX];omega) rfl)<|.gdI (by omega)<|.pure ⟨⟨⟨by simp only [];omega,by simp only [];omega⟩,?_,?_⟩,by simp only [];omega⟩
  ·simp only [];rw [show (z.2+1).toNat=z.2.toNat+1 by omega,List.take_add_one,geq hn,h3,Q8,show s.waits.getD z.2.toNat default=s.waits[z.2.toNat] by simp [List.getD,hn]];simp only [Option.toList,QD,List.flatMap_nil,List.append_nil,List.append_assoc,QY,List.nil_append]
  simp only [lla,QX];omega
 rw [h3,show z.2.toNat=s.waits.length by omega,List.take_length]
 rfl
theorem uR {α:Type} {e:Bool} {A B:Option α} {v:α} (ha:e=true->A=some v) (hb:B=some v):MN (nilK e A B) (· = v):=by
 unfold nilK
 cases e with
 | true=>
  rw [cond_true,if_pos ((ha rfl).trans hb.symm)];exact ⟨v,ha rfl,rfl⟩
 | false=>exact ⟨v,hb,rfl⟩
theorem E8 (w:LL) (h:w.length<=9):MN (eT w) (· = w):=
 uR (λe=>by rw [Qy.1 e]) (kQ<|dZ (by simp;omega) rfl)
theorem C9 (w:LI) (h:w.length<=9):MN (fu w) (· = w):=
 uR (λe=>by rw [Qy.1 e]) (kQ<|dZ (by simp;omega) rfl)
theorem E9 (hp:PV p) (h:IB p sp s) {t:Nat} (ht:t<p.length) {l:Int} (hl:0<=l/\l<=2):MN (dR s t l) (· = sO (s.waits.getD (gB s.split t l).toNat default) l (Z3b.get s.values.mem l)):=by
 have := hp.vs.1;have hx:=h.ixl ht hl;unfold dR;refine .gdD ⟨by omega,by omega⟩<|.gdD hx.2<|.gd ?_<|.pure rfl;refine QI.2 λb hb=>decide_eq_true ?_;have hi:(gB s.split t l).toNat<s.waits.length:=by omega
 rw [gdq,geq hi,Qx] at hb;exact h.by_ _ (List.getElem_mem hi) b hb
theorem Da (hp:PV p) (h:IB p sp s) {cl:Int->Int} (hi:InT (prg p) cl<|AB s) {m:Int} (hm:m∈tE.mv s):MN (cJ s m) (· = tE.af s m):=by
 have iv:=h.iv hi;have hl:=hp.vs.1;have hup:s.values.p.length=p.length:=by rw [h.up]
 have hwl:s.waits.length<=9:=by rw [h.wl];cases sp <;> simp only [cond_true,cond_false] <;> omega
 unfold cJ;refine (E8 s.waits hwl).bind λv1 e1=>?_;subst e1;rcases yw.1 hm with ⟨t,h1,rfl,h2⟩ | ⟨b,h1,rfl,h2⟩
 ·rw [hup] at h1;refine .bifD (λk=>absurd k<|by omega) λ_=>?_;have hc:qb s.values t=true:=by
   unfold cnB at h2;exact (bae _ _ ▸ h2).1
  have hx:=iv.ins hp h1 hc;have e:tE.af s t=exB s t (jp s.values t):=by
   simp only [tE,h.up];rw [if_neg (by omega)]
  rw [e];refine (AP hp iv h1).bind λv ⟨g1,g2⟩ => ?_;have g3:=g2<|g1.trans hc;have hpc:=iv.pc t (by omega);have hr7:=hp.vs.2 t;have hval:=(h.val iv (by omega:t<3) hx).2;rw [<- g3] at hx hval ⊢;generalize v.1=x at hx hval ⊢;have hX:=hx;obtain ⟨x1,x2,x3,x4,x5,x6⟩:=hX;refine .gdD ⟨by omega,by omega⟩<|.gdY (by omega) ?_;refine MN.bind (P:=λw=>(⟨⟨w.1,w.2.1,w.2.2.1⟩,⟨w.2.2.2.1,w.2.2.2.2.1,w.2.2.2.2.2.1⟩,⟨w.2.2.2.2.2.2.1,w.2.2.2.2.2.2.2.1,w.2.2.2.2.2.2.2.2.1⟩⟩:Z33)=(exB s t x).values.reg/\w.2.2.2.2.2.2.2.2.2=s.waits) ?_ λw5 ⟨hw5,hw6⟩ => ?_
  ·refine (EK _).bind λb hb=>?_;have hb':b=rdX x:=hb;refine .bif (λhc=>(E9 hp h h1 ⟨x1,x2⟩).bind λv20 hv20 => .gdD ⟨x3,by omega⟩<|.pure ⟨?_,rfl⟩) λhc => .pure ⟨?_,rfl⟩
   ·simp only [exB];rw [if_pos (by rw [<- hb'];exact hc),hv20]
   simp only [exB];rw [if_neg (by rw [<- hb',hc];decide)]
  refine MN.bind (P:=λw=>(⟨w.1,w.2.1,w.2.2.1⟩:Z3b)=(exB s t x).values.mem/\w.2.2.2=(exB s t x).waits) ?_ λw10 ⟨hw10,hw11⟩ => .pure ?_
  ·rw [hw6];refine MN.bind (P:=(· = wU x)) (.bif (λhc => .pure<|by unfold wU;rw [hc];rfl) λhc => .pure<|by unfold wU;rw [hc];rfl) λb hb=>?_;subst hb;refine .bif (λhs=>?_) λhs=>?_
   ·obtain ⟨o1,o2,o3,o4⟩:=Ks hs;refine (xP s (by omega) ⟨x1,x2⟩).bind λv29 hv29=>?_;subst hv29;have hix:=h.ixl h1 (l:=x.Loc) ⟨x1,x2⟩;have hwb:=h.wlen hp hi (gB s.split t x.Loc).toNat;refine .gdD hix<|.gdY (by omega)<|.gdY (by omega)<|(C9 _<|by omega).bind λv33 hv33=>?_;subst hv33;refine MN.bind (P:=(· = su s.values t x)) ?_ λv37 hv37=>?_
    ·unfold bH su;refine .bif (λho => .gdD ⟨by omega,by omega⟩<|.gdD ⟨x3,by simp only [];omega⟩<|.pure ?_) λho => .gdY (by simp only [];omega) (.pure ?_)
     ·rw [if_pos (by simpa using ho)]
     rw [if_neg (by simpa using ho)]
    subst hv37;refine .gdY (by omega)<|.gd (dZ (by omega) rfl)<|.gdD hix<|.pure ⟨?_,?_⟩
    ·simp only [exB];rw [if_neg o4]
    simp only [exB];rw [if_pos hs]
   refine .bif (λh5 => .gdY (by omega)<|.gdD ⟨x1,by omega⟩<|.pure ⟨?_,?_⟩) λh5 => .pure ⟨?_,?_⟩
   ·simp only [exB];rw [if_pos (by simpa using h5)]
   ·simp only [exB];rw [if_neg (by rw [hs];decide)]
   ·simp only [exB];rw [if_neg (by simpa using h5)]
   simp only [exB];rw [if_neg (by rw [hs];decide)]
  rw [hw5,hw10,hw11]
  rfl
 have hb:(s.waits.getD b default).length<=7:=h.wlen hp hi b;have hne:0<(s.waits.getD b default).length:=List.length_pos_iff.2 h2;have eb:((s.values.p.length:Int)+(b:Int)-(s.values.p.length:Int)).toNat=b:=by omega
 have e:tE.af s ((s.values.p.length:Int)+(b:Int))=flB s b:=by
  simp only [tE];rw [if_pos (by omega),eb]
 rw [e];have hloc:0<=((s.waits.getD b default).getD 0 default).tdiv 16/\((s.waits.getD b default).getD 0 default).tdiv 16<=2:=by
  rw [h.wl] at h1;obtain ⟨t,c,ht,hc,rfl⟩:=zJ h1;have hb:=h.bf ht hc;obtain ⟨b,w,hw⟩:=Q6 h2;rw [hw,QR] at hb;have he:=((hi.vl t).2 c (z8 b)<|by show _∈(AB s).bf t c;rw [hb];exact Qt).1;rw [hw];exact he
 refine .bifD (λ_=>?_) λk=>absurd (by omega) k;rw [eb];refine .gdI (by omega)<|.gdD ⟨by omega,by omega⟩<|.gdD ⟨Qv _,by omega⟩<|.gdD ⟨by omega,by omega,Qv _⟩<|.gdD ⟨by omega,by omega⟩<|.gdD (by decide)<|.gdY ?_<|.gdD ⟨hloc.1,?_⟩<|.pure ?_
 ·exact ⟨hloc.1,Int.le_trans hloc.2<|by decide⟩
 ·exact Int.lt_of_le_of_lt hloc.2 (by decide)
 unfold flB;have : ((s.waits.getD b default).drop (1:Int).toNat).take (((s.waits.getD b default).length:Int).toNat-(1:Int).toNat)=(s.waits.getD b default).drop 1:=by
  rw [List.take_of_length_le]
  ·rfl
  rw [List.length_drop];exact Qr _
 rw [this]
 rfl
end
theorem Fa {a b:Z3b} (h:∀ t:Nat,t<3->Z3b.get a t=Z3b.get b t):a=b:=by
 have h0:=h 0 (by decide);have h1:=h 1 (by decide);have h2:=h 2 (by decide);rw [L6,L6] at h0;rw [L8,L8] at h1;rw [L9,L9] at h2
 cases a;cases b
 simp only at h0 h1 h2;rw [h0,h1,h2]
theorem Jb {a b:Z33} (h:∀ t:Nat,t<3->Z33.get a t=Z33.get b t):a=b:=by
 have h0:a.x0=b.x0:=h 0 (by decide);have h1:a.x1=b.x1:=h 1 (by decide);have h2:a.x2=b.x2:=h 2 (by decide)
 cases a;cases b
 simp only at h0 h1 h2;rw [h0,h1,h2]
theorem zM:∀ {v w:LL},v.length=w.length->(v.flatMap λw=>(w.length:Int)::w)=(w.flatMap λw=>(w.length:Int)::w)->v=w
 | [],[],_,_=>rfl
 | [],_::_,h,_=>by cases h
 | _::_,[],h,_=>by cases h
 | a::v,b::w,h,e=>by
  rw [QD,QD,QY,QY] at e;injection e with e1 e2;obtain ⟨e3,e4⟩:=List.append_inj e2 (by omega);rw [e3,zM (by simpa using h) e4]
section
variable {p:List (List MI)} {sp:Bool}
theorem Jc {u v:MJ} (hp:u.p=v.p) (h1:pcF u.pc=pcF v.pc) (hu:∀ t:Nat,t<3->0<=Z3b.get u.pc t) (hv:∀ t:Nat,t<3->0<=Z3b.get v.pc t) (h2:rgF u.reg=rgF v.reg) (h3:mmF u.mem=mmF v.mem):u=v:=by
 have e1:u.pc=v.pc:=Fa λt ht=>by
  have := congrFun h1 t;simp only [pcF,if_pos ht] at this;have := hu t ht;have := hv t ht;omega
 have e2:u.reg=v.reg:=Jb λt ht=>Fa λg hg=>by
  have := congrFun (congrFun h2 t) g;simp only [rgF] at this
  rwa [if_pos ⟨ht,by omega,by omega⟩,if_pos ⟨ht,by omega,by omega⟩] at this
 have e3:u.mem=v.mem:=Fa λl hl=>by
  have := congrFun h3 l;simp only [mmF] at this
  rwa [if_pos ⟨by omega,by omega⟩,if_pos ⟨by omega,by omega⟩] at this
 cases u;cases v
 simp only at hp e1 e2 e3;subst hp e1 e2 e3
 rfl
theorem Ky {s t:aj} (hs:IB p sp s) (ht:IB p sp t) (h:AB s=AB t):s=t:=by
 have e1:s.values=t.values:=Jc (hs.up.trans ht.up.symm) (congrArg TS.pc h) hs.pc ht.pc (congrArg TS.rg h)<|congrArg TS.mm h;have e2:s.waits=t.waits:=by
  refine List.ext_getElem (hs.wl.trans ht.wl.symm) λb h1 h2=>?_;rw [hs.wl] at h1;obtain ⟨i,c,hi,hc,rfl⟩:=zJ h1;have := congrFun (congrFun (congrArg TS.bf h) i) c;rw [hs.bf hi hc,ht.bf hi hc] at this;have := uh this;rw [<- hs.wl] at h1;simpa [List.getD,h1,h2] using this
 have e3:=hs.sq.trans ht.sq.symm
 cases s;cases t
 simp only at e1 e2 e3;subst e1 e2 e3
 rfl
theorem Fb (hp:PV p) {s:aj} (h:IB p sp s) {cl:Int->Int} (hi:InT (prg p) cl<|AB s):∀ x∈Kw s,0<=x/\x<=255:=λx hx=>by
 unfold Kw at hx;rcases QM.1 hx with hx | hx
 ·exact ug hp (h.iv hi) x hx
 obtain ⟨w,hw,hx⟩:=Qw.1 hx;rcases Qz.1 hx with rfl | hx
 ·obtain ⟨b,hb,rfl⟩:=QV hw;have := h.wlen hp hi b;rw [gdq,geq hb,Qx] at this;omega
 exact h.by_ w hw x hx
theorem Jd (hp:PW p):Mok tE (mR p sp) 549755813888:=
 (zL hp sp).mok (λs t hs ht rs rt h=>by
  have is:=InT.of hp.pv.prg rs;have it:=InT.of hp.pv.prg rt;have e:=nI (Fb hp.pv hs is) (Fb hp.pv ht it) h;unfold Kw at e;obtain ⟨e1,e2⟩:=List.append_inj e rfl;have e3:=uM (hs.up.trans ht.up.symm) e1;have e4:=zM (hs.wl.trans ht.wl.symm) e2;have e5:=hs.sq.trans ht.sq.symm
  cases s;cases t
  simp only at e3 e4 e5;subst e3 e4 e5
  rfl) (λs t hs ht h=>Ky hs ht h) hp.cnl
theorem Je (hp:PW p):Mrt cH cJ cF cZ (λs=>aQ s.values) tE (mR p sp):=by
 have B:=zL hp sp;have hi:∀ {s},Rea tE (mR p sp) s->InT (prg p) (clB sp) (AB s):=λh=>InT.of hp.pv.prg (B.rea h).2;refine ⟨λs hs=>C8 hp.pv (B.rea hs).1<|(B.rea hs).1.iv<|hi hs,λs m hs hm=>Da hp.pv (B.rea hs).1 (hi hs) hm,λs hs=>Gu hp.pv (B.rea hs).1<|hi hs,λs hs=>E5 hp.pv (B.rea hs).1<|(B.rea hs).1.iv<|hi hs,λs hs _=>yu hp.pv<|(B.rea hs).1.iv<|hi hs,λs hs=>?_⟩;have h1:=vS (cnB s) Int.ofNat s.values.p.length;have h2:=vS (λb => !(s.waits.getD b default).isEmpty) (λb:Nat=>(s.values.p.length:Int)+(b:Int)) s.waits.length;have h3:=hp.pv.vs.1;have h4:=(B.rea hs).1.wl;have h5:=(B.rea hs).1.up;have h6:s.waits.length<=9:=by rw [h4];cases sp <;> simp only [cond_true,cond_false] <;> omega
 have e:tE.mv s=fil (cnB s) Int.ofNat s.values.p.length++fil (λb => !(s.waits.getD b default).isEmpty) (λb:Nat=>(s.values.p.length:Int)+(b:Int)) s.waits.length:=rfl;rw [e,lla];have : s.values.p.length<=3:=by rw [h5];exact h3
 omega
theorem Gv (hp:PV p) (sp:Bool):MN (iy p sp) (· = mR p sp):=by
 have := hp.vs.1;unfold iy;refine .gdD ⟨by omega,Qv _,by omega,by omega⟩ ?_;refine MN.bind (P:=(· = QO (bif sp then 3*p.length else p.length) [])) (.bif (λh => .gdI (by omega)<|.gdD ⟨by omega,Qv _,by omega,by omega⟩<|.pure ?_) λh => .pure ?_) λv hv => .pure ?_
 ·rw [h,cond_true];congr 1
 ·rw [h,cond_false];congr 1
 rw [hv];rfl
structure Run (O:List Int->Prop) (q:List (List Int)):Prop where
 lt:q.Pairwise ltL
 mem:∀ o,o∈q↔O o
 len:q.length<=549755813888
def FX (p:List<|List MI) (sp:Bool):LI->Prop:=J0 (prg p) false (clB sp) p.length
theorem Ca (hp:PW p) (hv:aA p=some true) (sp:Bool):MN (fA p sp) λq=>Run (FX p sp) q.1:=by
 unfold fA;rw [hv];refine MN.bind (P:=(· = true)) (.pure rfl) λb hb => .bif (λh=>absurd h (by rw [hb];decide)) λ_=>?_;refine (Gv hp.pv sp).bind λv ev=>?_;subst ev;refine MN.bind (P:=λq:LL×Int=>Run (FX p sp) q.1) ?_ λq hq => .pure hq;have e:ez (mR p sp)=Kj cH cJ cF cZ (λs=>aQ s.values) aR (mR p sp):=rfl;rw [e];have B:=zL hp sp;have hQ:∀ l:LL,l.length<=549755813888->(∀ o∈l,I2 tE (mR p sp) o)->MN (aR l) λq=>Sor l q/\l.length<=549755813888:=λl hl ho=>(tv (by omega) λr hr=>by
  obtain ⟨s,h1,_,rfl⟩:=ho r hr;have h2:=(B.rea h1).1.up;have h3:=hp.pv.vs.1;show (wT s.values).length<=_;rw [uN,h2];omega).mono λq h=>⟨h,hl⟩
 exact (AL (Q:=λl q=>Sor l q/\l.length<=549755813888) (Jd hp) (Je hp) (by decide) hQ).mono λq ⟨l,⟨h1,h3⟩,h2,_⟩=>⟨h1.lt,λo=>(h1.mem o).trans<|(h2 o).trans<|B.outs o,Qu h1.len h3⟩
theorem Kz (hp:PV p) (cl:Int->Int):Bis Km ⟨v0 p⟩ (StT (prg p) true cl) a0T (DnT<|prg p) (outT p.length) (λs=>Iv p s.values) AS:=by
 have hl:=hp.vs.1;have hex:∀ (s:MK) (t:Nat) (x:MI),Iv p s.values->t<p.length->InR x->AS ⟨EM s.values t x⟩=exT true cl (AS s) t x:=λs t x h ht hx=>by
  have ht3:t<3:=by omega
  have hloc:0<=x.Loc/\x.Loc<=2:=⟨hx.1,hx.2.1⟩;have hreg:0<=x.Reg/\x.Reg<=2:=⟨hx.2.2.1,hx.2.2.2.1⟩;have hv:su s.values t x=z7 (AS s) t x:=by
   unfold su z7
   split
   ·simp only [AS,rgF];rw [if_pos ⟨ht3,hreg⟩]
   rfl
  have hm:(AS s).mm x.Loc=Z3b.get s.values.mem x.Loc:=if_pos hloc;have hse:qc cl (AS s) t x.Loc=Z3b.get s.values.mem x.Loc:=hm;refine TS.ext ?_ ?_ ?_ ?_
  ·have := h.pc t ht3;simp only [AS,EM,exT];rw [AR _ ht3]
   congr 1
   simp only [pcF,if_pos ht3];omega
  ·rw [H6,hse];simp only [AS,EM]
   split
   ·rw [AU _ ht3 hreg]
   rfl
  ·rw [H7,<- hv];simp only [AS,EM,Bool.true_or,Bool.and_true]
   split
   ·rw [AX _ hloc]
   rfl
  rw [H8];simp [AS]
 refine ⟨Iv.start p,?_,λs m h hr hm=>?_,λs a h hr hs=>?_,λs h hr=>?_,λs h hr _=>?_⟩
 ·obtain ⟨h1,h2,h3⟩:=yx p;exact TS.ext h1 h2 h3 rfl
 ·obtain ⟨t,h1,rfl,h2⟩:=jq.1 hm;rw [h.up] at h1;have hx:=h.ins hp h1 h2;show Iv p (EM _ t<|jp _ t)/\_;refine ⟨h.after (by omega) h2 hx,?_⟩;show StT _ _ _ _ (AS ⟨EM s.values t<|jp s.values t⟩);rw [hex s t _ h h1 hx];exact .ex ⟨(kg h.up (by omega:t<3) (h.pc t<|by omega).1).1 h2,λ_ _=>rfl⟩
 ·cases hs with
  | @ex t x hc=>
   have ht:=zK hc.1;obtain ⟨h3,rfl⟩:=(kg h.up (by omega:t<3) (h.pc t<|by omega).1).2 x hc.1;exact ⟨t,jq.2 ⟨t,by rw [h.up];exact ht,rfl,h3⟩,hex s t _ h ht<|hp.prg _ _ _ hc.1⟩
  | fl hb=>cases hb
 ·show (tz s.values).isEmpty=true↔_;rw [Qy];refine ⟨λg=>⟨λt=>?_,λ_ _=>rfl⟩,λg=>?_⟩
  ·rcases QN t p.length with ht | ht
   ·refine Decidable.byContradiction λk=>?_;have := ((kg h.up (by omega:t<3) (h.pc t<|by omega).1).2 _<|geq<|Nat.lt_of_not_le k).1;have : (t:Int)∈tz s.values:=jq.2 ⟨t,by rw [h.up];exact ht,rfl,this⟩;rw [g] at this;cases this
   unfold prg;rw [gdq,gen ht];exact QB _
  refine Q7.2 λm hm=>?_;obtain ⟨t,ht,rfl,hc⟩:=jq.1 hm;rw [h.up] at ht;have := (ges<|(kg h.up (by omega:t<3) (h.pc t<|by omega).1).1 hc).1;have := g.1 t;simp only [AS] at this;omega
 have := H9 (u:=s.values) (a:=AS s) rfl rfl (by rw [h.up];exact hl);rw [h.up] at this;exact this.symm
theorem yz (hp:PV p) (cl:Int->Int) (o:LI):Gr p o↔J0 (prg p) true cl p.length o:=(Kz hp cl).outs o
theorem Gw (hp:PV p) (hv:aA p=some true):MN (jk p) (Run<|Gr p):=by
 have h0:Iv p (⟨v0 p⟩:MK).values:=Iv.start p;have e:gD ⟨v0 p⟩=Kj eD eF df di (λs=>aQ s.values) aR ⟨v0 p⟩:=rfl;have hQ:∀ l:LL,l.length<=8589934592->(∀ o∈l,Gr p o)->MN (aR l) λq=>Sor l q/\l.length<=8589934592:=λl hl ho=>(tv (by omega) λr hr=>by
  obtain ⟨s,h1,_,rfl⟩:=ho r hr;have h2:=(qA hp h0 h1).up;have h3:=hp.vs.1;show (wT s.values).length<=_;rw [uN,h2];omega).mono λq h=>⟨h,hl⟩
 have hr:=(AL (Q:=λl q=>Sor l q/\l.length<=8589934592) (I6 hp h0) (I7 hp h0) (by decide) hQ).mono (P':=λq=>Run (Gr p) q.1) λq ⟨l,⟨h1,h3⟩,h2,_⟩=>⟨h1.lt,λo=>(h1.mem o).trans<|h2 o,Qu h1.len<|by omega⟩;unfold jk;rw [hv];refine MN.bind (P:=(· = true)) (.pure rfl) λb hb => .bif (λh=>absurd h<|by rw [hb];decide) λ_=>?_;exact MN.bind (P:=λs:MK=>s=⟨v0 p⟩) (.pure rfl) λv hv=>MN.bind (P:=λq:LL×Int=>Run (Gr p) q.1) (hv ▸ (e ▸ hr)) λq hq => .pure hq
theorem Cb (n:Nat) (a:TS):(outT n a).length=3*n+3:=by
 unfold outT;rw [lla];have : ∀ n,((Qq n).flatMap λt=>(Qq 3).map λg:Nat=>a.rg t g).length=3*n:=λn=>by
  induction n with
  | zero=>rfl
  | succ n ih=>
   rw [show Qq (n+1)=Qq n++[n] from QW,Q8,lla,ih];simp;omega
 rw [this];simp
theorem Cc {o:LI} (h:FX p sp o):o.length=3*p.length+3:=by
 obtain ⟨a,_,_,rfl⟩:=h;exact Cb _ _
theorem Gx (hp:PV p) {o:LI} (h:Gr p o):o.length=3*p.length+3:=by
 obtain ⟨a,_,_,rfl⟩:=(yz hp id o).1 h;exact Cb _ _
theorem PW.of (h:dh (p.map λr=>r.map gq)=true):PW p:=by
 have hp:=PV.of h;refine ⟨hp,?_,λt k x hx=>?_⟩
 ·have hc:mF p9 (p.map λr=>r.map gq)<=12:=by
   simp only [dh,mb,bae,dte] at h;exact h.1.1.2
  have he:∀ l:List MI,MP l=(l.map gq).countP p9:=λl=>by
   unfold MP;rw [List.countP_map]
   rfl
  have hl:=hp.vs.1;unfold mF at hc;have hd:(default:List MI)=[]:=rfl;unfold prg
  match p,hl with
  | [],_=>simp [he,hd]
  | [a],_=>simp [he,hd] at hc ⊢;omega
  | [a,b],_=>simp [he,hd] at hc ⊢;omega
  | [a,b,c],_=>simp [he,hd] at hc ⊢;omega
  | _::_::_::_::_,hl=>simp at hl
 have ht:=zK hx;obtain ⟨hk,e⟩:=ges hx;have h1:=(Vs.of h).2 t k ht hk;have e2:(p.getD t default).getD k default=x:=by
  rw [gdq];unfold Go.Proofs.YtjcmfddobaplbaaGreat.prg at hx;rw [hx];rfl
 rw [e2] at h1;unfold jh gq at h1;simp only at h1
 split at h1
 ·omega
 split at h1
 ·omega
 split at h1
 ·omega
 split at h1
 ·omega
 cases h1
end
def dw (s1_:List MI) (s2_:List MI):LS Int (Unit ⊕ Bool):=λs5=>bif decide (s5<(s1_.length:Int)) then gd (decide<|0<=s5/\s5<(s1_.length:Int)) <|gd (decide<|0<=s5/\s5<(s2_.length:Int)) <|bif (!(((s1_.getD s5.toNat default).Op)==((s2_.getD s5.toNat default).Op)&&(((s1_.getD s5.toNat default).Loc)==((s2_.getD s5.toNat default).Loc)&&(((s1_.getD s5.toNat default).Reg)==((s2_.getD s5.toNat default).Reg)&&(((s1_.getD s5.toNat default).Val)==((s2_.getD s5.toNat default).Val)&&true))))) then some (.inr<|.inr false) else gd (MG .i64<|s5+(1:Int)) <|some (.inl<|s5+(1:Int)) else some (.inr<|.inl ())
def bz (s1_:List MI) (s2_:List MI):Option Bool:= bif ((s1_.length:Int) != (s2_.length:Int)) then some false else sumK (bA (dw s1_ s2_) (0:Int)) λs2=>some true
def iI (x:List MI) (y:List MI):Option Bool:= Qs (bz x y) λv1=>some v1
def aL (s1_:List<|List MI) (s2_:List<|List MI):LS Int (Unit ⊕ Bool):=λs5=>bif decide (s5<(s1_.length:Int)) then gd (decide<|0<=s5/\s5<(s1_.length:Int)) <|gd (decide<|0<=s5/\s5<(s2_.length:Int)) <|Qs (iI (s1_.getD s5.toNat default)<|s2_.getD s5.toNat default) λv10=>bif !v10 then some (.inr<|.inr false) else gd (MG .i64<|s5+(1:Int)) <|some (.inl<|s5+(1:Int)) else some (.inr<|.inl ())
def aG (s1_:List<|List MI) (s2_:List<|List MI):Option Bool:= bif ((s1_.length:Int) != (s2_.length:Int)) then some false else sumK (bA (aL s1_ s2_) (0:Int)) λs2=>some true
def eH (a:List<|List MI) (b:List<|List MI):Option Bool:= Qs (aG a b) λv1=>some v1
def iQ (code:LI):Option ak:= Qs (bif decide ((2000:Int)<(code.length:Int)) then gd (decide<|0<=(0:Int)/\(0:Int)<=(2000:Int)/\(2000:Int)<=(code.length:Int)) <|some ((code.drop (0:Int).toNat).take<|(2000:Int).toNat-(0:Int).toNat) else some code) λs1=>some (⟨s1,(0:Int)⟩:ak)
def aP (r_:ak) (n:Int):Option (ak×Int):= gd (MG .i64<|r_.p+(1:Int)) <|Qs (bif decide (n<(1:Int)) then some true else some ((r_.b.length:Int)==(0:Int))) λs2=>bif s2 then some ((⟨r_.b,(r_.p+(1:Int))⟩:ak),(0:Int)) else gd (MG .i64<|(r_.p+(1:Int))-(1:Int)) <|bif decide (((r_.p+(1:Int))-(1:Int))<(r_.b.length:Int)) then gd (decide<|0<=((r_.p+(1:Int))-(1:Int))/\((r_.p+(1:Int))-(1:Int))<(r_.b.length:Int)) <|gd (MG .i64<|r_.b.getD ((r_.p+(1:Int))-(1:Int)).toNat default) <|gd (decide<|n≠0) <|some ((⟨r_.b,(r_.p+(1:Int))⟩:ak),((r_.b.getD ((r_.p+(1:Int))-(1:Int)).toNat default).tmod n)) else gd (decide<|(r_.b.length:Int)≠0) <|gd (decide<|0<=(((r_.p+(1:Int))-(1:Int)).tmod (r_.b.length:Int))/\(((r_.p+(1:Int))-(1:Int)).tmod (r_.b.length:Int))<(r_.b.length:Int)) <|gd (MG .i64<|r_.b.getD (((r_.p+(1:Int))-(1:Int)).tmod (r_.b.length:Int)).toNat default) <|gd (MG .i64<|(r_.b.getD (((r_.p+(1:Int))-(1:Int)).tmod (r_.b.length:Int)).toNat default)*(131:Int)) <|gd (MG .i64<|((r_.p+(1:Int))-(1:Int))*(7:Int)) <|gd (MG .i64<|(((r_.p+(1:Int))-(1:Int))*(7:Int))+(3:Int)) <|gd (decide<|0<=(((((r_.p+(1:Int))-(1:Int))*(7:Int))+(3:Int)).tmod (r_.b.length:Int))/\(((((r_.p+(1:Int))-(1:Int))*(7:Int))+(3:Int)).tmod (r_.b.length:Int))<(r_.b.length:Int)) <|gd (MG .i64<|r_.b.getD (((((r_.p+(1:Int))-(1:Int))*(7:Int))+(3:Int)).tmod (r_.b.length:Int)).toNat default) <|gd (MG .i64<|(r_.b.getD (((((r_.p+(1:Int))-(1:Int))*(7:Int))+(3:Int)).tmod (r_.b.length:Int)).toNat default)*(1117:Int)) <|gd (MG .i64<|((r_.b.getD (((r_.p+(1:Int))-(1:Int)).tmod (r_.b.length:Int)).toNat default)*(131:Int))+((r_.b.getD (((((r_.p+(1:Int))-(1:Int))*(7:Int))+(3:Int)).tmod (r_.b.length:Int)).toNat default)*(1117:Int))) <|gd (MG .i64<|((r_.p+(1:Int))-(1:Int))*(29:Int)) <|gd (MG .i64<|(((r_.b.getD (((r_.p+(1:Int))-(1:Int)).tmod (r_.b.length:Int)).toNat default)*(131:Int))+((r_.b.getD (((((r_.p+(1:Int))-(1:Int))*(7:Int))+(3:Int)).tmod (r_.b.length:Int)).toNat default)*(1117:Int)))+(((r_.p+(1:Int))-(1:Int))*(29:Int))) <|gd (MG .i64<|((r_.p+(1:Int))-(1:Int)).tdiv (r_.b.length:Int)) <|gd (MG .i64<|(((r_.p+(1:Int))-(1:Int)).tdiv (r_.b.length:Int))*(53:Int)) <|gd (MG .i64<|((((r_.b.getD (((r_.p+(1:Int))-(1:Int)).tmod (r_.b.length:Int)).toNat default)*(131:Int))+((r_.b.getD (((((r_.p+(1:Int))-(1:Int))*(7:Int))+(3:Int)).tmod (r_.b.length:Int)).toNat default)*(1117:Int)))+(((r_.p+(1:Int))-(1:Int))*(29:Int)))+((((r_.p+(1:Int))-(1:Int)).tdiv (r_.b.length:Int))*(53:Int))) <|gd (decide<|(64:Int)≠0) <|gd (MG .i64<|(((((r_.b.getD (((r_.p+(1:Int))-(1:Int)).tmod (r_.b.length:Int)).toNat default)*(131:Int))+((r_.b.getD (((((r_.p+(1:Int))-(1:Int))*(7:Int))+(3:Int)).tmod (r_.b.length:Int)).toNat default)*(1117:Int)))+(((r_.p+(1:Int))-(1:Int))*(29:Int)))+((((r_.p+(1:Int))-(1:Int)).tdiv (r_.b.length:Int))*(53:Int))).tdiv (64:Int)) <|Qs (some<|Lg .i64 (((((r_.b.getD (((r_.p+(1:Int))-(1:Int)).tmod (r_.b.length:Int)).toNat default)*(131:Int))+((r_.b.getD (((((r_.p+(1:Int))-(1:Int))*(7:Int))+(3:Int)).tmod (r_.b.length:Int)).toNat default)*(1117:Int)))+(((r_.p+(1:Int))-(1:Int))*(29:Int)))+((((r_.p+(1:Int))-(1:Int)).tdiv (r_.b.length:Int))*(53:Int)))<|(((((r_.b.getD (((r_.p+(1:Int))-(1:Int)).tmod (r_.b.length:Int)).toNat default)*(131:Int))+((r_.b.getD (((((r_.p+(1:Int))-(1:Int))*(7:Int))+(3:Int)).tmod (r_.b.length:Int)).toNat default)*(1117:Int)))+(((r_.p+(1:Int))-(1:Int))*(29:Int)))+((((r_.p+(1:Int))-(1:Int)).tdiv (r_.b.length:Int))*(53:Int))).tdiv (64:Int)) λw27=>gd (decide<|n≠0) <|some ((⟨r_.b,(r_.p+(1:Int))⟩:ak),(w27.tmod n))
def bG (r_:ak) (list:LI):Option (ak×Int):= Qs (aP (⟨r_.b,r_.p⟩:ak) (list.length:Int)) λv1=>gd (decide<|0<=v1.2/\v1.2<(list.length:Int)) <|some ((⟨v1.1.b,v1.1.p⟩:ak),(list.getD v1.2.toNat default))
def fT (x:Int) (low:Int) (high:Int):Option Bool:= Qs (bif decide (low<=x) then some (decide<|x<=high) else some false) λs1=>some s1
section
variable {p:List (List MI)}
structure RunL (p:List (List MI)) (O:List Int->Prop) (q:List (List Int)):Prop where
 run:Run O q
 row:∀ r∈q,r.length=3*p.length+3
abbrev Ma:ByteArray:=⟨#[115,101,113]⟩
abbrev Mb:ByteArray:=⟨#[116,115,111]⟩
abbrev Mc:ByteArray:=⟨#[112,115,111]⟩
theorem LD (hp:PV p) (hv:aA p=some true):MN (jk p) (RunL p<|Gr p):=(Gw hp hv).mono λq h=>⟨h,λr hr=>Gx hp<|(h.mem r).1 hr⟩
theorem Gy (hp:PV p) (hv:aA p=some true):MN (aK p Ma) (RunL p<|Gr p):=by
 unfold aK;exact .bifD (λ_=>(LD hp hv).bind λq h => .pure h) λh=>absurd rfl h
theorem Gz (hp:PW p) (hv:aA p=some true):MN (aK p Mb) (RunL p<|FX p false):=by
 unfold aK;refine .bifD (λh=>absurd h<|by decide) λ_ => .bifD (λ_=>?_) λh=>absurd rfl h;refine MN.bind (P:=RunL p<|FX p false) ?_ λq h => .pure h;unfold nG;exact (Ca hp hv false).bind λq h => .pure ⟨h,λr hr=>Cc<|(h.mem r).1 hr⟩
theorem GA (hp:PW p) (hv:aA p=some true):MN (aK p Mc) (RunL p<|FX p true):=by
 unfold aK;refine .bifD (λh=>absurd h<|by decide) λ_ => .bifD (λh=>absurd h<|by decide) λ_ => .bifD (λ_=>?_) λh=>absurd rfl h;refine MN.bind (P:=RunL p<|FX p true) ?_ λq h => .pure h;unfold nH;exact (Ca hp hv true).bind λq h => .pure ⟨h,λr hr=>Cc<|(h.mem r).1 hr⟩
end
open Go.ChangeShapes Go.WideShapes Go.ChangeAt Go.RowKit

theorem Ow.setOther {α:Type} {f:α->List Value} {s:Nat} {t t':TypeId} {w:World} {lo hi g:Nat} {v:Value} {xs:List α} {cs:Array Value} (h:Ow f s t w lo hi v xs) (hB:ML w g t' cs) (hne:t≠t') (i:Nat) (u:Value):Ow f s t (w.setCell ⟨g,i,none⟩ u) lo hi v xs:=by
 obtain ⟨A,c,rfl,hc,hm,r⟩:=h;refine ⟨A,c,rfl,hc,hm,λhn=>?_⟩;obtain ⟨g',cur,rfl,h1,h2,h3,h4⟩:=r hn;refine ⟨g',cur,rfl,h1,h2,h3.far ?_ _,h4⟩;rintro rfl;exact hne (h3.inj hB).1
theorem Fc {lo hi:Nat} {u:Value} {xs:List Ins} {w:World} (hu:Sl Ins.cells 4 w lo hi u xs) (hx:xs.length<=1048576) :
  Calls Tryz.prog 101 #[u] w λe w'=>(∃ A c,e = .returned (.slice A xs.length c)/\Ow Ins.cells 4 69 w' w.heap.size w'.heap.size (.slice A xs.length c) xs)/\Below w.heap.size w w':=by
 obtain ⟨A,c,rfl,hsrc⟩:=hu.src sZ (by omega);obtain ⟨A',c',hu',hc,hm,_⟩:=hu;injection hu' with h1 _ h2;subst h1 h2;obtain ⟨i0,hi0,hz0,hz1,hz2⟩:=info_parts Tryz.infoIns;have hnil:=λW=>Lib.run_eql_slice_nil (P:=Tryz.prog) W 66 69 A xs.length c 0 0 Tryz.underlying66;rcases A with _ | ad
 ·have h0:xs.length=0:=by
   rcases Nat.eq_zero_or_pos xs.length with h | h
   ·exact h
   obtain ⟨ad,h,_⟩:=hsrc h
   cases h
  have hxs:xs=[]:=QK h0;have HXS:=Lib.hid hxs;clear hxs h0 hsrc
  go_enter Tryz.func101,Tryz.ntmps101
  go_wp2_with fail
  go_ret
  exact ⟨⟨none,0,by rw [HXS.out];rfl,by rw [HXS.out];exact Ow.uW _ _<|by omega⟩,Below.refl _ _⟩
 have SRC:=Lib.hid hsrc;clear hsrc;have NEW:Hid ((w.alloc<|.cells #[] 69).ownsRow w.heap.size 69 4 (.slice (some ⟨w.heap.size,0,none⟩) 0 0) 0 []):=World.ownsRow_made w #[] 0 (Qr _) (by simp [maxLen]) rfl;have SRC2:Hid (Src (w.alloc<|.cells #[] 69) (some ad) xs.length<|xs.flatMap Ins.cells):=by
  intro hn;obtain ⟨ad',h,hc⟩:=SRC.out hn;refine ⟨ad',h,λj u hu=>?_⟩;have := hc j u hu;rw [World.cell?_alloc_lt w _ _ (World.block_lt_of_cell? w _ this)];exact this
 go_enter Tryz.func101,Tryz.ntmps101
 by_cases hn:0<xs.length
 ·go_wp2_with (at_builtin;refine ma _ rfl _ _ 66 rfl w.heap.size 69 i0 _ 4 32 Tryz.underlying66 hi0 hz0 hz1 hz2 rfl (by omega) (.slice (some ⟨w.heap.size,0,none⟩) 0 0) 0 [] rfl NEW.out (some ad) xs.length c (xs.flatMap Ins.cells) rfl (pW sZ xs) SRC2.out (AC xs) (by simp only [maxLen];omega) (by omega) (by simp) (by omega) ?_;intro gg cap w1 hown hgrow hat hlt)
  go_ret
  refine ⟨⟨some ⟨gg,0,none⟩,cap,by simp, Ow.of_row sZ (by simpa using hown) rfl rfl⟩,((Below.refl _ _).alloc (Qr _) _).grown hgrow (by simp) λk hk=>by simp [Value.ownBlock] at hk;omega⟩
 have hxs:xs=[]:=QK (by omega);have HXS:=Lib.hid hxs;clear hxs
 go_wp2_with (at_builtin;refine j6 _ rfl _ _ 66 rfl w.heap.size 69 i0 _ 4 32 Tryz.underlying66 hi0 hz0 hz1 hz2 rfl (by omega) (.slice (some ⟨w.heap.size,0,none⟩) 0 0) 0 [] rfl NEW.out (some ad) xs.length c (xs.flatMap Ins.cells) rfl (pW sZ xs) SRC2.out (AC xs) (by simp only [maxLen];omega) (by omega) (by simp) ?_;intro v' w1 hown hgrow hat)
 go_ret
 refine ⟨?_,((Below.refl _ _).alloc (Qr _) _).grown hgrow (by simp) λk hk=>by simp [Value.ownBlock] at hk;omega⟩;rw [HXS.out] at hown ⊢;rcases hown.2 with ⟨rfl,_⟩ | ⟨g,cap,cur,rfl,_,_,_,hcap,_⟩
 ·exact ⟨none,0,rfl,Ow.uW _ _<|by omega⟩
 simp only [maxLen] at hcap;exact ⟨some ⟨g,0,none⟩,cap,rfl,Ow.uW _ _<|by omega⟩
theorem sP.made2 {α:Type} {f:α->List Value} {s:Nat} {to ti:TypeId} {w:World} {lo hi g c:Nat} {cs:Array Value} {p:List (List α)} {V:Nat->Value}
  (hB:ML w g to cs) (hg:lo<=g/\g<hi) (hc:cs.size=c) (hpc:p.length<=c) (hc63:c<=9223372036854775807)
  (hrow:∀ j (h:j<p.length),cs[j]? = some (V j)/\Ow f s ti w lo hi (V j) p[j])
  (hsep:∀ i j (hi:i<p.length) (hj:j<p.length),i≠j->0<p[i].length->0<p[j].length->(V i).ownBlock≠(V j).ownBlock):sP f s to ti w lo hi (.slice (some ⟨g,0,none⟩) p.length c) p:=by
 have hcl:p.length<=cs.toList.length:=by simp;omega
 have hlen:(cs.toList.take p.length).length=p.length:=by simp;omega
 have hget:∀ j (h:j<(cs.toList.take p.length).length) (h':j<p.length),(cs.toList.take p.length)[j]=V j:=by
  intro j h h';have h2:=(hrow j h').1;rw [List.getElem_take];rw [Array.getElem?_eq_some_iff] at h2;obtain ⟨_,h2⟩:=h2;simpa using h2
 refine ⟨cs.toList.take p.length,⟨_,c,by rw [hlen],by rw [hlen];exact hpc,hc63,λ_=>⟨g,cs,rfl,hg.1,hg.2,hB,by omega,λk h j u hu=>?_⟩⟩,hlen,λk h h' => ?_,λi j hi hj hi' hj' hne h1 h2=>?_⟩
 ·match j,hu with
  | 0,hu=>
   simp only [Gh,List.getElem?_cons_zero,sie] at hu;rw [<- hu,Nat.mul_one,Nat.add_zero,hget k h (by omega)];exact (hrow k<|by omega).1
  | n+1,hu=>simp [Gh] at hu
 ·rw [hget k h h'];exact (hrow k h').2
 rw [hget i hi hi',hget j hj hj'];exact hsep i j hi' hj' hne h1 h2
theorem ut {lo hi:Nat} {u:Value} {p:List (List Ins)} {w:World} (hu:sj Ins.cells 4 w lo hi u p) (hhi:hi<=w.heap.size) (hl:p.length<=1048576) (ht:total p<=1048576) :
  Calls Tryz.prog 67 #[u] w λe w'=>(∃ (g:Nat) (cs:Array Value) (V:Nat->Value),e = .returned (.slice (some ⟨g,0,none⟩) p.length p.length)/\ML w' g 66 cs/\w.heap.size<=g/\cs.size=p.length /\
   (∀ j (h:j<p.length),cs[j]? = some (V j)/\Ow Ins.cells 4 69 w' w.heap.size w'.heap.size (V j) p[j]) /\
   (∀ i j (hi:i<p.length) (hj:j<p.length),i≠j->0<p[i].length->0<p[j].length->(V i).ownBlock≠(V j).ownBlock))/\Below w.heap.size w w':=by
 obtain ⟨xs,hxs,hxl,hxr⟩:=hu;obtain ⟨A,ca,rfl,hca,hma,hA⟩:=hxs.vals;clear hxs hma;obtain ⟨i0,hi0,hz0,hz1,hz2⟩:=info_parts Tryz.infoInsS;have hmk:=λW=>yn (P:=Tryz.prog) 24 66 i0 _ Tryz.underlying24 hi0 hz0 .i64 .i64 xs.length xs.length (Qr _) (by rw [hz2];omega) (by omega) W;rw [hz1] at hmk;have HX:=Lib.hid hxl;have hxle:xs.length<=1048576:=by omega
 clear hxl;have HXR:=Lib.hid hxr;clear hxr
 go_enter Tryz.func67,Tryz.ntmps67
 go_wp2_with fail
 clear hmk
 go_loopw [11] (λi wr=>∃ (k:Nat) (cs:Array Value) (V:Nat->Value),k<=xs.length/\i = .int .i64 k/\Below w.heap.size w wr/\ML wr w.heap.size 66 cs/\cs.size=xs.length /\
   (∀ j (h:j<p.length),j<k->cs[j]? = some (V j)/\Ow Ins.cells 4 69 wr w.heap.size wr.heap.size (V j) p[j]) /\
   (∀ i j (hi:i<p.length) (hj:j<p.length),i<k->j<k->i≠j->0<p[i].length->0<p[j].length->(V i).ownBlock≠(V j).ownBlock)) (λi _=>xs.length-(intOf i).toNat)
 case atStart=>
  exact ⟨0,_,λ_ => .slice none 0 0,QB _,rfl,(Below.refl _ _).alloc (Qr _) _,ML.new _ _ _,by simp [size_madeCells],λj _ h=>absurd h (by omega),λi j _ _ h=>absurd h<|by omega⟩
 case round=>
  obtain ⟨k,cs,V,hk,rfl,hb,hB,hcs,hin,hdj⟩:=hrel;have HI:=Lib.hid hin;clear hin;have HD:=Lib.hid hdj;clear hdj;have HB:=Lib.hid hB;have HCS:=Lib.hid hcs;have hgl:=hB.lt;clear hB hcs
  by_cases hlt:k<xs.length
  ·obtain ⟨ba,oa,rfl,_,_,hba,hA⟩:=hA (by omega);have hp:k<p.length:=HX.out ▸ hlt;have ca1:=(hb.cell (p:=⟨ba,oa+k,none⟩) hba).trans<|hA k hlt;have RX:=Lib.hid<|(HXR.out k hlt hp).below hb hhi;have hr:p[k].length<=1048576:=Qu (uf p k hp) ht;clear hA;have i1:(0:Int)<=(k:Int):=by omega
   have i2:(k:Int)<(xs.length:Int):=by omega
   go_wp2_with fail
   refine (Fc RX.out hr).mono ?_;rintro e w1 ⟨⟨A1,c1,rfl,hown⟩,hq1⟩;have B1:=HB.out.below hq1 hgl;have HO:=Lib.hid hown;clear hown;have hz:k<cs.size:=by rw [HCS.out];omega
   have f0:=B1.frozen k;have e0:=B1.cell k;rw [Array.getElem?_eq_getElem (by omega)] at e0;have HB1:=Lib.hid B1;clear B1;have hw1:=hq1.size
   go_wp2_with fail
   go_roundw
   case rel=>
    refine ⟨k+1,cs.setIfInBounds k<|.slice A1 p[k].length c1,upd V k<|.slice A1 p[k].length c1,by omega,by go_num,(hb.trans<|hq1.mono hb.size).setCell (by simp) _,HB1.out.set_ _ _,?_,?_,?_⟩
    ·simp;exact HCS.out
    ·intro j h hj;have hsz:(w1.setCell ⟨w.heap.size,k,none⟩<|.slice A1 p[k].length c1).heap.size=w1.heap.size:=by simp [World.setCell]
     rw [hsz]
     by_cases e:j=k
     ·subst e;rw [upd_same];exact ⟨oU hz,(HO.out.mono (by omega)<|Qr _).setOther HB1.out (by decide) _ _⟩
     rw [upd_ne _ _ e];obtain ⟨h3,h4⟩:=HI.out j h (by omega);exact ⟨by rw [sS (by omega)];exact h3,(((h4.below hq1<|Qr _).mono (Qr _) hw1).setOther HB1.out (by decide) _ _)⟩
    intro i j hi hj hik hjk hij h1 h2
    by_cases e:i=k
    ·subst e;rw [upd_same,upd_ne _ _ (by omega)];obtain ⟨g1,_,hg1,hl1,_⟩:=HO.out.block h1;obtain ⟨g2,_,hg2,_,hl2,_⟩:=(HI.out j hj<|by omega).2.block h2;rw [hg1,hg2];intro h;injection h with h;omega
    rw [upd_ne _ _ e]
    by_cases e2:j=k
    ·subst e2;rw [upd_same];obtain ⟨g1,_,hg1,hl1,_⟩:=HO.out.block h2;obtain ⟨g2,_,hg2,_,hl2,_⟩:=(HI.out i hi<|by omega).2.block h1;rw [hg1,hg2];intro h;injection h with h;omega
    rw [upd_ne _ _ e2];exact HD.out i j hi hj (by omega) (by omega) hij h1 h2
   case measure=>simp [intOf];omega
  have hkx:k=xs.length:=by omega
  go_wp2
  go_ret
  have hX:=HX.out;exact ⟨⟨w.heap.size,cs,V,by rw [<- hX];rfl,HB.out,Qr _,by rw [<- hX];exact HCS.out,λj h=>HI.out j h (by omega),λi j hi hj=>HD.out i j hi hj (by omega)<|by omega⟩,hb⟩
section
variable {P:Program} (w:World) {α:Type} {f:α->List Value}
theorem zN {e:TypeId} {base:Nat} {size:Nat} {v':Value} {w':World} {xs:List α} (hf:∀ x,(f x).length=size) (h:w'.ownsRow base e size v' (0+xs.length)<|[]++xs.flatMap f) :
  ∃ A c,v' = .slice A xs.length c/\Ow f size e w' base w'.heap.size (.slice A xs.length c) xs:=by
 rw [Nat.zero_add,List.nil_append] at h;have h2:=Ow.of_row hf h rfl rfl;obtain ⟨A,c,rfl,r⟩:=h2;exact ⟨A,c,rfl,A,c,rfl,r⟩
theorem tG {ops:Array Oper} {rest:List Oper} {o:Oper} {a:Act} {Q:Exit->Act->World->Prop} (hgd:o.guard=none) (s x:Operand) (t:TypeId)
  (ho:o.op = .call { callee := .builtin .append,args := #[s,x],argTypes := #[t,t] })
  (base:Nat) (e:TypeId) (i:TypeInfo) (z:Value) (size bytes:Nat) (ht:P.underlying t=some (.slice e)) (hi:P.info? e=some i) (hz:i.zero=some z)
  (hsize:i.size=size) (hby:i.bytes=bytes) (hzs:z.cells.size=size) (hsz:0<size)
  (v:Value) (hs:a.eval s=v) (hown:w.ownsRow base e size v 0 [])
  (A:Option Addr) (c:Nat) (xs:List α) (hf:∀ x,(f x).length=size) (hx:a.eval x = .slice A xs.length c) (hr:Src w A xs.length<|xs.flatMap f) (h1:∀ u∈xs.flatMap f,u.oneCell'=true)
  (h63:0+xs.length<=maxLen) (hbytes:(0+xs.length)*bytes<=140737488355328) (hbase:base<=w.heap.size)
  (h:∀ A' c' w',Ow f size e w' base w'.heap.size (.slice A' xs.length c') xs->w.grownBy w' v.ownBlock->wpList P ops Q rest (a.put o.dst<|.slice A' xs.length c') w'):wpList P ops Q (o::rest) a w:=by
 refine j6 w hgd s x t ho base e i z size bytes ht hi hz hsize hby hzs hsz v 0 [] hs hown A xs.length c (xs.flatMap f) hx (pW hf xs) hr h1 h63 hbytes hbase λv' w' h2 h3 _=>?_;obtain ⟨A',c',rfl,ho'⟩:=zN hf h2;exact h A' c' w' ho' h3
end
section
variable {α:Type} {f:α->List Value} {s:Nat} {t e:TypeId} {w w':World} {lo hi:Nat} {u v:Value} {xs:List α} {base size n:Nat} {cells:List Value}
theorem Ow.grownRow (h:Ow f s t w lo hi v xs) (ho:w.ownsRow base e size u n cells) (hne:t≠e) (hg:w.grownBy w' u.ownBlock):Ow f s t w' lo hi v xs:=by
 refine h.grown hg λhn=>?_;obtain ⟨g,cur,h1,_,_,h2⟩:=h.block hn;rw [h1];rcases ho.2 with ⟨rfl,_⟩ | ⟨g',cap,cur',rfl,_,hh,_⟩
 ·simp [Value.ownBlock]
 simp only [Value.ownBlock,ne_eq,sie];rintro rfl;have h3:ML w g e cur':=hh;exact hne (h2.inj h3).1
end
theorem Src.one {w:World} {g:Nat} {t:TypeId} {u:Value} (h:ML w g t #[u]):Src w (some ⟨g,0,none⟩) 1 [u]:=by
 intro _;refine ⟨_,rfl,λj x hx=>?_⟩;rw [mO,Nat.zero_add,h.cell]
 match j,hx with
 | 0,hx=>simpa using hx
 | j+1,hx=>simp at hx
theorem Src.below {w w':World} {B m:Nat} {A:Option Addr} {news:List Value} (h:Src w A m news) (hb:Below B w w') (hB:w.heap.size<=B):Src w' A m news:=by
 intro hm;obtain ⟨ad,rfl,hc⟩:=h hm;refine ⟨ad,rfl,λj u hu=>?_⟩;have := hc j u hu;rw [hb.cell (Nat.lt_of_lt_of_le (World.block_lt_of_cell? w _ this) hB)];exact this


theorem sP.of_row {α:Type} {f:α->List Value} {s:Nat} {to ti:TypeId} {w:World} {base n:Nat} {v:Value} {p:List (List α)} {V:Nat->Value}
  (ho:w.ownsRow base to 1 v n<|(Qq n).map V) (hn:n=p.length)
  (hrow:∀ j (h:j<p.length),Ow f s ti w base w.heap.size (V j) p[j])
  (hsep:∀ i j (hi:i<p.length) (hj:j<p.length),i≠j->0<p[i].length->0<p[j].length->(V i).ownBlock≠(V j).ownBlock):sP f s to ti w base w.heap.size v p:=by
 subst hn;have hlen:((Qq p.length).map V).length=p.length:=by simp
 refine ⟨(Qq p.length).map V,Ow.of_row IZ ho hlen.symm (Ex _).symm,hlen,λk h h' => ?_,λi j hi hj hi' hj' hne h1 h2=>?_⟩
 ·have : ((Qq p.length).map V)[k]=V k:=by simp
  rw [this];exact hrow k h'
 have e1:((Qq p.length).map V)[i]=V i:=by simp
 have e2:((Qq p.length).map V)[j]=V j:=by simp
 rw [e1,e2];exact hsep i j hi' hj' hne h1 h2
theorem wW {V:Nat->Value} (k:Nat) (x:Value):(Qq<|k+1).map (upd V k x)=(Qq k).map V++[x]:=by
 rw [QW,QT]
 congr 1
 ·apply QU;intro a ha;rw [QE] at ha;exact upd_ne _ _ (by omega)
 simp [upd_same]
theorem Fe {to ti:TypeId} (hne:ti≠to) {B k n:Nat} {wr w1 w2:World} {o1 o2:Obj} {u v1:Value} {cells:List Value} {q:List (List Ins)} {V:Nat->Value} (hB:B<=wr.heap.size)
  (hI:∀ j (h:j<q.length),j<k->Ow Ins.cells 4 ti wr B wr.heap.size (V j) q[j])
  (hD:∀ i j (hi:i<q.length) (hj:j<q.length),i<k->j<k->i≠j->0<q[i].length->0<q[j].length->(V i).ownBlock≠(V j).ownBlock)
  (hk:k<q.length) (hO:Ow Ins.cells 4 ti w1 wr.heap.size w1.heap.size v1 q[k]) (hg1:(wr.alloc o1).grownBy w1<|some wr.heap.size)
  (hout:(w1.alloc o2).ownsRow B to 1 u n cells) (hg2:(w1.alloc o2).grownBy w2 u.ownBlock) :
  (∀ j (h:j<q.length),j<k+1->Ow Ins.cells 4 ti w2 B w2.heap.size (upd V k v1 j) q[j]) /\
  (∀ i j (hi:i<q.length) (hj:j<q.length),i<k+1->j<k+1->i≠j->0<q[i].length->0<q[j].length->(upd V k v1 i).ownBlock≠(upd V k v1 j).ownBlock):=by
 have s1:=hg1.size;have s2:=hg2.size;simp only [World.size_alloc] at s1 s2;refine ⟨λj h hj=>?_,λi j hi hj hik hjk hij h1 h2=>?_⟩
 ·by_cases e:j=k
  ·subst e;rw [upd_same];exact ((hO.fr ((Fr.refl 0 0 w1).alloc o2)<|by omega).grownRow hout hne hg2).mono hB (by omega)
  rw [upd_ne _ _ e];have h0:=hI j h (by omega);have h3:=(h0.fr ((Fr.refl 0 0 wr).alloc o1) (by omega)).grown hg1 (λhn=>by
   obtain ⟨g,cur,h4,_,h5,_⟩:=h0.block hn;rw [h4];intro h6;injection h6 with h6;omega)
  exact ((h3.fr ((Fr.refl 0 0 w1).alloc o2)<|by omega).grownRow hout hne hg2).mono (Qr _) (by omega)
 by_cases e:i=k
 ·subst e;rw [upd_same,upd_ne _ _ (by omega)];obtain ⟨g1,_,hg1,hl1,_⟩:=hO.block h1;obtain ⟨g2,_,hg2,_,hl2,_⟩:=(hI j hj<|by omega).block h2;rw [hg1,hg2];intro h;injection h with h;omega
 rw [upd_ne _ _ e]
 by_cases e2:j=k
 ·subst e2;rw [upd_same];obtain ⟨g1,_,hg1,hl1,_⟩:=hO.block h2;obtain ⟨g2,_,hg2,_,hl2,_⟩:=(hI i hi<|by omega).block h1;rw [hg1,hg2];intro h;injection h with h;omega
 rw [upd_ne _ _ e2];exact hD i j hi hj (by omega) (by omega) hij h1 h2
theorem kJ {lo hi:Nat} {u:Value} {p:List (List Ins)} {w:World} (t:Int) (b:Bool) (hu:sj Ins.cells 4 w lo hi u p) (hhi:hi<=w.heap.size) (ht:total p<=1048576) (hp:p.length<=1048576)
  (hb:(dh p&&MM t ((p.length:Int)-1))=b) :
  Calls Tryz.prog 66 #[u,.int .i64 t] w λe w'=>e = .returned (.bool b)/\Below w.heap.size w w':=by
 subst hb;have HU:=Lib.hid hu;obtain ⟨xs,hxs,hxl,hxr⟩:=hu;obtain ⟨A,ca,rfl,hca,hma,hA⟩:=hxs.vals;clear hxs hxr hA;have HX:=Lib.hid hxl;have hxle:xs.length<=1048576:=by omega
 clear hxl;have PV:=Lib.hid<|kG (w:=w) HU.out hhi ht
 cases hv:dh p with
 | false=>
  rw [hv] at PV
  go_enter Tryz.func66,Tryz.ntmps66
  go_wp2_with (go_at_call 16;refine PV.out.mono ?_;rintro e w1 ⟨rfl,hb⟩)
  go_ret
  exact ⟨rfl,hb⟩
 | true=>
  rw [hv] at PV;have hw:(decide (0<=t)&&decide (t<=(xs.length:Int)-1))=MM t ((p.length:Int)-1):=by rw [HX.out];rfl
  have HW:=Lib.hid hw;clear hw
  go_enter Tryz.func66,Tryz.ntmps66
  go_wp2_with (first | (go_at_call 16;refine PV.out.mono ?_;rintro e w1 ⟨rfl,hb⟩) | (go_at_call 47;refine (dO _ _ _ _ HW.out _).mono ?_;rintro e w2 ⟨rfl,rfl⟩))
  go_ret
  exact ⟨aZ (by simp),hb⟩
def GD (n i k:Int):Int:=if n=i then k else if n=k then i else n
theorem AY (n i k:Int) (w:World):Calls Tryz.prog 70 #[.int .i64 n,.int .i64 i,.int .i64 k] w λe w'=>e = .returned (.int .i64<|GD n i k)/\w=w':=by
 unfold GD
 go_enter Tryz.func70,Tryz.ntmps70
 go_wp2_with fail
 all_goals (go_ret;exact ⟨sU (by simp_all),rfl⟩)
def Ce (p:List<|List Ins) (t:Int):Bool:=dh p&&MM t ((p.length:Int)-1)
def bM (t i k:Nat):Nat:=if t=i then k else if t=k then i else t
def ig (p:List<|List Ins) (i k:Nat):List (List Ins):=(Qq p.length).map λt=>p.getD (bM t i k) []
def fE (p:List<|List Ins) (i k:Int):List (List Ins)×Bool:=if (Ce p i&&Ce p k)=true then (ig p i.toNat k.toNat,true) else ([],false)
theorem mh (p:List<|List Ins) (i k:Nat):(ig p i k).length=p.length:=by simp [ig]
theorem rP (p:List<|List Ins) (i k j:Nat) (h:j<(ig p i k).length) (h':bM j i k<p.length):(ig p i k)[j]=p[bM j i k]:=by simp [ig,h']
theorem mi {n t i k:Nat} (ht:t<n) (hi:i<n) (hk:k<n):bM t i k<n:=by unfold bM;split <;> (try split) <;> omega
theorem Ff {a b i k:Nat} (h:bM a i k=bM b i k):a=b:=by
 unfold bM at h
 split at h <;> split at h <;> (try split at h) <;> (try split at h) <;> omega
set_option maxHeartbeats 1000000 in
theorem qd {lo hi:Nat} {u:Value} {p:List (List Ins)} {w:World} (i k:Int) (hu:sj Ins.cells 4 w lo hi u p) (hhi:hi<=w.heap.size) (ht:total p<=1048576) (hp:p.length<=1048576) :
  Calls Tryz.prog 23 #[u,.int .i64 i,.int .i64 k] w λe w'=>(∃ v,e = .returned (.tuple #[v,.bool (fE p i k).2])/\sP Ins.cells 4 66 69 w' w.heap.size w'.heap.size v (fE p i k).1)/\Below w.heap.size w w':=by
 have HU:=Lib.hid hu;clear hu
 by_cases h1:Ce p i=true
 ·by_cases h2:Ce p k=true
  ·have hr:fE p i k=(ig p i.toNat k.toNat,true):=by unfold fE;rw [h1,h2];rfl
   have hi:=h1;have hk:=h2;simp only [Ce,MM,bae,dte] at hi hk;obtain ⟨hv,hi0,hi1⟩:=hi;obtain ⟨_,hk0,hk1⟩:=hk;obtain ⟨a,rfl⟩:=Q9 hi0;obtain ⟨b,rfl⟩:=Q9 hk0;rw [hr];simp only [tnn];have ha:a<p.length:=by omega
   have hb':b<p.length:=by omega
   have H1:=Lib.hid h1;clear h1;have H2:=Lib.hid h2;clear h2 hv hr;have a0:(0:Int)<=(a:Int):=by omega
   have a1:(a:Int)<(p.length:Int):=by omega
   have b0:(0:Int)<=(b:Int):=by omega
   have b1:(b:Int)<(p.length:Int):=by omega
   go_enter Tryz.func23,Tryz.ntmps23
   go_wp2_with fail
   refine (kJ _ true HU.out hhi ht hp H1.out).mono ?_;rintro e w1 ⟨rfl,hb1⟩
   go_wp2_with fail
   refine (kJ _ true (HU.out.below hb1 hhi) (Qu hhi hb1.size) ht hp H2.out).mono ?_;rintro e w2 ⟨rfl,hb2⟩;have s1:=hb1.size;have s2:=hb2.size
   go_wp2_with fail
   refine (ut ((HU.out.below hb1 hhi).below hb2<|by omega) (by omega) hp ht).mono ?_;rintro e w3 ⟨⟨g,cs,V,rfl,hB,hg,hcs,hrow,hsep⟩,hb3⟩;have HROW:=Lib.hid hrow;clear hrow;have HSEP:=Lib.hid hsep;clear hsep;have HB:=Lib.hid hB;clear hB;have HCS:=Lib.hid hcs;clear hcs;have c1:=HB.out.cell a;have c2:=HB.out.cell b;rw [(HROW.out a ha).1] at c1;rw [(HROW.out b hb').1] at c2;have f1:=HB.out.frozen a;have f2:=HB.out.frozen b;obtain ⟨A1,n1,hv1,_⟩:=(HROW.out a ha).2;obtain ⟨A2,n2,hv2,_⟩:=(HROW.out b hb').2;rw [hv1] at c1;rw [hv2] at c2;have HV1:=Lib.hid hv1;clear hv1;have HV2:=Lib.hid hv2;clear hv2;obtain ⟨x1,hx1⟩:=cell?_setCell_some (w:=w3) (p:=⟨g,a,none⟩) (x:=.slice A2 p[b].length n2) (q:=⟨g,b,none⟩) (v:=.slice A2 p[b].length n2) (by go_simp)
   go_wp2_with fail
   go_region
   go_wp2
   go_ret2
   have s3:=hb3.size;refine ⟨⟨_,rfl,?_⟩,?_⟩
   ·have hsz:((w3.setCell ⟨g,a,none⟩<|.slice A2 p[b].length n2).setCell ⟨g,b,none⟩<|.slice A1 p[a].length n1).drew.heap.size=w3.heap.size:=by simp [World.setCell]
    rw [hsz];have hlen:(ig p a b).length=p.length:=mh p a b;have hB2:=((HB.out.set_ a<|.slice A2 p[b].length n2).set_ b<|.slice A1 p[a].length n1).drew;have hM:=sP.made2 (f:=Ins.cells) (s:=4) (ti:=69) (p:=ig p a b) (c:=p.length) (V:=λj=>V<|bM j a b) hB2 (lo:=w.heap.size) (hi:=w3.heap.size) ⟨by omega,HB.out.lt⟩ (by simp;exact HCS.out) (by omega) (by omega)
     (λj h=>?_) (λi j hi hj hij h1 h2=>?_)
    ·rw [hlen] at hM;exact hM
    ·have hj:j<p.length:=by omega
     have ht2:=mi hj ha hb';refine ⟨?_,?_⟩
     ·have hsz2:cs.size=p.length:=HCS.out
      by_cases e:j=b
      ·subst e;rw [oU (by simp;omega)];show _=some (V<|bM j a j);rw [show bM j a j=a from by unfold bM;split <;> simp_all,HV1.out]
      rw [sS (by omega)]
      by_cases e2:j=a
      ·subst e2;show _=some (V<|bM j j b);rw [oU (by omega),show bM j j b=b from by simp [bM],HV2.out]
      rw [sS (by omega)];have : bM j a b=j:=by simp [bM,e,e2]
      rw [this];exact (HROW.out j hj).1
     rw [rP p a b j h ht2];exact ((((HROW.out _ ht2).2.setOther HB.out (by decide) a _).setOther (HB.out.set_ a _) (by decide) b _).fr (Fr.refl 0 0 _).drew<|by omega).mono (by omega)<|Qr _
    have hi':i<p.length:=by omega
    have hj':j<p.length:=by omega
    have hti:=mi hi' ha hb';have htj:=mi hj' ha hb';rw [rP p a b i hi hti] at h1;rw [rP p a b j hj htj] at h2;exact HSEP.out _ _ hti htj (λh=>hij<|Ff h) h1 h2
   have g1:=hb1.trans<|hb2.mono s1;have g2:=g1.trans<|hb3.mono g1.size;exact ((g2.setCell (by simp;omega) _).setCell (by simp;omega) _).drew
  have hr:fE p i k=([],false):=by unfold fE;simp [h2]
  rw [hr];have H1:=Lib.hid h1;clear h1;have h2':Ce p k=false:=by simpa using h2
  have H2:=Lib.hid h2';clear h2 h2' hr
  go_enter Tryz.func23,Tryz.ntmps23
  go_wp2_with fail
  refine (kJ _ true HU.out hhi ht hp H1.out).mono ?_;rintro e w1 ⟨rfl,hb1⟩
  go_wp2_with fail
  refine (kJ _ false (HU.out.below hb1 hhi) (Qu hhi hb1.size) ht hp H2.out).mono ?_;rintro e w2 ⟨rfl,hb2⟩
  go_wp2_with fail
  go_ret2
  exact ⟨⟨_,rfl,sP.uW _ _<|by omega⟩,hb1.trans<|hb2.mono hb1.size⟩
 have hr:fE p i k=([],false):=by unfold fE;simp [h1]
 rw [hr];have h1':Ce p i=false:=by simpa using h1
 have H1:=Lib.hid h1';clear h1 h1' hr
 go_enter Tryz.func23,Tryz.ntmps23
 go_wp2_with fail
 refine (kJ _ false HU.out hhi ht hp H1.out).mono ?_;rintro e w1 ⟨rfl,hb1⟩
 go_wp2_with fail
 go_ret2
 exact ⟨⟨_,rfl,sP.uW _ _<|by omega⟩,hb1⟩



section
variable {w:World} {g:Nat} {t:TypeId} {cs:Array Value}
end


section
variable {α β:Type} [Inhabited β] {f:α->List Value} {s:Nat} {c:β->List AV} {w:World} {fz:Nat->Prop} {v:Value}
theorem qB {u x:Value} (h:FRel w fz (.v u) x):x=u:=by
 cases h with
 | v _=>rfl
theorem xQ {e:β->α} (hf:∀ x,c x=(f<|e x).map AV.v) (hs:∀ x,(f<|e x).length=s) {l:List β} (h:FRel w fz (eL c l) v):Sl f s w 0 w.heap.size v (l.map e):=by
 unfold eL at h
 cases h with
 | sl us hc hm ha hr hu h1 h=>
  refine ⟨_,_,by rw [llm],by simpa using hc,hm,λhn=>?_⟩;rw [llm] at hn;obtain ⟨rfl,hg,hlt⟩:=ha hn;refine ⟨_,_,rfl,QB _,hlt,hlt,λk hk j u hu' => ?_⟩;rw [llm] at hk;rw [QQ] at hu';have hk0:l.getD k default=l[k]:=by simp [List.getD,hk]
  have hrow:(c<|l.getD k default)[j]? = some (.v u):=by rw [hk0,hf,QZ,hu'];rfl
  have hs':=hr k hk
  dsimp only at hs'
  rw [hf,llm,hs] at hs';subst hs';have h2:=hu k j _ hk hrow;rw [qB (h k j _ hk hrow)] at h2;exact h2
theorem kK {e:β->α} (hf:∀ x,c x=(f<|e x).map AV.v) (hs:∀ x,(f<|e x).length=s) {l:List (List β)} (h:FRel w fz (eL (cL c) l) v):sj f s w 0 w.heap.size v (l.map λr=>r.map e):=by
 unfold eL at h
 cases h with
 | sl us hc hm ha hr hu h1 h=>
  refine ⟨(Qq l.length).map λi=>us i 0,?_,by simp,λk hk hk' => ?_⟩
  ·refine ⟨_,_,by rw [llm,QH],by simpa using hc,hm,λhn=>?_⟩;rw [llm,QH] at hn;obtain ⟨rfl,hg,hlt⟩:=ha hn;refine ⟨_,_,rfl,QB _,hlt,hlt,λk hk j u hu' => ?_⟩;rw [llm,QH] at hk;rw [QQ,List.getElem_range] at hu';have hs':=hr k hk;change 1=_ at hs';subst hs'
   match j with
   | 0=>
    have h2:=hu k 0 _ hk rfl;rw [h2];simpa [Gh] using hu'
   | j+1=>simp [Gh] at hu'
  rw [llm,QH] at hk;rw [QQ,QQ,List.getElem_range];have h2:=h k 0 _ hk rfl;have hk0:l.getD k default=l[k]:=by simp [List.getD,hk]
  rw [hk0] at h2;exact xQ hf hs h2
theorem Db {e:α->β} (hf:∀ x,c (e x)=(f x).map AV.v) (hs:∀ x,(f x).length=s) (hp:∀ x,∀ u∈f x,plain u=true) {l:List α} {hi:Nat} (h:Sl f s w 0 hi v l):FRel w (λg=>g<w.heap.size) (eL c<|l.map e) v:=by
 obtain ⟨A,cap,rfl,hc,hm,h⟩:=h;have key:∀ (g o:Nat),(0<l.length->A=some ⟨g,o,none⟩/\g<w.heap.size/\∀ (k:Nat) (h:k<l.length) (j:Nat) (u:Value),(f l[k])[j]? = some u->w.cell? ⟨g,o+k*s+j,none⟩=some u)->FRel w (λg=>g<w.heap.size) (eL c<|l.map e) (.slice A l.length cap):=by
  intro g o hh;have hrow:∀ (i j:Nat) (a:AV),i<l.length->(c<|(l.map e).getD i default)[j]? = some a->∃ u,l[i]?.bind (λx=>(f x)[j]?)=some u/\a = .v u/\plain u=true/\w.cell? ⟨g,o+i*s+j,none⟩=some u:=by
   intro i j a hi ha;have h0:(l.map e).getD i default=e l[i]:=by simp [List.getD,hi]
   rw [h0,hf,QZ] at ha
   cases hq:(f l[i])[j]? with
   | none=>rw [hq] at ha;cases ha
   | some u=>
    rw [hq] at ha;refine ⟨u,by rw [geq hi];exact hq,(osl ha).symm,hp _ u<|QJ hq,(hh<|by omega).2.2 i hi j u hq⟩
  have e0:(l.map e).length=l.length:=by simp
  unfold eL;rw [e0];refine FRel.sl (s:=s) (g:=g) (o:=o) (λi j=>(l[i]?.bind λx=>(f x)[j]?).getD<|.bool false) hc hm (λhn=>⟨(hh hn).1,(hh hn).2.1,(hh hn).2.1⟩) (λi hi=>?_) (λi j a hi ha=>?_) (λi j a hi ha=>?_) λi j a hi ha=>?_
  ·have h0:(l.map e).getD i default=e l[i]:=by simp [List.getD,hi]
   rw [h0,hf,llm,hs]
  ·obtain ⟨u,h1,h2,h3,h4⟩:=hrow i j a hi ha;simp only [h1,Qx];exact h4
  ·obtain ⟨u,h1,h2,h3,h4⟩:=hrow i j a hi ha;simp only [h1,Qx];exact qZ h3
  obtain ⟨u,h1,h2,h3,h4⟩:=hrow i j a hi ha;subst h2;simp only [h1,Qx];exact .v h3
 by_cases h0:0<l.length
 ·obtain ⟨b,o,hA,_,_,hlt,hcell⟩:=h h0;exact key b o λ_=>⟨hA,hlt,hcell⟩
 exact key 0 0 λh1=>absurd h1 h0
theorem yB {P:Program} {g:FuncId} {ars:List AV} {r:AV} (h:aW P g ars r) (vs:Array Value) (hl:vs.size=ars.length) (hr:∀ (i:Nat) (a:AV) (v:Value),ars[i]? = some a->vs[i]? = some v->FRel w (λg=>g<w.heap.size) a v) (hgl:Gl w (λg=>g<w.heap.size):=by exact DL) :
  Calls P g vs w λe w'=>∃ v fz',e = .returned v/\Below w.heap.size w w'/\FRel w' fz' r v:=
 (h.2 w _ vs (λg hg=>hg) hgl hl hr).mono λe w' ⟨v,fz',h1,h2,h3,_⟩=>⟨v,fz',h1,h2,h3⟩
theorem LF {a:AV} {u:Value} (h:FRel w fz a u):∀ (i:Nat) (a':AV) (v:Value),[a][i]? = some a' -> #[u][i]? = some v->FRel w fz a' v:=by
 intro i a' v h1 h2
 match i with
 | 0=>
  obtain rfl:=osl h1;obtain rfl:u=v:=by simpa using h2
  exact h
 | i+1=>simp at h1
end
theorem Dc {w:World} {v:Value} {hi:Nat} {l:LI} (h:Sl AA 1 w 0 hi v l):FRel w (λg=>g<w.heap.size) (eL cY l) v:=by
 have := Db (f:=AA) (s:=1) (c:=cY) (e:=id) (λ_=>rfl) (λ_=>rfl) (λx u hu=>by simp [AA] at hu;subst hu;rfl) h
 rwa [List.map_id] at this
theorem AZ {P:Program} {g:FuncId} {ars:List AV} {w:World} {vs:Array Value} (h:aW P g ars<|Bo true) (hl:vs.size=ars.length) (hr:∀ (i:Nat) (a:AV) (v:Value),ars[i]? = some a->vs[i]? = some v->FRel w (λg=>g<w.heap.size) a v) (hgl:Gl w (λg=>g<w.heap.size):=by exact DL) :
  Calls P g vs w λe w'=>e = .returned (.bool true)/\Below w.heap.size w w':=
 (yB h vs hl hr hgl).mono λe w' ⟨v,fz',h1,h2,h3⟩=>⟨by rw [h1,qB h3],h2⟩
section
variable {α β:Type} [Inhabited β] {f:α->List Value} {s:Nat} {c:β->List AV} {w:World} {fz:Nat->Prop} {v:Value}
theorem A7 {e:α->β} (hf:∀ x,c (e x)=(f x).map AV.v) (hs:∀ x,(f x).length=s) (hp:∀ x,∀ u∈f x,plain u=true) {l:List α} {lo hi:Nat} (hfz:∀ g,lo<=g->g<hi->fz g) (h:Sl f s w lo hi v l):FRel w fz (eL c<|l.map e) v:=by
 obtain ⟨A,cap,rfl,hc,hm,h⟩:=h;have key:∀ (g o:Nat),(0<l.length->A=some ⟨g,o,none⟩/\(fz g/\g<w.heap.size)/\∀ (k:Nat) (h:k<l.length) (j:Nat) (u:Value),(f l[k])[j]? = some u->w.cell? ⟨g,o+k*s+j,none⟩=some u)->FRel w fz (eL c<|l.map e) (.slice A l.length cap):=by
  intro g o hh;have hrow:∀ (i j:Nat) (a:AV),i<l.length->(c<|(l.map e).getD i default)[j]? = some a->∃ u,l[i]?.bind (λx=>(f x)[j]?)=some u/\a = .v u/\plain u=true/\w.cell? ⟨g,o+i*s+j,none⟩=some u:=by
   intro i j a hi ha;have h0:(l.map e).getD i default=e l[i]:=by simp [List.getD,hi]
   rw [h0,hf,QZ] at ha
   cases hq:(f l[i])[j]? with
   | none=>rw [hq] at ha;cases ha
   | some u=>
    rw [hq] at ha;refine ⟨u,by rw [geq hi];exact hq,(osl ha).symm,hp _ u<|QJ hq,(hh<|by omega).2.2 i hi j u hq⟩
  have e0:(l.map e).length=l.length:=by simp
  unfold eL;rw [e0];refine FRel.sl (s:=s) (g:=g) (o:=o) (λi j=>(l[i]?.bind λx=>(f x)[j]?).getD<|.bool false) hc hm (λhn=>⟨(hh hn).1,(hh hn).2.1.1,(hh hn).2.1.2⟩) (λi hi=>?_) (λi j a hi ha=>?_) (λi j a hi ha=>?_) λi j a hi ha=>?_
  ·have h0:(l.map e).getD i default=e l[i]:=by simp [List.getD,hi]
   rw [h0,hf,llm,hs]
  ·obtain ⟨u,h1,h2,h3,h4⟩:=hrow i j a hi ha;simp only [h1,Qx];exact h4
  ·obtain ⟨u,h1,h2,h3,h4⟩:=hrow i j a hi ha;simp only [h1,Qx];exact qZ h3
  obtain ⟨u,h1,h2,h3,h4⟩:=hrow i j a hi ha;subst h2;simp only [h1,Qx];exact .v h3
 by_cases h0:0<l.length
 ·obtain ⟨b,o,hA,h1,h2,hlt,hcell⟩:=h h0;exact key b o λ_=>⟨hA,⟨hfz b h1 h2,hlt⟩,hcell⟩
 exact key 0 0 λh1=>absurd h1 h0
end
theorem De {α β:Type} [Inhabited β] {f:α->List Value} {s:Nat} {c:β->List AV} {e:α->β} (hf:∀ x,c (e x)=(f x).map AV.v) (hs:∀ x,(f x).length=s) (hp:∀ x,∀ u∈f x,plain u=true) {w:World} {v:Value} {l:List (List α)} {lo hi:Nat} {fz:Nat->Prop} (hfz:∀ g,lo<=g->g<hi->fz g) (h:sj f s w lo hi v l) :
  FRel w fz (eL (cL c)<|l.map λr=>r.map e) v:=by
 obtain ⟨xs,⟨A,cap,rfl,hc,hm,h⟩,hl,hr⟩:=h;have e0:(l.map λr=>r.map e).length=xs.length:=by rw [llm,hl]
 have key:∀ (g o:Nat),(0<xs.length->A=some ⟨g,o,none⟩/\(fz g/\g<w.heap.size)/\∀ (k:Nat) (h:k<xs.length),w.cell? ⟨g,o+k*1+0,none⟩=some xs[k])->FRel w fz (eL (cL c)<|l.map λr=>r.map e) (.slice A xs.length cap):=by
  intro g o hh;unfold eL;rw [e0];have hg:∀ i (h:i<xs.length),(l.map λr=>r.map e).getD i default=(l[i]'(by omega)).map e:=λi h=>by simp [List.getD,show i<l.length by omega]
  have one:∀ (i j:Nat) (a:AV),(cL c<|(l.map λr=>r.map e).getD i default)[j]? = some a->j=0/\a=eL c ((l.map λr=>r.map e).getD i default):=λi j a ha=>by
   match j with
   | 0=>exact ⟨rfl,(osl ha).symm⟩
   | j+1=>simp [cL] at ha
  have us:∀ i (h:i<xs.length),(xs[i]?.getD<|.bool false)=xs[i]:=λi h=>by simp [h]
  have ho:∀ i (h:i<xs.length),∃ A n k,xs[i] = .slice A n k:=λi h=>by
   obtain ⟨A,k,he,_⟩:=hr i h (by omega);exact ⟨A,_,k,he⟩
  refine FRel.sl (s:=1) (g:=g) (o:=o) (λi _=>xs[i]?.getD<|.bool false) hc hm (λhn=>⟨(hh hn).1,(hh hn).2.1.1,(hh hn).2.1.2⟩) (λi hi=>rfl) (λi j a hi ha=>?_) (λi j a hi ha=>?_) λi j a hi ha=>?_
  ·obtain ⟨rfl,_⟩:=one i j a ha;rw [us i hi];exact (hh<|by omega).2.2 i hi
  ·rw [us i hi];obtain ⟨A,n,k,he⟩:=ho i hi;rw [he]
   rfl
  obtain ⟨rfl,rfl⟩:=one i j a ha;rw [us i hi,hg i hi];exact A7 hf hs hp hfz<|hr i hi (by omega)
 by_cases h0:0<xs.length
 ·obtain ⟨b,o,hA,h1,h2,hlt,hcell⟩:=h h0;exact key b o λ_=>⟨hA,⟨hfz b h1 h2,hlt⟩,λk hk=>hcell k hk 0 _ rfl⟩
 exact key 0 0 λh1=>absurd h1 h0
def Df (x:Ins):MI:=⟨x.op,x.loc,x.reg,x.val⟩
abbrev toP (p:List<|List MI):List (List Ins):=p.map λr=>r.map gq
abbrev ofP (p:List<|List Ins):List (List MI):=p.map λr=>r.map Df
theorem Fg {w:World} {v:Value} {p:List (List Ins)} {lo hi:Nat} {fz:Nat->Prop} (hfz:∀ g,lo<=g->g<hi->fz g) (h:sj Ins.cells 4 w lo hi v p):FRel w fz (eL (cL MI.c)<|ofP p) v:=
 De (f:=Ins.cells) (s:=4) (c:=MI.c) (e:=Df) (λ_=>rfl) (λ_=>rfl) (λx u hu=>by simp [Ins.cells] at hu;rcases hu with rfl | rfl | rfl | rfl <;> rfl) hfz h
theorem GF {w:World} {fz:Nat->Prop} {a b:AV} {u v:Value} (ha:FRel w fz a u) (hb:FRel w fz b v):FRel w fz (.tup [a,b]) (.tuple #[u,v]):=by
 refine .tup rfl λi c x hc hx=>?_
 match i with
 | 0=>
  obtain rfl:=osl hc;obtain rfl:u=x:=by simpa using hx
  exact ha
 | 1=>
  obtain rfl:=osl hc;obtain rfl:v=x:=by simpa using hx
  exact hb
 | i+2=>simp at hc
theorem Cf {P:Program} {g:FuncId} {ars:List AV} {r:List (List Ins)×Bool} {to ti:TypeId} (hc:eG P g=true) (h:∀ (w:World) (fz:Nat->Prop) (vs:Array Value),vs.size=ars.length->(∀ (i:Nat) (a:AV) (v:Value),ars[i]? = some a->vs[i]? = some v->FRel w fz a v) ->
  Calls P g vs w λe w'=>(∃ v,e = .returned (.tuple #[v,.bool r.2])/\sP Ins.cells 4 to ti w' w.heap.size w'.heap.size v r.1)/\Below w.heap.size w w'):aW P g ars (.tup [eL (cL MI.c) (ofP r.1),Bo r.2]):=by
 refine ⟨hc,λw fz vs hlt _ hl hrel=>(h w fz vs hl hrel).mono λe w' ⟨⟨v,he,ho⟩,hb⟩ => ?_⟩;have hfz:∀ g,w.heap.size<=g->g<w'.heap.size->(λg=>fz g\/(w.heap.size<=g/\g<w'.heap.size)) g:=λg h1 h2 => .inr ⟨h1,h2⟩;refine ⟨_,λg=>fz g\/(w.heap.size<=g/\g<w'.heap.size),he,hb,GF (Fg hfz ho.sl)<|.v rfl,λg hg => .inl hg,λg hg=>?_,λg hg=>?_⟩
 ·rcases hg with hg | hg
  ·exact .inl hg
  exact .inr hg.1
 rcases hg with hg | hg
 ·exact Nat.lt_of_lt_of_le (hlt g hg) hb.size
 exact hg.2
theorem Fh {w:World} {fz:Nat->Prop} {vs:Array Value} {a:AV} {t i:Int} (hl:vs.size=[a,I t,I i].length) (hrel:∀ (j:Nat) (c:AV) (v:Value),[a,I t,I i][j]? = some c->vs[j]? = some v->FRel w fz c v):∃ u,vs = #[u,.int .i64 t,.int .i64 i]:=by
 obtain ⟨l⟩:=vs
 match l,hl with
 | [x,y,z],_=>
  have e1:=qB<|hrel 1 _ y rfl rfl;have e2:=qB<|hrel 2 _ z rfl rfl;subst e1 e2;exact ⟨x,rfl⟩
section
variable {f:Ins->Ins}
end
open Go.RowKit
open Go.RowKit
def gW (p:List<|List MI) (i k:Int):Option (List (List MI)×Bool):=gd (decide<|p.length<=1048576/\total p<=1048576)<|some (ofP (fE (toP p) i k).1,(fE (toP p) i k).2)
def gX (p:List<|List MI) (i k:Int):Option (List (List MI)×Bool):=gd (decide<|p.length<=1048576/\total p<=1048576)<|some (ofP (fE (toP p) i k).1,(fE (toP p) i k).2)
def Dg (p:List<|List MI):Bool:=decide (p.length<=1048576)&&p.all λr=>decide<|r.length<=1048576
def FY (p:List<|List MI) (i:Nat) (x:List MI):List (List MI):=p.set i<|p.getD i []++x
def ij (r_:ak) (p:List<|List MI):Option (ak×List (List MI)):= gd (Dg p) <|bif Nat.beq p.length 0 then some (r_,p) else Qs (aP r_ (p.length:Int)) λv1=>Qs (aP v1.1 (40:Int)) λv2=>gd (decide<|0<=v1.2/\v1.2<(p.length:Int)) <|bif v2.2==(0:Int) then Qs (bG v2.1 ([(0:Int),(6:Int),(1:Int),(4:Int)]:LI)) λa=>Qs (bG a.1 ([(0:Int),(3:Int),(-1:Int)]:LI)) λb=>some (b.1,FY p v1.2.toNat [⟨a.2,b.2,0,0⟩]) else bif v2.2==(1:Int) then Qs (bG v2.1 ([(4:Int),(-1:Int),(3:Int)]:LI)) λa=>some (a.1,FY p v1.2.toNat [⟨2,0,0,a.2⟩]) else bif v2.2==(2:Int) then some (v2.1,p++QO (4-p.length) []) else bif v2.2==(3:Int) then some (v2.1,FY p v1.2.toNat<|QO (8-(p.getD v1.2.toNat []).length) ⟨1,0,0,0⟩) else bif v2.2==(4:Int) then some (v2.1,(p.drop 1).take<|p.length-1) else some (v2.1,p)
def nV (a:LI) (b:LI):LS Int (Unit ⊕ Bool):=λs5=>bif decide (s5<(a.length:Int)) then gd (decide<|0<=s5/\s5<(a.length:Int)) <|gd (decide<|0<=s5/\s5<(b.length:Int)) <|bif ((a.getD s5.toNat default) != (b.getD s5.toNat default)) then some (.inr<|.inr false) else gd (MG .i64<|s5+(1:Int)) <|some (.inl<|s5+(1:Int)) else some (.inr<|.inl ())
def lj (a:LI) (b:LI):Option Bool:= bif ((a.length:Int) != (b.length:Int)) then some false else sumK (bA (nV a b) (0:Int)) λs2=>some true
end
end Go.Proofs.YtjcmfddobaplbaaGreat
