/- Texts joined. No conditions. -/
import Derived.Test.YtjcmfddobaplbaaGreatProg
import Derived.Lib.Bytealg
import Derived.Laws.Externs
import Derived.Deep.RegionWith
import Derived.WalkKit
import Derived.RangeFuncNested
import Derived.RangeFuncBound
import Derived.RangeFuncCalls
import Derived.RangeFuncLeaves
import Derived.RangeFuncBox
import Derived.OwnWalkIn
import Derived.TacticsInMore
import Derived.LoopNIn
import Derived.LoopIn
import Derived.Shelf.Abstract
import Derived.Shelf.RegionOpen
import Derived.ChangeSame
import Derived.ChangeSlices
import Derived.WideKeyArgs
import Derived.Carry
import Derived.Deep.Slices
import Derived.Deep.Fields
import Derived.ProofKit
import Derived.OpenShut
import Derived.BigRegion
import Derived.Sort.Row
import Derived.Sort.Grow
import Derived.Shelf.SortM.Plain
import Derived.Shelf.SortM.SortNone
import Derived.Shelf.SlSortCmp.NoneTotal
import Derived.Test.YtjcmfddobaplbaaGreatK7
namespace Go.Proofs.YtjcmfddobaplbaaGreat
noncomputable section
open _root_.Option renaming bind -> Mi, map_some -> MP
open _root_.List renaming replicate -> Mj, getElem?_cons_succ -> Mm, getElem?_map -> Mr, all_eq_true -> Mv, getElem_mem -> Mw, getElem_map -> Mx, mem_map -> My, append_assoc -> MC, size_toArray -> ME, length_nil -> MF, push_toArray -> MK, append_toArray -> ML, nil_append -> MM, cons_append -> MN, mem_range -> MR, getElem_of_mem -> MU, getElem?_set_ne -> MV, contains_eq_mem -> MW, replicate_succ' -> M3, length_reverse -> M4, mem_append_left -> M6, mem_append_right -> M7
open _root_.Nat renaming le_refl -> Mk, zero_le -> Ml, lt_of_lt_of_le -> MB, reduceAdd -> MG, reduceSub -> MH, lt_or_ge -> MO, le_trans -> MQ, add_lt_add_iff_right -> MZ, ble_eq_true_of_le -> M0
open _root_.Bool renaming true_and -> Mo, not_eq_true' -> Mq, false_and -> Ms, or_eq_true -> Mt, or_eq_false_iff -> MS
open _root_.Array renaming replicate_succ -> MI, replicate_zero -> MJ, getElem?_eq_some_iff -> MX
open _root_.Int renaming tdiv_eq_ediv_of_nonneg -> M5
set_option maxHeartbeats 4000000
open Go.RowKit
set_option maxRecDepth 100000
def kW (code:LI):Option ((List<|List GY)×Int×Int):= Mi (ek code) λv1=>Mi (iy (⟨v1.b,v1.p⟩:aa)) λv2=>Mi (eP (⟨v2.1.b,v2.1.p⟩:aa) v2.2) λv3=>Mi (aR (⟨v3.1.b,v3.1.p⟩:aa) ([(0:Int),(1:Int),(0:Int),(2:Int),(-1:Int)]:LI)) λv4=>Mi (aR (⟨v4.1.b,v4.1.p⟩:aa) ([(1:Int),(0:Int),(2:Int),(3:Int)]:LI)) λv5=>some (v3.2,v4.2,v5.2)
def dc (code:LI):Option ((List<|List GY)×Int×Int×ByteArray):= Mi (kW code) λv1=>Mi (ek code) λv2=>gd (decide<|(2:Int)≠0) <|Mi (gI (⟨v2.b,v2.p⟩:aa) ([(⟨#[116,115,111]⟩:ByteArray),(⟨#[112,115,111]⟩:ByteArray),(⟨#[112,115,111]⟩:ByteArray),(⟨#[116,115,111]⟩:ByteArray),(⟨#[115,101,113]⟩:ByteArray),(⟨#[]⟩:ByteArray)]:List ByteArray)) λv4=>some (v1.1,v1.2.1,(v1.2.2.tmod (2:Int)),v4.2)
def jm (p:List<|List GY) (t:Int):Option Bool:= Mi (av p) λv1=>Mi (bif v1 then gd (GV .i64<|(p.length:Int)-(1:Int)) <|Mi (gJ t (0:Int)<|(p.length:Int)-(1:Int)) λv5=>some v5 else some false) λs2=>some s2
def dY (p:List<|List GY) (t:Int) (i:Int):Option Bool:= Mi (jm p t) λv1=>Mi (bif v1 then gd (decide<|0<=t/\t<(p.length:Int)) <|gd (GV .i64<|((p.getD t.toNat default).length:Int)-(2:Int)) <|Mi (gJ i (0:Int)<|((p.getD t.toNat default).length:Int)-(2:Int)) λv6=>some v6 else some false) λs2=>some s2
def ik (name:ByteArray):Option Bool:= Mi (bif decide (name=(⟨#[116,115,111]⟩:ByteArray)) then some true else some (decide<|name=(⟨#[112,115,111]⟩:ByteArray))) λs1=>some s1
def fq (p:List<|List GY) (t:Int) (i:Int) (name:ByteArray):Option Bool:= Mi (dY p t i) λv1=>bif !v1 then some false else gd (decide<|0<=t/\t<(p.length:Int)) <|gd (decide<|0<=i/\i<((p.getD t.toNat default).length:Int)) <|gd (GV .i64<|i+(1:Int)) <|gd (decide<|0<=(i+(1:Int))/\(i+(1:Int))<((p.getD t.toNat default).length:Int)) <|Mi (bif ((((p.getD t.toNat default).getD i.toNat default).Op) != (2:Int)) then some ((((p.getD t.toNat default).getD i.toNat default).Op) != (3:Int)) else some false) λs7=>Mi (bif s7 then some true else some ((((p.getD t.toNat default).getD i.toNat default).Loc)==(((p.getD t.toNat default).getD (i+(1:Int)).toNat default).Loc))) λs9=>Mi (bif s9 then some true else Mi (bif ((((p.getD t.toNat default).getD i.toNat default).Op)==(3:Int)) then Mi (bB (⟨((p.getD t.toNat default).getD (i+(1:Int)).toNat default).Op,((p.getD t.toNat default).getD (i+(1:Int)).toNat default).Loc,((p.getD t.toNat default).getD (i+(1:Int)).toNat default).Reg,((p.getD t.toNat default).getD (i+(1:Int)).toNat default).Val⟩:GY)) λv15=>some v15 else some false) λs13=>Mi (bif s13 then some ((((p.getD t.toNat default).getD i.toNat default).Reg)==(((p.getD t.toNat default).getD (i+(1:Int)).toNat default).Reg)) else some false) λs16=>some s16) λs11=>bif s11 then some false else bif ((((p.getD t.toNat default).getD (i+(1:Int)).toNat default).Op)==(1:Int)) then Mi (ik name) λv20=>some v20 else Mi (bif ((((p.getD t.toNat default).getD (i+(1:Int)).toNat default).Op)==(2:Int)) then some ((((p.getD t.toNat default).getD (i+(1:Int)).toNat default).Op)==(2:Int)) else some ((((p.getD t.toNat default).getD (i+(1:Int)).toNat default).Op)==(3:Int))) λs21=>bif s21 then some (decide<|name=(⟨#[112,115,111]⟩:ByteArray)) else some false
def nL (n:Int) (most:Int):Option Bool:= Mi (bif decide ((0:Int)<=n) then some (decide<|n<=most) else some false) λs1=>some s1
def gT (x:GY):Option Bool:= Mi (bif (x.Op==(2:Int)) then some true else some (x.Op==(3:Int))) λs1=>some s1
def jo (a:GY) (b:GY):Option Bool:= bif (a.Loc==b.Loc) then some false else Mi (bU a) λv2=>Mi (bif v2 then Mi (bU b) λv5=>some v5 else some false) λs3=>Mi (bif s3 then some (a.Reg==b.Reg) else some false) λs6=>Mi (bU a) λv8=>Mi (bif v8 then some (b.Op==(3:Int)) else some false) λs9=>Mi (bif s9 then some (a.Reg==b.Reg) else some false) λs11=>Mi (bif s11 then some true else Mi (bU b) λv15=>Mi (bif v15 then some (a.Op==(3:Int)) else some false) λs16=>Mi (bif s16 then some (a.Reg==b.Reg) else some false) λs18=>some s18) λs13=>Mi (bif !s6 then some (!s13) else some false) λs20=>some s20
def dJ (p:List<|List GY) (t:Int) (i:Int) (name:ByteArray):Option Bool:= Mi (aV p) λv1=>Mi (bif !v1 then some true else gd (GV .i64<|(p.length:Int)-(1:Int)) <|Mi (nL t<|(p.length:Int)-(1:Int)) λv5=>some<|!v5) λs2=>Mi (bif s2 then some true else some (decide<|i<(0:Int))) λs6=>Mi (bif s6 then some true else gd (decide<|0<=t/\t<(p.length:Int)) <|gd (GV .i64<|((p.getD t.toNat default).length:Int)-(1:Int)) <|some<|decide<|(((p.getD t.toNat default).length:Int)-(1:Int))<=i) λs8=>bif s8 then some false else gd (decide<|0<=t/\t<(p.length:Int)) <|gd (decide<|0<=i/\i<((p.getD t.toNat default).length:Int)) <|gd (GV .i64<|i+(1:Int)) <|gd (decide<|0<=(i+(1:Int))/\(i+(1:Int))<((p.getD t.toNat default).length:Int)) <|Mi (gT (⟨((p.getD t.toNat default).getD i.toNat default).Op,((p.getD t.toNat default).getD i.toNat default).Loc,((p.getD t.toNat default).getD i.toNat default).Reg,((p.getD t.toNat default).getD i.toNat default).Val⟩:GY)) λv17=>Mi (bif !v17 then some true else Mi (jo (⟨((p.getD t.toNat default).getD i.toNat default).Op,((p.getD t.toNat default).getD i.toNat default).Loc,((p.getD t.toNat default).getD i.toNat default).Reg,((p.getD t.toNat default).getD i.toNat default).Val⟩:GY) (⟨((p.getD t.toNat default).getD (i+(1:Int)).toNat default).Op,((p.getD t.toNat default).getD (i+(1:Int)).toNat default).Loc,((p.getD t.toNat default).getD (i+(1:Int)).toNat default).Reg,((p.getD t.toNat default).getD (i+(1:Int)).toNat default).Val⟩:GY)) λv20=>some<|!v20) λs18=>bif s18 then some false else Mi (bif decide (name=(⟨#[116,115,111]⟩:ByteArray)) then some ((((p.getD t.toNat default).getD (i+(1:Int)).toNat default).Op)==(1:Int)) else some false) λs22=>Mi (bif s22 then some true else Mi (bif decide (name=(⟨#[112,115,111]⟩:ByteArray)) then Mi (bif ((((p.getD t.toNat default).getD (i+(1:Int)).toNat default).Op)==(1:Int)) then some true else Mi (gT (⟨((p.getD t.toNat default).getD (i+(1:Int)).toNat default).Op,((p.getD t.toNat default).getD (i+(1:Int)).toNat default).Loc,((p.getD t.toNat default).getD (i+(1:Int)).toNat default).Reg,((p.getD t.toNat default).getD (i+(1:Int)).toNat default).Val⟩:GY)) λv30=>some v30) λs28=>some s28 else some false) λs26=>some s26) λs24=>some s24
def lq (a:LI) (b:LI):LS Int (Unit ⊕ Bool):=λs5=>bif decide (s5<(a.length:Int)) then gd (decide<|0<=s5/\s5<(a.length:Int)) <|gd (decide<|0<=s5/\s5<(b.length:Int)) <|bif ((a.getD s5.toNat default) != (b.getD s5.toNat default)) then some (.inr<|.inr false) else gd (GV .i64<|s5+(1:Int)) <|some (.inl<|s5+(1:Int)) else some (.inr<|.inl ())
def jc (a:LI) (b:LI):Option Bool:= bif ((a.length:Int) != (b.length:Int)) then some false else sumK (bY (lq a b) (0:Int)) λs2=>some true
def jp (list:LL) (o_:LI):LS Int (Unit ⊕ Bool):=λs4=>bif decide (s4<(list.length:Int)) then gd (decide<|0<=s4/\s4<(list.length:Int)) <|Mi (jc (list.getD s4.toNat default) o_) λv8=>bif v8 then some (.inr<|.inr true) else gd (GV .i64<|s4+(1:Int)) <|some (.inl<|s4+(1:Int)) else some (.inr<|.inl ())
def fZ (list:LL) (o_:LI):Option Bool:= sumK (bY (jp list o_) (0:Int)) λs1=>some false
def j4 (a:LL) (b:LL):LS Int (Unit ⊕ Bool):=λs4=>bif decide (s4<(a.length:Int)) then gd (decide<|0<=s4/\s4<(a.length:Int)) <|Mi (fZ b<|a.getD s4.toNat default) λv8=>bif !v8 then some (.inr<|.inr false) else gd (GV .i64<|s4+(1:Int)) <|some (.inl<|s4+(1:Int)) else some (.inr<|.inl ())
def eT (a:LL) (b:LL):Option Bool:= sumK (bY (j4 a b) (0:Int)) λs1=>some true
def cJ (code:LI):Option Bool:= bif decide ((1048576:Int)<(code.length:Int)) then some true else Mi (dc code) λv2=>Mi (fq v2.1 v2.2.1 v2.2.2.1 v2.2.2.2) λv3=>Mi (dW v2.1 v2.2.1 v2.2.2.1) λv4=>Mi (dX v2.1 v2.2.1 v2.2.2.1) λv5=>Mi (dJ v2.1 v2.2.1 v2.2.2.1 v2.2.2.2) λv6=>Mi (bif (!(v3==v6)) then some true else some (!(v4.2==v5.2))) λs7=>Mi (bif s7 then some true else Mi (db v4.1 v5.1) λv11=>some<|!v11) λs9=>Mi (bif s9 then some true else some (!v3)) λs12=>bif s12 then Mi (dJ v2.1 v2.2.1 v2.2.2.1 v2.2.2.2) λv15=>Mi (bif (v3==v15) then some (v4.2==v5.2) else some false) λs16=>Mi (bif s16 then Mi (db v4.1 v5.1) λv20=>some v20 else some false) λs18=>some s18 else Mi (bif v4.2 then Mi (aA v4.1 v2.2.2.2) λv23=>Mi (aA v2.1 v2.2.2.2) λv24=>Mi (eT v23 v24) λv25=>some v25 else some false) λs21=>Mi (bif s21 then Mi (eZ v4.1) λv28=>Mi (aA v2.1 v2.2.2.2) λv29=>Mi (eT v28 v29) λv30=>some v30 else some false) λs26=>some s26
theorem uq (x lo hi:Int):G7 (gJ x lo hi) (· = (decide (lo<=x)&&decide (x<=hi))):=by
 unfold gJ;refine G7.bind (P:=(· = (decide (lo<=x)&&decide (x<=hi)))) ?_ λv hv => .pure hv;exact .bifD (λh => .pure<|by simp [h]) λh => .pure (by simp [h])
def Ex (x y:GY) (nm:ByteArray):Bool:=pQ x && !(x.Loc==y.Loc) && !(x.Op==3&&rdX y&&x.Reg==y.Reg)&&((y.Op==1&&(decide (nm=Er)||decide (nm=DG)))||(pQ y&&decide (nm=DG)))
section
variable {p:List (List GY)} {t i:Int} {nm:ByteArray}
def wG (p:List<|List GY) (t i:Int):GY:=(p.getD t.toNat default).getD i.toNat default
def De (p:List<|List GY) (t i:Int) (nm:ByteArray):Bool:=nbB (toP p) t i&&Ex (wG p t i) (wG p t<|i+1) nm
theorem uZ (p:List<|List GY) (t:Nat):((toP p).getD t []).length=(p.getD t default).length:=by
 simp only [toP,gdq,Mr]
 cases p[t]? <;> simp <;> rfl
theorem FE (hs:p.length<=1048576/\total p<=1048576) (hrow:∀ n,(p.getD n default).length<=1048576):G7 (dY p t i) (· = nbB (toP p) t i):=by
 have hv:av p=some (aY<|toP p):=iL<|decide_eq_true hs;have hl:(toP p).length=p.length:=by simp [toP]
 unfold dY;refine G7.bind (P:=(· = qN (toP p) t)) ?_ λv e=>G7.bind (P:=(· = nbB (toP p) t i)) ?_ λv hv => .pure hv
 ·unfold jm;rw [hv];refine G7.bind (P:=(· = aY (toP p))) (.pure rfl) λv e=>G7.bind (P:=(· = qN (toP p) t)) (.bif (λh => .gdI (by omega)<|(uq _ _ _).bind λw hw => .pure ?_) λh => .pure ?_) λv hv => .pure hv
  ·unfold qN G6;rw [hw,<- e,h,hl,Mo]
  unfold qN;rw [<- e,h,Ms]
 subst e;refine .bif (λh=>?_) λh => .pure (by unfold nbB;rw [h,Ms]);have h':=h;simp only [qN,G6,bae,dte] at h';have := hrow t.toNat;refine .gdD ⟨h'.2.1,by omega⟩<|.gdI (by omega)<|(uq _ _ _).bind λw hw => .pure ?_;unfold nbB G6;rw [hw,h,Mo,uZ]
theorem Ey (hs:p.length<=1048576/\total p<=1048576) (hrow:∀ n,(p.getD n default).length<=1048576):G7 (fq p t i nm) (· = De p t i nm):=by
 unfold fq;refine (FE hs hrow).bind λv e=>?_;subst e;refine .bif (λh => .pure ?_) λh=>?_
 ·unfold De;rw [Mq] at h;rw [h,Ms]
 have hn:nbB (toP p) t i=true:=by simpa using h
 have h':=hn;simp only [nbB,qN,G6,bae,dte,uZ] at h';obtain ⟨⟨_,h1,h2⟩,h3,h4⟩:=h';have hl:(toP p).length=p.length:=by simp [toP]
 rw [hl] at h2;have := hrow t.toNat;refine .gdD ⟨h1,by omega⟩<|.gdD ⟨h3,by omega⟩<|.gdI (by omega)<|.gdD ⟨by omega,by omega⟩ ?_;unfold De;rw [hn,Mo];refine G7.of ?_ rfl;unfold wG;generalize (p.getD t.toNat default).getD i.toNat default=x;generalize (p.getD t.toNat default).getD (i+1).toNat default=y;unfold bB ik Ex pQ rdX;simp only [bne];generalize (x.Op==2)=b1;generalize (x.Op==3)=b2;generalize (x.Loc==y.Loc)=b3;generalize (x.Reg==y.Reg)=b4;generalize (y.Op==1)=b5;generalize (y.Op==5)=b6;generalize (y.Op==2)=b7;generalize (y.Op==3)=b8;generalize decide (nm=Er)=b9;generalize decide (nm=DG)=b10
 revert b1 b2 b3 b4 b5 b6 b7 b8 b9 b10
 decide +kernel
theorem BR (hs:p.length<=1048576/\total p<=1048576) (hrow:∀ n,(p.getD n default).length<=1048576):G7 (dJ p t i nm) (· = De p t i nm):=by
 have hv:aV p=some (aY<|toP p):=iL<|decide_eq_true hs;have hl:(toP p).length=p.length:=by simp [toP]
 have hr:=hrow t.toNat;unfold dJ;rw [hv];refine G7.bind (P:=(· = aY (toP p))) (.pure rfl) λv e=>?_;subst e;refine G7.bind (P:=(· = !qN (toP p) t)) (.bif (λh => .pure ?_) λh => .gdI (by omega) (G7.bind (P:=(· = (decide (0<=t)&&decide (t<=(p.length:Int)-1)))) ?_ λv e => .pure ?_)) λv e=>?_
 ·unfold qN;rw [Mq] at h;rw [h];rfl
 ·unfold nL;exact G7.bind (P:=(· = (decide (0<=t)&&decide (t<=(p.length:Int)-1)))) (.bif (λh => .pure<|by rw [h];rfl) λh => .pure<|by rw [h];rfl) λv hv => .pure hv
 ·unfold qN G6;rw [e,hl,show aY (toP p)=true by simpa using h,Mo]
 subst e;refine G7.bind (P:=(· = (!qN (toP p) t||decide (i<0)))) (.bif (λh => .pure<|by rw [h];rfl) λh => .pure<|by rw [h];rfl) λv e=>?_;subst e;refine G7.bind (P:=(· = !nbB (toP p) t i)) (.bif (λh => .pure ?_) λh=>?_) λv e=>?_
 ·unfold nbB G6;rcases Mt _ _ ▸ h with h | h
  ·rw [Mq] at h;rw [h];rfl
  have := of_decide_eq_true h;rw [decide_eq_false (show ¬ 0<=i by omega),Ms,Bool.and_false];rfl
 ·have h':=h;simp only [qN,G6,MS,Bool.not_eq_false',bae,dte,decide_eq_false_iff_not] at h';obtain ⟨⟨g1,g2,g3⟩,g4⟩:=h';refine .gdD ⟨g2,by omega⟩<|.gdI (by omega)<|.pure ?_;unfold nbB G6 qN G6;rw [uZ,g1,decide_eq_true g2,decide_eq_true g3,decide_eq_true (show 0<=i by omega)];simp only [Mo,<- decide_not];exact decide_eq_decide.2 (by omega)
 subst e;refine .bif (λh => .pure ?_) λh=>?_
 ·unfold De;rw [Mq] at h;rw [h,Ms]
 have hn:nbB (toP p) t i=true:=by simpa using h
 have h':=hn;simp only [nbB,qN,G6,bae,dte,uZ] at h';obtain ⟨⟨_,h1,h2⟩,h3,h4⟩:=h';rw [hl] at h2;refine .gdD ⟨h1,by omega⟩<|.gdD ⟨h3,by omega⟩<|.gdI (by omega)<|.gdD ⟨by omega,by omega⟩ ?_;unfold De;rw [hn,Mo];refine G7.of ?_ rfl;unfold wG;generalize (p.getD t.toNat default).getD i.toNat default=x;generalize (p.getD t.toNat default).getD (i+1).toNat default=y;unfold gT jo bU Ex pQ rdX;simp only [];have hx:(x.Op==2||x.Op==3)=true->(x.Op==1)=false/\(x.Op==5)=false:=λh=>by
  rcases Mt _ _ ▸ h with h | h <;> (rw [eq_of_beq h];decide)
 revert hx
 generalize (x.Op==2)=b1;generalize (x.Op==3)=b2;generalize (x.Op==1)=b11;generalize (x.Op==5)=b12;generalize (x.Loc==y.Loc)=b3;generalize (x.Reg==y.Reg)=b4;generalize (y.Op==1)=b5;generalize (y.Op==5)=b6;generalize (y.Op==2)=b7;generalize (y.Op==3)=b8;generalize decide (nm=Er)=b9;generalize decide (nm=DG)=b10;intro hx
 cases hb:b1||b2 with
 | false=>
  simp only [MS] at hb;obtain ⟨rfl,rfl⟩:=hb
  rfl
 | true=>
  obtain ⟨rfl,rfl⟩:=hx hb;clear hx
  revert b1 b2 b3 b4 b5 b6 b7 b8 b9 b10
  decide +kernel
end
theorem Ez (a b:LI) (ha:a.length<=1048576):G7 (jc a b) (· = decide (a=b)):=by
 unfold jc;refine .bif (λh => .pure ?_) λh=>?_
 ·have h:a.length≠b.length:=by
   intro e;rw [e] at h;simp at h
  rw [decide_eq_false (λe=>h<|by rw [e])]
 have h:a.length=b.length:=by
  have : (a.length:Int)=(b.length:Int):=by simpa using h
  omega
 refine G7.sum (PS:=λ_=>a=b) (PW:=λv=>v=decide (a=b)) ?_ λ_ he => .pure (by rw [decide_eq_true he]);refine G7.loop (λi=>0<=i/\i<=(a.length:Int)/\∀ j:Nat,(j:Int)<i->a[j]? = b[j]?) (λi=>((a.length:Int)-i).toNat) ⟨Int.le_refl _,by omega,λj hj=>absurd hj<|by omega⟩ λi ⟨h1,h2,h3⟩ => ?_;unfold lq;refine .bifD (λhlt => .gdD ⟨h1,hlt⟩<|.gdD ⟨h1,by omega⟩ ?_) λhge => .pure ?_
 ·have hi:i.toNat<a.length:=by omega
  have hib:i.toNat<b.length:=by omega
  have ea:a.getD i.toNat default=a[i.toNat]:=by simp [hi]
  have eb:b.getD i.toNat default=b[i.toNat]:=by simp [hib]
  rw [ea,eb];refine .bif (λhb => .pure ?_) λhb => .gdI (by omega)<|.pure ⟨⟨by omega,by omega,λj hj=>?_⟩,by omega⟩
  ·simp only [bne_iff_ne] at hb;have : a≠b:=λe=>hb (by simp [e]);simp only [];rw [decide_eq_false this]
  by_cases ej:j=i.toNat
  ·subst ej;rw [geq hi,geq hib];have : a[i.toNat]=b[i.toNat]:=by simpa using hb
   rw [this]
  exact h3 j (by omega)
 simp only [];apply List.ext_getElem?;intro j;rcases MO j a.length with g | g
 ·exact h3 j (by omega)
 rw [gen g,gen (by omega)]
theorem EA {b:LL} {o:LI} (hb:∀ r∈b,r.length<=1048576) (hl:b.length<=1099511627776):G7 (fZ b o) (· = decide (o∈b)):=by
 unfold fZ;refine G7.sum (PS:=λ_=>o∉b) (PW:=(· = decide (o∈b))) ?_ λ_ he => .pure (decide_eq_false he).symm;refine G7.loop (λi=>(0<=i/\i<=(b.length:Int))/\∀ j:Nat,(j:Int)<i->b[j]? ≠ some o) (λi=>((b.length:Int)-i).toNat) ⟨⟨Int.le_refl _,by omega⟩,λj hj=>by omega⟩ λi ⟨⟨h1,h2⟩,h3⟩ => ?_;unfold jp;refine .bifD (λhlt => .gdD ⟨h1,hlt⟩ ?_) λhge => .pure ?_
 ·have hi:i.toNat<b.length:=by omega
  have eb:b.getD i.toNat default=b[i.toNat]:=by simp [List.getD,hi]
  rw [eb];refine (Ez _ _<|hb _<|Mw hi).bind λv hv=>?_;subst hv;refine .bifD (λhe => .pure ?_) λhne => .gdI (by omega)<|.pure ⟨⟨⟨by omega,by omega⟩,λj hj=>?_⟩,by omega⟩
  ·exact (decide_eq_true<|he ▸ Mw hi).symm
  by_cases e:j=i.toNat
  ·subst e;rw [geq hi];exact λh=>hne<|osl h
  exact h3 j (by omega)
 simp only [];intro hm;obtain ⟨j,hj,rfl⟩:=MU hm;exact h3 j (by omega)<|geq hj
theorem BS {a b:LL} (hb:∀ r∈b,r.length<=1048576) (hl:b.length<=1099511627776) (ha:a.length<=1099511627776) (h:∀ o∈a,o∈b):G7 (eT a b) (· = true):=by
 unfold eT;refine G7.sum (PS:=λ_=>True) (PW:=(· = true)) ?_ λ_ _ => .pure rfl;refine G7.loop (λi=>0<=i/\i<=(a.length:Int)) (λi=>((a.length:Int)-i).toNat) ⟨Int.le_refl _,by omega⟩ λi ⟨h1,h2⟩ => ?_;unfold j4;refine .bifD (λhlt => .gdD ⟨h1,hlt⟩ ?_) λhge => .pure trivial;have hi:i.toNat<a.length:=by omega
 have eb:a.getD i.toNat default=a[i.toNat]:=by simp [List.getD,hi]
 rw [eb];refine (EA hb hl).bind λv hv=>?_;rw [decide_eq_true (h _<|Mw hi)] at hv;subst hv;exact .bif (λk=>by cases k) λ_ => .gdI (by omega)<|.pure ⟨⟨by omega,by omega⟩,by omega⟩
section
variable {p:List (List GY)}
theorem ve {a b:Nat} (hb:b<(prg p a).length):(prg p a)[b]? = some (wG p a b):=by
 unfold wG;unfold prg at hb ⊢;rw [tnn,tnn,gdq (l:=p.getD a default),geq hb]
 rfl
theorem Df {a b:Nat} (hn:a<p.length) (hb:b+1<(prg p a).length):(prg (ofP<|gZ (toP p) a b) a)[b]? = some (wG p a (b+1:Nat))/\(prg (ofP<|gZ (toP p) a b) a)[b+1]? = some (wG p a b)/\(∀ j,j≠b->j≠b+1->(prg (ofP<|gZ (toP p) a b) a)[j]? = (prg p a)[j]?)/\(∀ u,u≠a->prg (ofP<|gZ (toP p) a b) u=prg p u)/\(prg (ofP<|gZ (toP p) a b) a).length=(prg p a).length:=by
 have hg:(toP p).getD a []=(prg p a).map f8:=by
  unfold prg;simp [toP,List.getD,hn]
 have hq:prg (ofP<|gZ (toP p) a b) a=(eQ ((prg p a).map f8) b).map sV:=by
  conv=>lhs;unfold prg
  unfold gZ;rw [hg];simp [ofP,toP,List.getD,hn]
 have hlen:=ez ((prg p a).map f8) b;rw [llm] at hlen;have hoi:∀ x,sV (f8 x)=x:=λ_=>rfl;have hf1:=nI ((prg p a).map f8) b (by simpa using hb) (by omega);have hf2:=nJ ((prg p a).map f8) b (by simpa using hb) (by omega);refine ⟨?_,?_,λj h1 h2=>?_,λu hu=>?_,?_⟩
 ·rw [hq,Mr,geq (by omega),hf1,MP,Mx,hoi,<- ve hb,geq hb]
 ·rw [hq,Mr,geq (by omega),hf2,MP,Mx,hoi,<- ve (by omega),geq (by omega)]
 ·rw [hq,Mr];rcases MO j (prg p a).length with h | h
  ·have := nK ((prg p a).map f8) b j (by omega) (by simpa using h) h1 h2;rw [geq (by omega),this,MP,Mx,hoi,geq h]
  rw [gen (by omega),gen h];rfl
 ·have : ofP (toP p)=p:=Ev p;unfold prg
  conv=>rhs;rw [<- this]
  unfold gZ;simp [ofP,List.getD,MV (λe=>hu e.symm)]
 rw [hq,llm,hlen]
theorem xD {a b:Nat} {nm:ByteArray} {sp:Bool} (hn:a<p.length) (hb:b+1<(prg p a).length) (hc:Ex (wG p a b) (wG p a (b+1:Nat)) nm=true) (hsp:nm=Er/\sp=false\/nm=DG/\sp=true) {o:LI} (h:yC (ofP<|gZ (toP p) a b) sp o):yC p sp o:=by
 have hlen:(ofP<|gZ (toP p) a b).length=p.length:=by simp [ofP,gZ]
 obtain ⟨q1,q2,q3,q4,q5⟩:=Df hn hb;unfold yC at h ⊢;rw [hlen] at h;refine Ew (x:=wG p a b) (y:=wG p a (b+1:Nat)) (t:=a) (i:=b) ?_ (ve<|by omega) (ve hb) q1 q2 q3 q4 q5 h;generalize wG p a b=x at hc ⊢;generalize wG p a (b+1:Nat)=y at hc ⊢;unfold Ex at hc;simp only [bae,Mq,Mt,dte] at hc;obtain ⟨⟨⟨h1,h2⟩,h3⟩,h4⟩:=hc;have h2:x.Loc≠y.Loc:=by simpa using h2
 refine ⟨h1,?_⟩;rcases h4 with ⟨h4,_⟩ | ⟨h4,h5⟩
 ·have h4:y.Op=1:=by simpa using h4
  refine .inl ⟨h4,h2,λ⟨g1,g2⟩ => ?_⟩;have : rdX y=true:=by unfold rdX;rw [h4];rfl
  rw [this,g1,g2] at h3;simp at h3
 rcases hsp with ⟨rfl,_⟩ | ⟨_,rfl⟩
 ·exact absurd h5 (by decide)
 exact .inr ⟨h4,h2⟩
end
theorem rZ {p:List (List GY)} {nm:ByteArray} {sp:Bool} (hsp:nm=Er/\sp=false\/nm=DG/\sp=true) (hv:av p=some (aY<|toP p)):G7 (aA p nm) λq=>(aY (toP p)=true->RunL p (yC p sp) q)/\(aY (toP p)=false->q=[]):=by
 cases h:aY (toP p) with
 | true=>
  rw [h] at hv;rcases hsp with ⟨rfl,rfl⟩ | ⟨rfl,rfl⟩
  ·exact (CQ (PW.of h) hv).mono λq hq=>⟨λ_=>hq,nofun⟩
  exact (CU (PW.of h) hv).mono λq hq=>⟨λ_=>hq,nofun⟩
 | false=>
  rw [h] at hv;refine .of (v:=[]) ?_ ⟨nofun,λ_=>rfl⟩;rcases hsp with ⟨rfl,rfl⟩ | ⟨rfl,rfl⟩
  ·unfold aA iU;rw [yE hv];rfl
  unfold aA iV;rw [yE hv];rfl
theorem FG {b:LI} (hb:Bts b):G7 (dc b) λv=>Sm v.1:=by
 unfold dc;refine G7.bind (P:=λv:List (List GY)×Int×Int=>Sm v.1) ?_ λv hv=>(yI hb).bind λr h => .gdD (by decide)<|(FC h.mk' (by omega) _<|by simp).bind λx _ => .pure hv;unfold kW;exact (yI hb).bind λr h=>(xx h.mk'<|by omega).bind λv ⟨a1,a2⟩=>(wm a1.mk' (by omega) a2).bind λu ⟨b1,b2⟩=>(nD b1.mk' (by omega) _<|by simp).bind λx ⟨c1,_⟩=>(nD c1.mk' (by omega) _<|by simp).bind λy _ => .pure b2
theorem Gc {b:LI} (hb:Bts b):cJ b=some true:=by
 refine G7.eq ?_;unfold cJ;refine .bifD (λ_ => .pure rfl) λ_=>(FG hb).bind λv hp=>?_;obtain ⟨p,t,i,nm⟩:=v;simp only at hp ⊢;have hsz:=hp.sz;have hrow:∀ n,(p.getD n default).length<=1048576:=λn=>MQ (hp.row n) (by decide);have hi:dW p t i=some (ofP (bI (toP p) t i).1,(bI (toP p) t i).2):=iL<|decide_eq_true hsz;have hs:dX p t i=some (ofP (bI (toP p) t i).1,(bI (toP p) t i).2):=iL<|decide_eq_true hsz;refine (Ey hsz hrow).bind λv3 e3=>(G7.of (P:=(· = (ofP (bI (toP p) t i).1,(bI (toP p) t i).2))) hi rfl).bind λv4 e4=>(G7.of (P:=(· = (ofP (bI (toP p) t i).1,(bI (toP p) t i).2))) hs rfl).bind λv5 e5=>(BR hsz hrow).bind λv6 e6=>?_;subst e3 e4 e5 e6;have hq:(ofP (bI (toP p) t i).1).length<=9/\∀ r∈ofP (bI (toP p) t i).1,r.length<=9:=by
  unfold bI
  split
  ·rename_i hn;obtain ⟨a,b',ha,rfl,rfl,_⟩:=uY hn;have hl:(ofP<|gZ (toP p) a b').map List.length=p.map List.length:=by rw [Da,zF ha,Db]
   simp only [tnn];refine ⟨by have := congrArg List.length hl;simp only [llm] at this;have := hp.1;simp only [ofP,llm];omega,λr hr=>?_⟩;have : r.length∈p.map List.length:=hl ▸ List.mem_map_of_mem hr;obtain ⟨r',h1,h2⟩:=My.1 this;rw [<- h2];exact (hp.2 r' h1).1
  exact ⟨Ml _,λr hr=>by cases hr⟩
 have hsame:=CX (ofP (bI (toP p) t i).1) (by omega) λr hr=>by have := hq.2 r hr;omega
 refine G7.bind (P:=(· = false)) (.bif (λh=>by simp at h) λ_ => .pure<|by simp) λs7 h7=>?_;subst h7;refine G7.bind (P:=(· = false)) (.bif (λh=>by cases h) λ_=>hsame.bind λv hv => .pure<|by rw [hv];rfl) λs9 h9=>?_;subst h9;refine G7.bind (P:=(· = !De p t i nm)) (.bif (λh=>by cases h) λ_ => .pure rfl) λs12 h12=>?_;subst h12;refine .bif (λ_=>?_) λhc=>?_
 ·refine (BR hsz hrow).bind λv15 e15=>?_;subst e15;refine G7.bind (P:=(· = true)) (.bif (λ_ => .pure<|by simp) λh=>by simp at h) λs hs=>?_;subst hs;exact G7.bind (P:=(· = true)) (.bif (λ_=>hsame.bind λv hv => .pure hv) λh=>by cases h) λs hs => .pure hs
 have hc:De p t i nm=true:=by simpa using hc
 unfold De at hc;rw [bae] at hc;obtain ⟨hn,hX⟩:=hc;have hvb:aY (toP p)=true:=by
  simp only [nbB,qN,bae] at hn;exact hn.1.1
 obtain ⟨a,b',ha,rfl,rfl,hab⟩:=uY hn;have ha':a<p.length:=by simpa [toP] using ha
 have hab':b'+1<(prg p a).length:=by
  unfold prg;simpa [toP,List.getD,ha'] using hab
 have eR:bI (toP p) a b'=(gZ (toP p) a b',true):=by
  unfold bI;rw [if_pos hn];simp only [tnn]
 rw [eR] at hq ⊢;simp only at hq ⊢;have hqv:aY (toP<|ofP<|gZ (toP p) a b')=true:=by rw [Eu,xC ha hab,hvb]
 have hpv:av p=some (aY<|toP p):=iL<|decide_eq_true hsz;have hqz:(ofP<|gZ (toP p) a b').length<=1048576/\total (ofP<|gZ (toP p) a b')<=1048576:=by
  have := qM hq.2;refine ⟨by omega,?_⟩;refine MQ this<|MQ (Nat.mul_le_mul_right 9 hq.1) (by decide)
 have hqv':av (ofP<|gZ (toP p) a b')=some (aY<|toP<|ofP<|gZ (toP p) a b'):=iL<|decide_eq_true hqz;have hX':Ex (wG p a b') (wG p a (b'+1:Nat)) nm=true:=hX;have hsp:∃ sp,nm=Er/\sp=false\/nm=DG/\sp=true:=by
  have h:=hX';unfold Ex at h;simp only [bae,Mt,dte] at h;rcases h.2 with ⟨_,h | h⟩ | ⟨_,h⟩
  ·exact ⟨false,.inl ⟨h,rfl⟩⟩
  ·exact ⟨true,.inr ⟨h,rfl⟩⟩
  exact ⟨true,.inr ⟨h,rfl⟩⟩
 obtain ⟨sp,hsp⟩:=hsp;have hP:=PW.of hvb;have hQ:=PW.of hqv;have hsub:∀ o,yC (ofP<|gZ (toP p) a b') sp o->yC p sp o:=λo=>xD ha' hab' hX' hsp;refine G7.bind (P:=(· = true)) (.bif (λ_=>?_) λh=>by cases h) λs21 h21=>?_
 ·refine (rZ hsp hqv').bind λv23 h23=>(rZ hsp hpv).bind λv24 h24=>?_;have g1:=h23.1 hqv;have g2:=h24.1 hvb;exact (BS (g2.small hP.pv).1 (g2.small hP.pv).2 (g1.small hQ.pv).2 λo ho=>(g2.run.mem o).2<|hsub o<|(g1.run.mem o).1 ho).bind λv hv => .pure hv
 subst h21;refine G7.bind (P:=(· = true)) (.bif (λ_=>?_) λh=>by cases h) λs26 h26 => .pure h26;refine (F8 hQ.pv<|hqv' ▸ congrArg some hqv).bind λv28 g1=>(rZ hsp hpv).bind λv24 h24=>?_;have g2:=h24.1 hvb;exact (BS (g2.small hP.pv).1 (g2.small hP.pv).2 (g1.small hQ.pv).2 λo ho=>(g2.run.mem o).2<|hsub o<|Ep hQ.pv ((g1.run.mem o).1 ho) sp).bind λv hv => .pure hv
theorem G9:TyF Tryz.prog 3 false 1:=⟨by kernel_rfl,by kernel_rfl,by kernel_rfl,by kernel_rfl⟩
theorem zs3:TyZ Tryz.prog 3 [I (0:Int)]:=⟨by kernel_rfl,by kernel_rfl⟩
theorem ty4:TyF Tryz.prog 4 false 1:=⟨by kernel_rfl,by kernel_rfl,by kernel_rfl,by kernel_rfl⟩
theorem bt4:kO Tryz.prog 4=true:=by kernel_rfl
theorem Ha:TyF Tryz.prog 5 false 1:=⟨by kernel_rfl,by kernel_rfl,by kernel_rfl,by kernel_rfl⟩
theorem zs5:TyZ Tryz.prog 5 [Y (0:Int)]:=⟨by kernel_rfl,by kernel_rfl⟩
theorem ty9:TyF Tryz.prog 9 false 1:=⟨by kernel_rfl,by kernel_rfl,by kernel_rfl,by kernel_rfl⟩
theorem zs9:TyZ Tryz.prog 9 [St (⟨#[]⟩:ByteArray)]:=⟨by kernel_rfl,by kernel_rfl⟩
theorem vp:TyF Tryz.prog 22 false 1:=⟨by kernel_rfl,by kernel_rfl,by kernel_rfl,by kernel_rfl⟩
theorem GG:TyZ Tryz.prog 22 [.nil]:=⟨by kernel_rfl,by kernel_rfl⟩
theorem Dg:TyF Tryz.prog 24 false 1:=⟨by kernel_rfl,by kernel_rfl,by kernel_rfl,by kernel_rfl⟩
theorem zP:TyF Tryz.prog 41 false 1:=⟨by kernel_rfl,by kernel_rfl,by kernel_rfl,by kernel_rfl⟩
theorem GH:TyZ Tryz.prog 41 [.nil]:=⟨by kernel_rfl,by kernel_rfl⟩
theorem r9:TyF Tryz.prog 66 false 1:=⟨by kernel_rfl,by kernel_rfl,by kernel_rfl,by kernel_rfl⟩
theorem GI:TyZ Tryz.prog 66 [.nil]:=⟨by kernel_rfl,by kernel_rfl⟩
theorem gB:TyF Tryz.prog 69 true 4:=⟨by kernel_rfl,by kernel_rfl,by kernel_rfl,by kernel_rfl⟩
theorem o8:TyZ Tryz.prog 69 [I (0:Int),I (0:Int),I (0:Int),I (0:Int)]:=⟨by kernel_rfl,by kernel_rfl⟩
theorem fH:TyS Tryz.prog 69 [(0,1),(1,1),(2,1),(3,1)]:=⟨by kernel_rfl⟩
theorem GJ:TyE Tryz.prog 69:=⟨by kernel_rfl,by kernel_rfl,by kernel_rfl⟩
theorem FH:TyF Tryz.prog 91 false 1:=⟨by kernel_rfl,by kernel_rfl,by kernel_rfl,by kernel_rfl⟩
theorem GK:TyZ Tryz.prog 91 [.v .nilIface]:=⟨by kernel_rfl,by kernel_rfl⟩
theorem GL:TyZ Tryz.prog 99 [.nil,I (0:Int)]:=⟨by kernel_rfl,by kernel_rfl⟩
theorem zQ:TyS Tryz.prog 99 [(0,1),(1,1)]:=⟨by kernel_rfl⟩
theorem wA:TyF Tryz.prog 115 true 3:=⟨by kernel_rfl,by kernel_rfl,by kernel_rfl,by kernel_rfl⟩
theorem Gd:TyZ Tryz.prog 115 [Y (0:Int),Y (0:Int),Y (0:Int)]:=⟨by kernel_rfl,by kernel_rfl⟩
theorem Gf:TyF Tryz.prog 116 true 9:=⟨by kernel_rfl,by kernel_rfl,by kernel_rfl,by kernel_rfl⟩
theorem FI:TyZ Tryz.prog 118 [.nil,Y (0:Int),Y (0:Int),Y (0:Int),Y (0:Int),Y (0:Int),Y (0:Int),Y (0:Int),Y (0:Int),Y (0:Int),Y (0:Int),Y (0:Int),Y (0:Int),Y (0:Int),Y (0:Int),Y (0:Int)]:=⟨by kernel_rfl,by kernel_rfl⟩
theorem kG:TyS Tryz.prog 118 [(0,1),(1,3),(4,9),(13,3)]:=⟨by kernel_rfl⟩
theorem FJ:TyF Tryz.prog 120 true 16:=⟨by kernel_rfl,by kernel_rfl,by kernel_rfl,by kernel_rfl⟩
theorem FK:TyZ Tryz.prog 120 [.nil,Y (0:Int),Y (0:Int),Y (0:Int),Y (0:Int),Y (0:Int),Y (0:Int),Y (0:Int),Y (0:Int),Y (0:Int),Y (0:Int),Y (0:Int),Y (0:Int),Y (0:Int),Y (0:Int),Y (0:Int)]:=⟨by kernel_rfl,by kernel_rfl⟩
theorem BV:TyS Tryz.prog 120 [(0,16)]:=⟨by kernel_rfl⟩
theorem qw:TyF Tryz.prog 150 false 1:=⟨by kernel_rfl,by kernel_rfl,by kernel_rfl,by kernel_rfl⟩
theorem FL:TyF Tryz.prog 152 true 18:=⟨by kernel_rfl,by kernel_rfl,by kernel_rfl,by kernel_rfl⟩
theorem FM:TyZ Tryz.prog 152 [.nil,Y (0:Int),Y (0:Int),Y (0:Int),Y (0:Int),Y (0:Int),Y (0:Int),Y (0:Int),Y (0:Int),Y (0:Int),Y (0:Int),Y (0:Int),Y (0:Int),Y (0:Int),Y (0:Int),Y (0:Int),Bo false,.nil]:=⟨by kernel_rfl,by kernel_rfl⟩
theorem kX:TyS Tryz.prog 152 [(0,16),(16,1),(17,1)]:=⟨by kernel_rfl⟩
theorem nM:SlT Tryz.prog 22 5 false 1 [Y (0:Int)] 1:=⟨Tryz.underlying22,Ha,zs5,rfl,rfl,by kernel_rfl⟩
theorem ib:SlT Tryz.prog 24 66 false 1 [.nil] 24:=⟨Tryz.underlying24,r9,GI,rfl,rfl,by kernel_rfl⟩
theorem vq:SlT Tryz.prog 34 41 false 1 [.nil] 24:=⟨Tryz.underlying34,zP,GH,rfl,rfl,by kernel_rfl⟩
theorem yL:SlT Tryz.prog 40 9 false 1 [St (⟨#[]⟩:ByteArray)] 16:=⟨Tryz.underlying40,ty9,zs9,rfl,rfl,by kernel_rfl⟩
theorem mV:SlT Tryz.prog 41 3 false 1 [I (0:Int)] 8:=⟨Tryz.underlying41,G9,zs3,rfl,rfl,by kernel_rfl⟩
theorem mQ:SlT Tryz.prog 66 69 true 4 [I (0:Int),I (0:Int),I (0:Int),I (0:Int)] 32:=⟨Tryz.underlying66,gB,o8,rfl,rfl,by kernel_rfl⟩
theorem zG:KeyA Tryz.prog 9 1 uO:=Fa Tryz.underlying9
theorem oP:SlT Tryz.prog 110 91 false 1 [.v .nilIface] 16:=⟨Tryz.underlying110,FH,GK,rfl,rfl,by kernel_rfl⟩
theorem mW:SlT Tryz.prog 150 22 false 1 [.nil] 24:=⟨Tryz.underlying150,vp,GG,rfl,rfl,by kernel_rfl⟩
section
variable {P:Program} {o:Oper} {ρ ρ':Operand->AV} {H:AH} {K K':AV->AH->Prop}
theorem OpG.congr {R:AV->AH->Prop} (h:OpG P o ρ H R) (he:∀ x∈o.op.operands,ρ x=ρ' x):OpG P o ρ' H R:=
 λc a K Q hH hr hxs hK=>h c a K Q hH hr (λx hx=>by rw [he x hx];exact hxs x hx) hK
theorem OpG.mono {R R':AV->AH->Prop} (h:OpG P o ρ H R) (hR:∀ r G,R r G->R' r G):OpG P o ρ H R':=
 λc a K Q hH hr hxs hK=>h c a K Q hH hr hxs λv c' r hr1 hr2 hr3 hr4=>hK v c' r (hR _ _ hr1) hr2 hr3 hr4
theorem GN.opG {r:AV} {H':AH} (h:GN P o ρ H r H'):OpG P o ρ H λr' G=>r'=r/\G=H':=
 λc a K Q hH hr hxs hK=>h c a K Q hH hr hxs λv c' hc hr2 hr3 hr4=>hK v c' r ⟨rfl,hc⟩ hr2 hr3 hr4
abbrev Xc:=Bool×List Nat
def agr (F:List Nat) (G H:AH):Prop:=∀ b∈F,G[b]? = H[b]?
theorem agr.a0 {b:Nat} {F:List Nat} {G H:AH} (h:agr (b::F) G H) {x:Option ABlk} (hx:H[b]? = some x):G[b]? = some x:=(h b<|by simp).trans hx
theorem agr.a1 {b c:Nat} {F:List Nat} {G H:AH} (h:agr (c::b::F) G H) {x:Option ABlk} (hx:H[b]? = some x):G[b]? = some x:=(h b<|by simp).trans hx
theorem agr.a2 {a b c:Nat} {F:List Nat} {G H:AH} (h:agr (a::c::b::F) G H) {x:Option ABlk} (hx:H[b]? = some x):G[b]? = some x:=(h b<|by simp).trans hx
def oQ (W:List Nat) (H H':AH):Prop:=∀ b,b<H.length->b∉W->H'[b]? = H[b]?
theorem yM {b:Nat} {X:Option ABlk}:oQ [b] H (H.set b X):=λc _ hc=>MV λe=>hc (by simp [e])
theorem Dh {L:AH}:oQ [] H (H++L):=λ_ hb _=>gal hb
def sj (P:Program) (o:Oper) (ρ:Operand->AV) (H:AH) (b:Xc) (K:AV->AH->Prop):Prop:=match b.1 with
 | false=>∃ r,(∀ c∈b.2,c<H.length)/\(∀ G,agr b.2 G H->GN P o ρ G r G)/\K r H
 | true=>OpG P o ρ H λr H'=>oQ b.2 H H'/\K r H'
theorem sj.mono {b:Xc} (h:sj P o ρ H b K) (hK:∀ r G,K r G->K' r G):sj P o ρ H b K':=by
 obtain ⟨b,F⟩:=b
 cases b with
 | false=>
  obtain ⟨r,h0,h1,h2⟩:=h;exact ⟨r,h0,h1,hK _ _ h2⟩
 | true=>
  show OpG P o ρ H λr H'=>oQ F H H'/\K' r H';exact OpG.mono (R:=λr H'=>oQ F H H'/\K r H') h λr G hr=>⟨hr.1,hK _ _ hr.2⟩
theorem sj.congr {b:Xc} (h:sj P o ρ H b K) (he:∀ x∈o.op.operands,ρ x=ρ' x):sj P o ρ' H b K:=by
 obtain ⟨b,F⟩:=b
 cases b with
 | false=>
  obtain ⟨r,h0,h1,h2⟩:=h;exact ⟨r,h0,λG hG=>(h1 G hG).congr he,h2⟩
 | true=>
  show OpG P o ρ' H λr H'=>oQ F H H'/\K r H';exact OpG.congr (R:=λr H'=>oQ F H H'/\K r H') h he
theorem sj.opG {b:Xc} (h:sj P o ρ H b K):OpG P o ρ H K:=by
 obtain ⟨b,F⟩:=b
 cases b with
 | false=>
  obtain ⟨r,_,h1,h2⟩:=h;refine (GN.opG<|h1 H λ_ _=>rfl).mono ?_;rintro r' G ⟨rfl,rfl⟩;exact h2
 | true=>exact OpG.mono (R:=λr H'=>oQ F H H'/\K r H') h λr G hr=>hr.2
def Di (a b:Xc):Bool := !b.1||a.2.all λx => !b.2.contains x
def Dj (P:Program) (ops:Array Oper) (cls:Nat->Xc) (Q:Env->AH->Prop):Nat->Array Bool->Env->AH->Prop
 | 0,listed,e,H=>Region.ready .any ops listed=[]/\Q e H
 | fuel+1,listed,e,H=>(Region.ready .any ops listed=[]->Q e H) /\
  ∀ i∈Region.ready .any ops listed,∃ o,ops[i]? = some o/\sj P o (rho e) H (cls i) λr H'=>Dj P ops cls Q fuel (listed.setIfInBounds i true) (kN e o.dst r) H'
theorem zH {ops:Array Oper} {cls:Nat->Xc} {Q:Env->AH->Prop} {i:Nat} {oi:Oper} {r:AV} {F:List Nat} (hi:ops[i]? = some oi) (hci:cls i=(false,F)) :
  ∀ (fuel:Nat) (listed:Array Bool) (e:Env) (H:AH),
   (∀ (j:Nat) (oj:Oper),ops[j]? = some oj->j≠i->listed.getD j true=false->(∀ ed∈oj.after,Region.binds .any ed=true->ed.on≠i)->oi.apart ops oj=true/\Di (cls i) (cls j)=true) ->
   i∈Region.ready .any ops listed->(∀ c∈F,c<H.length)->(∀ G,agr F G H->GN P oi (rho e) G r G)->Dj P ops cls Q fuel (listed.setIfInBounds i true) (kN e oi.dst r) H->Dj P ops cls Q (fuel+1) listed e H:=by
 intro fuel
 induction fuel with
 | zero=>
  intro listed e H _ hr hF hy hA;refine ⟨λh=>(by rw [h] at hr;cases hr),λj hj=>?_⟩
  by_cases hji:j=i
  ·subst hji;exact ⟨oi,hi,by rw [hci];exact ⟨r,hF,hy,hA⟩⟩
  have := ready_mono hj hji;rw [hA.1] at this
  cases this
 | succ fuel ih=>
  intro listed e H hfree hr hF hy hA;refine ⟨λh=>(by rw [h] at hr;cases hr),λj hj=>?_⟩
  by_cases hji:j=i
  ·subst hji;exact ⟨oi,hi,by rw [hci];exact ⟨r,hF,hy,hA⟩⟩
  obtain ⟨oj,hoj,hsj⟩:=hA.2 j<|ready_mono hj hji;obtain ⟨hjun,oj',hoj',hall⟩:=mem_ready.1 hj;rw [hoj] at hoj';injection hoj' with hoj';subst hoj';have hnot:∀ ed∈oj.after,Region.binds .any ed=true->ed.on≠i:=λed he hb heq=>by
   have h1:=hall ed he hb;have h0:=(mem_ready.1 hr).1;rw [heq] at h1;rcases MO i listed.size with h' | h'
   ·simp [h'] at h0 h1;rw [h0] at h1;cases h1
   simp [Array.getElem?_eq_none h'] at h1
  obtain ⟨hap,hcm⟩:=hfree j oj hoj hji hjun hnot;obtain ⟨h1,h2,h3⟩:=Oper.apart_spec hap;have ej:=oh (e:=e) (r:=r) h1;have hfree':∀ (k:Nat) (ok:Oper),ops[k]? = some ok->k≠i->(listed.setIfInBounds j true).getD k true=false->(∀ ed∈ok.after,Region.binds .any ed=true->ed.on≠i)->oi.apart ops ok=true/\Di (cls i) (cls k)=true:=λk ok hk hki hun hno=>by
   refine hfree k ok hk hki ?_ hno
   by_cases hjk:j=k
   ·subst hjk;exact hjun
   rw [getD_set_ne true hjk] at hun;exact hun
  have hsj':=hsj.congr ej;have go:∀ q Hj,(∀ c∈F,c<Hj.length)->(∀ c∈F,Hj[c]? = H[c]?)->Dj P ops cls Q fuel ((listed.setIfInBounds i true).setIfInBounds j true) (kN (kN e oi.dst r) oj.dst q) Hj->Dj P ops cls Q (fuel+1) (listed.setIfInBounds j true) (kN e oj.dst q) Hj:=λq Hj hF' hHj hAj=>by
   have ei:=oh (e:=e) (oi:=oj) (r:=q) h3;refine ih (listed.setIfInBounds j true) (kN e oj.dst q) Hj hfree' (ready_mono hr<|Ne.symm hji) hF' (λG hG=>(hy G λc hc=>(hG c hc).trans<|hHj c hc).congr λx hx=>(ei x hx).symm) ?_;rw [Array.setIfInBounds_comm _ _ hji,vF (λd hd=>λhd'=>h2 d (by simpa using hd')<|by simpa using hd)];exact hAj
  refine ⟨oj,hoj,?_⟩;rw [hci] at hcm;generalize cls j=cj at hsj' hcm ⊢;obtain ⟨b,W⟩:=cj
  cases b with
  | false=>
   obtain ⟨q,q0,q1,q2⟩:=hsj';exact ⟨q,q0,q1,go q H hF (λ_ _=>rfl) q2⟩
  | true=>
   simp only [Di,Bool.not_true,Bool.false_or,Mv,Mq,MW,decide_eq_false_iff_not] at hcm;show OpG P oj (rho e) H λr1 H1=>oQ W H H1/\Dj P ops cls Q (fuel+1) (listed.setIfInBounds j true) (kN e oj.dst r1) H1;refine OpG.mono (R:=λr1 H1=>oQ W H H1/\Dj P ops cls Q fuel ((listed.setIfInBounds i true).setIfInBounds j true) (kN (kN e oi.dst r) oj.dst r1) H1) hsj' λq Hj ⟨k1,k2⟩=>⟨k1,go q Hj (λc hc=>?_) (λc hc=>k1 c (hF c hc)<|hcm c hc) k2⟩;have := k1 c (hF c hc)<|hcm c hc;rw [geq (hF c hc)] at this;exact (ges this).1
def FN (ops:Array Oper) (cls:Nat->Xc):List Nat->Array Bool->Bool
 | [],listed=>(Region.ready .any ops listed).isEmpty
 | i::l,listed=>(match ops[i]? with
  | some oi=>if (cls i).1 then Region.ready .any ops listed==[i] else (Region.ready .any ops listed).contains i&&(List.range ops.size).all λj=>j==i||listed.getD j true||(match ops[j]? with
   | some oj=>(oj.after.any λed=>Region.binds .any ed&&ed.on==i)||(oi.apart ops oj&&Di (cls i) (cls j))
   | none=>true)
  | none=>false)&&FN ops cls l (listed.setIfInBounds i true)
def TX (P:Program) (ops:Array Oper) (cls:Nat->Xc):List Nat->(Env->AH->Prop)->Env->AH->Prop
 | [],K,e,H=>K e H
 | i::l,K,e,H=>∃ o,ops[i]? = some o/\sj P o (rho e) H (cls i) λr H'=>TX P ops cls l K (kN e o.dst r) H'
theorem xE {ops:Array Oper} {cls:Nat->Xc} {Q:Env->AH->Prop}:∀ (l:List Nat) (listed:Array Bool) (e:Env) (H:AH),FN ops cls l listed=true->TX P ops cls l Q e H->Dj P ops cls Q l.length listed e H
 | [],listed,e,H,hc,h=>⟨by simpa [FN] using hc,h⟩
 | i::l,listed,e,H,hc,h=>by
  obtain ⟨oi,hi,hs⟩:=h;simp only [FN,hi,bae] at hc;obtain ⟨hc1,hc2⟩:=hc;generalize hci:cls i=ci at hc1 hs;obtain ⟨b,F⟩:=ci
  cases b with
  | true=>
   simp only [if_true,beq_iff_eq] at hc1;refine ⟨λhn=>(by rw [hc1] at hn;cases hn),λj hj=>?_⟩;rw [hc1,List.mem_singleton] at hj;subst hj;exact ⟨oi,hi,by rw [hci];exact sj.mono (b:=(true,F)) hs λr G hr=>xE l _ _ _ hc2 hr⟩
  | false=>
   obtain ⟨r,hF,hy,hK⟩:=hs;simp only [Bool.false_eq_true,if_false,bae,MW,dte,Mv,MR] at hc1;refine zH hi hci l.length listed e H (λj oj hj hne hun hno=>?_) hc1.1 hF hy<|xE l _ _ _ hc2 hK;have hjs:j<ops.size:=(MX.1 hj).1;have := hc1.2 j hjs;simp only [hj,hun,Mt,beq_iff_eq,hne,false_or,Bool.false_eq_true,bae] at this;rw [hci];rcases this with h1 | h1
   ·rw [Array.any_eq_true'] at h1;obtain ⟨ed,h2,h3⟩:=h1;simp only [bae,beq_iff_eq] at h3;exact absurd h3.2<|hno ed h2 h3.1
   exact h1
theorem ut {nt:Nat} {ops:Array Oper} {cls:Nat->Xc} {Q:Exit->Env->AH->Prop} (hd:Ag nt ops.toList=true) (hg:ops.all (λo=>o.guard.isNone)=true):∀ (fuel:Nat) (listed:Array Bool) (e:Env) (H:AH),Dj P ops cls (Q .normal) fuel listed e H ->
  ∀ (c c0:Cx) (a:Act),c.H=H->Ext c0 c->SRel c nt e a->wpAny P .any ops (FQ nt c0 Q) fuel listed a c.w
 | 0,listed,e,H,h,c,c0,a,hH,hx,hs=>⟨h.1,trivial,c,e,rfl,hx,hs,hH ▸ h.2⟩
 | fuel+1,listed,e,H,h,c,c0,a,hH,hx,hs=>by
  refine ⟨λhr=>⟨trivial,c,e,rfl,hx,hs,hH ▸ h.1 hr⟩,λi hi=>?_⟩;obtain ⟨o,ho,hst⟩:=h.2 i hi;have hm:o∈ops.toList:=by rw [Array.mem_toList_iff];exact Array.mem_of_getElem? ho
  have hgn:o.guard=none:=by
   rw [Array.all_eq_true] at hg;obtain ⟨hlt,rfl⟩:=MX.1 ho;simpa using hg i hlt
  have hw:Region.wanted o (yielded ops a.tmps)=true:=by simp [Region.wanted,hgn]
  unfold wpOp;simp only [ho];rw [if_pos hw];refine .inl<|hst.opG c a _ _ hH hs.heap (λx _=>hs.rho x) λv c' r hA hr' hx' hv=>?_;exact ut hd hg fuel _ _ _ hA c' c0 _ rfl (hx.trans hx')<|hs.put o.dst (ku hd hm) hx' hr' hv
end
section
variable {P:Program} {nt b0:Nat} {Q:Exit->Env->AH->Prop} {e:Env} {H H':AH} {r:AV}
theorem T.drawX {i:Nat} {ops:Array Oper} (ord:List Nat) (cls:Nat->Xc) (hm:P.follows .mixedOrders=true) (hg:ops.all (λo=>o.guard.isNone)=true) (hc:(FN ops cls ord (Array.replicate ops.size false)&&(ord.length==ops.size))=true) (h:TX P ops cls ord (Q .normal) e H):T P nt b0 (.region i ops true) Q e H:=by
 intro hok c c0 a hH hb hx hs;simp only [codeOk] at hok;simp only [bae,beq_iff_eq] at hc;refine wp_region_any hm ?_;have hlex:=xE ord (Array.replicate ops.size false) e H hc.1 h;have := ut hok hg ord.length _ e H hlex c.drew c0 a hH (hx.trans c.drew_ext) ⟨hs.size,hs.defers,λt=>(hs.rel t).ext hs.heap c.drew_ext,Cx.drew_rel hs.heap⟩;rw [hc.2] at this;exact this
variable {d:Tmp} {op:Op} {ty:TypeId} {pos:String} {af:Array Edge} {en:List (Nat×AV)} {cls:Nat->Xc} {ops:Array Oper} {i:Nat} {K:Env->AH->Prop} {l:List Nat}
theorem TX.nil (h:K e H):TX P ops cls [] K e H:=h
theorem xN (h0:ops[i]? = some ⟨some d,op,ty,pos,af,none⟩) (hc:cls i=(false,[])) (hv:GU P (rho<|ai en) op r) (h:TX P ops cls l K (ai ((d,r)::en)) H):TX P ops cls (i::l) K (ai en) H:=
 ⟨_,h0,by rw [hc];exact ⟨r,λ_ h=>(by cases h),λG _=>hv _ rfl G,h⟩⟩
theorem xR (F:List Nat) (h0:ops[i]? = some ⟨some d,op,ty,pos,af,none⟩) (hc:cls i=(false,F)) (hb:F.all (λb=>Nat.blt b H.length)=true) (hv:∀ G,agr F G H->EvA P (rho<|ai en) op G r G) (h:TX P ops cls l K (ai ((d,r)::en)) H):TX P ops cls (i::l) K (ai en) H:=
 ⟨_,h0,by rw [hc];exact ⟨r,λb hm=>nlb<|Mv.1 hb b hm,λG hG=>hv G hG _ rfl,h⟩⟩
theorem xT {W:List Nat} {o:Oper} {R:AV->AH->Prop} {e:Env} (h0:ops[i]? = some o) (hc:cls i=(true,W)) (hv:OpG P o (rho e) H R) (hk:∀ r G,R r G->oQ W H G/\TX P ops cls l K (kN e o.dst r) G):TX P ops cls (i::l) K e H:=by
 refine ⟨o,h0,?_⟩;rw [hc];exact OpG.mono (R':=λr H'=>oQ W H H'/\TX P ops cls l K (kN e o.dst r) H') hv hk
theorem xA {W:List Nat} (h0:ops[i]? = some ⟨some d,op,ty,pos,af,none⟩) (hc:cls i=(true,W)) (hv:EvA P (rho<|ai en) op H r H') (hk:oQ W H H') (h:TX P ops cls l K (ai ((d,r)::en)) H'):TX P ops cls (i::l) K (ai en) H:=
 xT h0 hc (GN.opG<|hv ⟨some d,op,ty,pos,af,none⟩ rfl) λr' G hG=>by obtain ⟨e1,e2⟩:=hG;subst e1 e2;exact ⟨hk,h⟩
theorem xV {W:List Nat} (h0:ops[i]? = some ⟨none,op,ty,pos,af,none⟩) (hc:cls i=(true,W)) (hv:EvA P (rho<|ai en) op H r H') (hk:oQ W H H') (h:TX P ops cls l K (ai en) H'):TX P ops cls (i::l) K (ai en) H:=
 xT h0 hc (GN.opG<|hv ⟨none,op,ty,pos,af,none⟩ rfl) λr' G hG=>by obtain ⟨e1,e2⟩:=hG;subst e1 e2;exact ⟨hk,h⟩
theorem xG {cl:Call} {f:Operand} {g:FuncId} {jy Hd:List AV} {w m:Nat} {ety:TypeId} {mk:AV->AV} {n:Nat} {rows:List (List AV)} (h0:ops[i]? = some ⟨some d,.call cl,ty,pos,af,none⟩) (hci:cls i=(true,[])) (hc:cl.callee = .value f) (hf:rho (ai en) f = .fn (.func g) jy) (ha:cl.args.toList.map (rho<|ai en)++jy=Hd)
  (h:cz P g Hd H<|AA w ety mk n rows m H) (k:∀ g ver,(g=true->n=0)->TX P ops cls l K (ai ((d,mk<|hS g m ver w n)::en)) (H++[bE g ver w ety rows])):TX P ops cls (i::l) K (ai en) H:=by
 subst ha;exact xT h0 hci (qI rfl hc hf h) λr' G ⟨g',ver',hg,hr,hH⟩=>by
  subst hr hH;exact ⟨Dh,k g' ver' hg⟩
end
def EqS (a b:AV):Prop:=∀ (w:World) (fz:Nat->Prop) (v:Value),FRel w fz a v->FRel w fz b v
def Dk:List AV->List AV->Prop
 | [],[]=>True
 | a::r,b::q=>EqS a b/\Dk r q
 | _,_=>False
theorem Dk.len:∀ {r q:List AV},Dk r q->r.length=q.length
 | [],[],_=>rfl
 | a::r,b::q,h=>by rw [llc,llc,Dk.len h.2]
 | [],_::_,h=>h.elim
 | _::_,[],h=>h.elim
theorem Dk.get:∀ {r q:List AV},Dk r q->∀ {j:Nat} {b:AV},q[j]? = some b->∃ a,r[j]? = some a/\EqS a b
 | [],[],_,j,b,h=>by simp at h
 | a::r,b::q,h,0,c,hc=>by
  simp only [List.getElem?_cons_zero,sie] at hc;subst hc;exact ⟨a,rfl,h.1⟩
 | a::r,b::q,h,j+1,c,hc=>by
  simp only [Mm] at hc ⊢;exact h.2.get hc
 | [],_::_,h,_,_,_=>h.elim
 | _::_,[],h,_,_,_=>h.elim
theorem EqS.sl {n:Nat} {row row':Nat->List AV} (he:∀ i,i<n->Dk (row i) (row' i)):EqS (.sl n row) (.sl n row'):=λw fz v h=>by
 cases h with
 | @sl _ cap s g o _ a us hc hm ha hs hu h1 h3=>
  refine .sl (s:=s) (g:=g) (o:=o) us hc hm ha (λi hi=>?_) (λi j b hi hj=>?_) (λi j b hi hj=>?_) λi j b hi hj=>?_
  ·rw [<- (he i hi).len];exact hs i hi
  ·obtain ⟨a',ha',_⟩:=(he i hi).get hj;exact hu i j a' hi ha'
  ·obtain ⟨a',ha',_⟩:=(he i hi).get hj;exact h1 i j a' hi ha'
  obtain ⟨a',ha',e⟩:=(he i hi).get hj;exact e _ _ _<|h3 i j a' hi ha'
theorem EqS.fp {row row':List AV} (he:Dk row row') {j:Nat}:EqS (.fp row j) (.fp row' j):=λw fz v h=>by
 cases h with
 | fp us hg hlt hu h1 h3=>
  refine .fp us hg hlt (λj b hj=>?_) (λj b hj=>?_) λj b hj=>?_
  ·obtain ⟨a',ha',_⟩:=he.get hj;exact hu j a' ha'
  ·obtain ⟨a',ha',_⟩:=he.get hj;exact h1 j a' ha'
  obtain ⟨a',ha',e⟩:=he.get hj;exact e _ _ _<|h3 j a' ha'
theorem EqS.eL {α β:Type} [Inhabited α] [Inhabited β] {f:α->List AV} {g:β->List AV} {i:α->β} (h:∀ x,Dk (f x)<|g<|i x) (l:List α):EqS (eL f l) (eL g<|l.map i):=by
 unfold Go.Proofs.YtjcmfddobaplbaaGreat.eL;rw [llm];refine .sl λk hk=>?_;have e1:l.getD k default=l[k]:=by rw [gdq,geq hk];rfl
 have e2:(l.map i).getD k default=i l[k]:=by rw [gdq,Mr,geq hk];rfl
 rw [e1,e2];exact h _
section
variable {P:Program} {ρ:Operand->AV} {x:Operand} {t e:TypeId} {ag:Bool}
end
section
variable {P:Program} {ρ:Operand->AV} {H:AH}
end
abbrev jA:=@TO.nil
abbrev jC:=@T.region
abbrev jE:=@T.block
abbrev jG:=@T.skip
abbrev jH:=@T.seq
abbrev jI:=@T.sr
abbrev jK:=@T.ret
abbrev jM:=@T.exit
abbrev jN:=@T.ifH
abbrev jO:=@T.loop
abbrev jP:=@T.drawF
abbrev jQ:=@Fin.ret
abbrev jR:=@TF.nil
theorem qC {m:Nat} {H:AH} {a:AV} (h:isF 9 a=true):Fz m H a a:=.of_isF 9 _ h
theorem qD {α:Sort _} {β:α->Sort _} {f:(x:α)->β x}:∀ x,f x=f x:=λ_=>rfl
theorem mb (p:List<|List GY) (t i:Int) {q} (h:dW p t i=some q):aJ Tryz.prog 32 [eL (cL GY.c) p,I t,I i] (.tup [eL (cL GY.c) q.1,Bo q.2]):=by
 unfold dW at h;obtain ⟨⟨h1,h2⟩,h⟩:=gdD h;obtain rfl:=osl h;refine yK (to:=66) (ti:=69) (r:=bI (toP p) t i) (by kernel_rfl) λw fz vs hl hrel=>?_;obtain ⟨u,rfl⟩:=BL hl hrel;have hs:=iD (f:=Ins.cells) (s:=4) (e:=f8) (λ_=>rfl) (λ_=>rfl)<|hrel 0 _ u rfl rfl;exact l9 t i hs (Mk _) (by rw [oH];exact h2) (by rw [llm];exact h1)
theorem mf (p:List<|List GY) (t i:Int) {q} (h:dX p t i=some q):aJ Tryz.prog 33 [eL (cL GY.c) p,I t,I i] (.tup [eL (cL GY.c) q.1,Bo q.2]):=by
 unfold dX at h;obtain ⟨⟨h1,h2⟩,h⟩:=gdD h;obtain rfl:=osl h;refine yK (to:=66) (ti:=69) (r:=bI (toP p) t i) (by kernel_rfl) λw fz vs hl hrel=>?_;obtain ⟨u,rfl⟩:=BL hl hrel;have hs:=iD (f:=Ins.cells) (s:=4) (e:=f8) (λ_=>rfl) (λ_=>rfl)<|hrel 0 _ u rfl rfl;exact ma t i hs (Mk _) (by rw [oH];exact h2) (by rw [llm];exact h1)
theorem DI {vs:Array Value} {a:AV} (hl:vs.size=[a].length):∃ u,vs = #[u]:=by
 obtain ⟨l⟩:=vs
 match l,hl with
 | [u],_=>exact ⟨u,rfl⟩
theorem eU (p:List<|List GY) {q} (h:av p=some q):aJ Tryz.prog 16 [eL (cL GY.c) p] (Bo q):=by
 unfold av at h;obtain ⟨⟨h1,h2⟩,h⟩:=gdD h;obtain rfl:=osl h;refine ⟨by kernel_rfl,λw fz vs hlt _ hl hrel=>?_⟩;obtain ⟨u,rfl⟩:=DI hl;have hs:=iD (f:=Ins.cells) (s:=4) (e:=f8) (λ_=>rfl) (λ_=>rfl)<|hrel 0 _ u rfl rfl;refine (iB hs (Mk _)<|by rw [oH];exact h2).mono λe w' ⟨he,hb⟩ => ?_;exact ⟨_,fz,he,hb,.v Z,λg hg=>hg,λg hg => .inl hg,λg hg=>MB (hlt g hg) hb.size⟩
theorem eX (p:List<|List GY) {q} (h:aV p=some q):aJ Tryz.prog 68 [eL (cL GY.c) p] (Bo q):=by
 unfold aV at h;obtain ⟨⟨h1,h2⟩,h⟩:=gdD h;obtain rfl:=osl h;refine ⟨by kernel_rfl,λw fz vs hlt _ hl hrel=>?_⟩;obtain ⟨u,rfl⟩:=DI hl;have hs:=iD (f:=Ins.cells) (s:=4) (e:=f8) (λ_=>rfl) (λ_=>rfl)<|hrel 0 _ u rfl rfl;refine (iA hs (Mk _)<|by rw [oH];exact h2).mono λe w' ⟨he,hb⟩ => ?_;exact ⟨_,fz,he,hb,.v Z,λg hg=>hg,λg hg => .inl hg,λg hg=>MB (hlt g hg) hb.size⟩
theorem yN {p:List (List GY)} (h:zy p=true):p.length<=1048576/\∀ i,(p.getD i []).length<=1048576:=by
 simp only [zy,bae,dte,Mv] at h;refine ⟨h.1,λi=>?_⟩
 by_cases hi:i<p.length
 ·simpa [hi] using h.2 _ (Mw hi)
 simp [hi]
theorem uu {n m:Nat} (hn:n<=2097152) (hm:Nat.ble m 1000=true):eB n m=true:=by
 have h1:=nlb hm;have h2:n*m<=2097152*1000:=Nat.mul_le_mul hn h1;exact decide_eq_true ⟨by omega,by omega⟩
theorem BW (p:List<|List GY) {i:Nat} (h:i<p.length):p.take (i+1)=p.take i++[p.getD i []]:=by
 have e:p.getD i []=p[i]:=by rw [gdq,geq h];rfl
 rw [e];exact (List.take_append_getElem h).symm
theorem BZ (p:List<|List GY) (hp:zy p=true):cz Tryz.prog 75 [eL (cL GY.c) p] [] (w6 4 69 66 GY.c (λx=>x) p 0 []):=by
 obtain ⟨hp1,hp2⟩:=yN hp;refine cz.mkON Tryz.func75 rfl (by kernel_rfl) rfl (by kernel_rfl) (e0:=ai [(0,eL (cL GY.c) p)]) (GR rfl GQ) oD GY.isF ?_;refine T.seq ?_;refine T.region ?_;refine oN (GU.asg (.nil) rfl) ?_;refine TO.nil ?_;refine T.seq ?_;refine T.region ?_;refine oA (EvA.mkR ([]:List<|List AV) ib rfl rfl rfl rfl) ?_;refine oN (GU.asg (hS false 0 0 1 0) rfl) ?_;refine TO.nil ?_;refine T.seq ?_;refine T.seq ?_;refine T.region ?_;refine oN (GU.asg (I 0) rfl) ?_;refine TO.nil ?_;refine T.block ?_;refine T.loop (S:=Nat) (G:=NG×AH×Nat) (E:=Nat) (x:=p.length) (λi=>if i<p.length then some (.inl<|i+1) else some (.inr i)) (λi g=>i<=p.length/\NK 1 (some ⟨g.2.2,1,66,bK g.1 4<|p.take i⟩::g.2.1) g.1 4 69 GY.c (p.take i))
  (λi g=>[(4,I i),(3,hS false 0 g.2.2 1 (p.take i).length),(0,eL (cL GY.c) p)]) (λi g=>some ⟨g.2.2,1,66,bK g.1 4<|p.take i⟩::g.2.1) (s0:=0) (λ_=>(false,0,0),[],0)
  (ou (λi=>i) p.length (λi hi=>by simp [hi])<|by simp) ⟨Ml _,by exact NK.nil⟩ (zM rfl<|GR rfl<|GR rfl<|GR rfl GQ) (λi g z hz hinv=>?_)
 obtain ⟨gh,K,ver⟩:=g;obtain ⟨hle,hN⟩:=hinv;simp only at hN;generalize hl:p.take i=l at hN ⊢;refine T.seq ?_;refine T.seq ?_;refine T.region ?_;refine oN (GU.mv (I i) rfl) ?_;refine oN (GU.mv (eL (cL GY.c) p) rfl) ?_;refine oN (GU.lenL ib rfl) ?_;refine oN (GU.ilt rfl rfl) ?_;refine TO.nil ?_;have hll:l.length=i:=by rw [<- hl,List.length_take];omega
 refine T.cond rfl (λq=>?_) λq=>?_
 ·have hi:i<p.length:=by have := of_decide_eq_true q;omega
  rw [if_pos hi] at hz;obtain rfl:=osl hz;have hrow:=hp2 i;have htk:=BW p hi;rw [hl] at htk;generalize hr:p.getD i []=row at hrow htk;refine T.skip ?_;refine T.seq ?_;refine T.block ?_;refine T.region ?_;refine oN (GU.mv (hS false 0 ver 1 l.length) rfl) ?_;refine oA (EvA.mkO (c:=GY.c) (b:=K.length+1) ([]:List GY) [] mQ rfl rfl rfl (λ_=>rfl) rfl rfl) ?_;refine oN (GU.mv (eL (cL GY.c) p) rfl) ?_;refine oN (GU.mv (I i) rfl) ?_;refine oN (GU.ixL ib rfl rfl ⟨by omega,by omega⟩ λ_=>rfl) ?_;refine oN (GU.loadfp (eL GY.c row) r9 rfl<|by subst hr;rfl) ?_;refine oA (EvA.appF (l:=([]:List GY)) row mQ (by kernel_rfl) rfl rfl (uM (H:=_::K)) (bg.fz (l:=row) rfl λ_=>rfl)<|uu (by simp;omega) rfl) ?_;refine TO.clean (H0:=some ⟨ver,1,66,bK gh 4 l⟩::(K++[bE false 1 4 69 (row.map GY.c)])) (e0:=ai [(18,hS false (K.length+1) 1 4 row.length),(12,hS false 0 ver 1 l.length),(4,I i),(0,eL (cL GY.c) p)]) (Cv (H:=_::K)).symm (GR rfl<|GR rfl<|GR rfl<|GR rfl GQ) ?_;refine oA (EvA.mkR (b:=(K++[bE false 1 4 69 (row.map GY.c)]).length+1) [[hS false (K.length+1) 1 4 row.length]] ib rfl rfl rfl rfl) ?_;refine oA (EvA.appR (g:=false) (rows:=bK gh 4 l) (rows':=bK gh 4 l++[[hS false (K.length+1) 1 4 row.length]]) (n':=l.length+1) ib (by kernel_rfl) rfl rfl (cg gh 4 l).symm nofun (bg.raw (rows:=[[hS false (K.length+1) 1 4 row.length]]) rfl (uM (H:=_::(K++[_]))) rfl) (uu (by simp;omega) rfl) rfl rfl) ?_;refine oN (GU.asg (hS false 0 (ver+1) 1<|l.length+1) rfl) ?_;refine TO.nil ?_;refine T.region ?_;refine oN (GU.mv (I i) rfl) ?_;refine oN (GU.add rfl rfl<|IntWalk.i64_in _ ⟨by omega,by omega⟩) ?_;refine oN (GU.asg (I (i+1:Nat)) rfl) ?_;refine TO.nil ?_;refine ⟨i+1,(gh.put l.length (false,K.length+1,1),K++[bE false 1 4 69 (row.map GY.c)]++[some ⟨0,1,66,[[hS false (K.length+1) 1 4 row.length]]⟩],ver+1),rfl,⟨hi,?_⟩,zM ?_<|GR rfl<|GR ?_<|GR rfl GQ⟩
  ·rw [htk];refine hN.snoc (id:=K.length+1) (by simp) (by omega) (λb h1 h2=>?_) ?_ nofun
   ·match b,h1 with
    | b+1,_=>
     simp only [llc,MZ] at h2;simp only [Mm,MC];exact gal h2
   simp only [Mm];exact vP
  ·show some (ABlk.mk _ _ _<|bK _ 4<|p.take<|i+1)::_=_;rw [htk,<- tP]
   rfl
  show hS false 0 (ver+1) 1 (l.length+1)=hS false 0 (ver+1) 1 (p.take<|i+1).length;rw [htk,lla]
  rfl
 have hi : ¬ i<p.length:=by have := of_decide_eq_false q;omega
 rw [if_neg hi] at hz;obtain rfl:=osl hz;refine T.exit ?_;refine ⟨_,rfl,λhe=>?_⟩;subst he;rw [List.take_length] at hl;subst hl;refine T.seq ?_;refine T.region ?_;refine oN (GU.mv (hS false 0 ver 1 p.length) rfl) ?_;refine oN (GU.asg (hS false 0 ver 1 p.length) rfl) ?_;refine TO.nil ?_;refine T.ret ?_
 repeat first | refine iG ?_ | refine iH ?_
 exact Fin.ret (vs:=[hS false 0 ver 1 p.length]) (.cons (.tmp rfl) .nil) ⟨0,ver,gh,rfl,rfl,⟨λi hi=>⟨Ml _,(hN.at_ i hi).2⟩,hN.qO,hN.sep⟩,λi hi h0=>absurd (hN.at_ i hi).1<|by omega⟩
theorem NK.row {r o:Option ABlk} {K:AH} {gh:NG} {w:Nat} {ty:TypeId} {f:GY->List AV} {l:List (List GY)} (h:NK 2 (r::o::K) gh w ty f l) {i:Nat} (hi:i<l.length):∃ g k v,gh i=(g,k+2,v)/\k<K.length/\K[k]? = some (bE g v w ty<|(l.getD i []).map f)/\(g=true->l.getD i []=[]):=by
 obtain ⟨h1,h2⟩:=h.at_ i hi;have h3:=h.qO i hi;generalize he:gh i=x at h1 h2 h3;obtain ⟨g,id,v⟩:=x;simp only at h1 h2 h3;obtain ⟨k,rfl⟩:∃ k,id=k+2:=⟨id-2,by omega⟩;simp only [Mm] at h2;exact ⟨g,k,v,rfl,(ges h2).1,h2,h3⟩
theorem NK.turn {r o r' o':Option ABlk} {K:AH} {gh:NG} {w:Nat} {ty:TypeId} {f:GY->List AV} {l:List (List GY)} (h:NK 2 (r::o::K) gh w ty f l) {i:Nat} (hi:i<l.length) {g:Bool} {k v:Nat} (he:gh i=(g,k+2,v)) {g':Bool} {v':Nat} {x:List GY} (hg:g'=true->x=[]) :
  NK 2 (r'::o'::K.set k (bE g' v' w ty<|x.map f)) (gh.put i (g',k+2,v')) w ty f (l.set i x):=by
 have h1:=h.set hi (g:=g') (ver:=v') (r:=x) hg;rw [he] at h1;refine h1.low λb hb _=>?_
 match b,hb with
 | b+2,_=>simp [Mm]
theorem lu (code:LI) {q} (h:ek code=some q):dB Tryz.prog 44 [eL cY code] [] (.hp 0 0 2 0 0) [some ⟨0,2,99,[(aa.c q)]⟩]:=by
 refine aM Tryz.func44 Z (by kernel_rfl) Z<|jI<|oN as'<|jA ?_;refine T.jU h (λs1=>[(0,eL cY s1)]) (λs1=>[]) (λs1 h=>?_) λs1 h=>?_
 ·refine jI<|oN mv<|oN (GU.build [eL cY s1,I U] Tryz.underlying99 GL zQ Z Z)<|oA (EvA.bx (cs:=[eL cY s1,I U]) Z Z Z)<|oN as'<|jA<|jK ?_;obtain rfl:=GX h
  repeat (first|refine iG ?_|refine iH ?_)
  exact ⟨ai [(2,.hp 0 0 2 0 0)],[some ⟨0,2,99,[(aa.c (⟨s1,U⟩:aa))]⟩],kw Z Z,jQ (vs:=[.hp 0 0 2 0 0]) (.cons (.tmp Z) .nil) ⟨Z,Z⟩⟩
 refine jI<|oN mv<|oN (GU.lenL nM Z)<|oN (GU.igt Z Z)<|jA ?_;refine jN Z h (λq2 h=>?_) λq2 h=>?_
 ·refine jC<|oN mv<|jD h λg3 h=>oN (GU.slL nM Z .no (.yes Z) g3 qD)<|oN as'<|jA ?_
  cases h
  exact ⟨(),trivial,kw Z Z⟩
 refine jG ?_
 cases h
 exact ⟨(),trivial,kw Z Z⟩
theorem aB (r_:aa) (n:Int) (bv:Nat) {q} (h:ax r_ n=some q):dB Tryz.prog 45 [.hp 0 bv 2 0 0,I n] [some ⟨bv,2,99,[(aa.c r_)]⟩] (I q.2) [some ⟨bv,2,99,[(aa.c q.1)]⟩]:=by
 let d0:=((r_.p+V)-V);refine aM Tryz.func45 Z (by kernel_rfl) Z<|jI<|oN as'<|jA<|jI<|oN mv<|oN mv<|oN (nl Z)<|oN (fa zQ Z)<|oA (lh (I r_.p) G9 Z Z Z)<|jW h λg1 h=>oN (GU.add Z Z g1)<|oN (nl Z)<|oN (fa zQ Z)<|oV (sr [eL cY r_.b,I (r_.p+V)] G9 Z Z Z Z)<|jA ?_;refine jH<|jI<|oN mv<|oN (GU.ilt Z Z)<|oN mv ?_;refine TO.jB h 7 (λs2=>[(24,Bo s2),(0,.hp 0 bv 2 0 0),(1,I n)]) (λs2=>[some ⟨bv,2,99,[[eL cY r_.b,I (r_.p+V)]]⟩]) (λs2 q3 h js2=>?_) (λs2 q3 h js2=>?_) λs2 h=>?_
 ·refine gS Z q3<|gS Z q3<|gS Z q3<|gS Z q3<|gS Z q3<|gS Z q3<|oN (GU.pickT Z q3 (Bo true) Z) ?_
  cases h
  exact js2 _ _<|kw Z Z
 ·refine gN Z q3 mv<|gN Z q3 (nl Z)<|gN Z q3 (fa zQ Z)<|gA Z q3 (lh (eL cY r_.b) vp Z Z Z)<|gN Z q3 (GU.lenL nM Z)<|gN Z q3 (GU.ieq Z Z)<|oN (GU.pickF Z q3 (Bo<|(r_.b.length:Int)==U) Z) ?_
  cases h
  exact js2 _ _<|kw Z Z
 refine jA ?_;refine jN Z h (λq4 h=>?_) λq4 h=>?_
 ·refine jI<|oN as'<|jA<|jK ?_;obtain rfl:=GX h
  repeat (first|refine iG ?_|refine iH ?_)
  exact ⟨ai [(4,I U)],[some ⟨bv,2,99,[(aa.c (⟨r_.b,(r_.p+V)⟩:aa))]⟩],kw Z Z,jQ (vs:=[I U]) (.cons (.tmp Z) .nil) ⟨Z,Z⟩⟩
 refine jG<|jI<|oN mv<|oN (nl Z)<|oN (fa zQ Z)<|oA (lh (I<|r_.p+V) G9 Z Z Z)<|jW h λg5 h=>oN (GU.sub Z Z g5)<|oN as'<|jA<|jH<|jI<|oN mv<|oN mv<|oN (nl Z)<|oN (fa zQ Z) ?_;refine oA (lh (eL cY r_.b) vp Z Z Z)<|oN (GU.lenL nM Z)<|oN (GU.ilt Z Z)<|jA ?_;refine jN Z h (λq6 h=>?_) λq6 h=>?_
 ·refine jI<|oN mv<|oN (nl Z)<|oN (fa zQ Z)<|oA (lh (eL cY r_.b) vp Z Z Z)<|oN mv<|jD h λg7 h=>oN (GU.ixL nM Z Z g7 qD)<|oN (lf (Y<|J r_.b d0) Ha Z)<|jW h λg8 h=>oN (GU.iconv Ha.und Tryz.underlying3 Z g8)<|oN mv<|jD h λg9 h=>oN (GU.rem Z Z g9)<|oN as'<|jA ?_;refine jK ?_;obtain rfl:=GX h
  repeat (first|refine iG ?_|refine iH ?_)
  exact ⟨ai [(4,I<|(J r_.b d0).tmod n)],[some ⟨bv,2,99,[(aa.c (⟨r_.b,(r_.p+V)⟩:aa))]⟩],kw Z Z,jQ (vs:=[I ((J r_.b d0).tmod n)]) (.cons (.tmp Z) .nil) ⟨Z,Z⟩⟩
 refine jG<|jH<|jP (dG [dF,dF,dF,([0],false),dF,dF,dF,dF,([0],false),dF,dF,dF,dF,dF,dF,dF,dF,dF,([0],false),dF,dF,dF,dF,dF,dF,([0],false),dF,dF,dF,dF,dF,dF,dF,dF,dF,dF,dF,dF,dF,dF,([0],false),dF,dF,dF,dF,dF]) (by kernel_rfl) (by kernel_rfl)<|fN Z mv<|fN Z (nl Z)<|fN Z (fa zQ Z)<|fR [0] Z (λG hG=>EvA.loadhp (eL cY r_.b) vp Z (hG.a0 Z) Z Z Z Z)<|fN Z mv<|fN Z mv<|fN Z (nl Z)<|fN Z (fa zQ Z)<|fR [0] Z (λG hG=>EvA.loadhp (eL cY r_.b) vp Z (hG.a0 Z) Z Z Z Z)<|fN Z (GU.lenL nM Z)<|jD h λg10 h=>fN Z (GU.rem Z Z g10)<|jD h λg11 h=>?_;refine fN Z (GU.ixL nM Z Z g11 qD)<|fN Z (lf (Y<|J r_.b<|d0.tmod (r_.b.length:Int)) Ha Z)<|jW h λg12 h=>fN Z (GU.iconv Ha.und Tryz.underlying3 Z g12)<|jW h λg13 h=>fN Z (GU.mul Z Z g13)<|fN Z mv<|fN Z (nl Z)<|fN Z (fa zQ Z)<|fR [0] Z (λG hG=>EvA.loadhp (eL cY r_.b) vp Z (hG.a0 Z) Z Z Z Z)<|fN Z mv<|jW h λg14 h=>fN Z (GU.mul Z Z g14)<|jW h λg15 h=>fN Z (GU.add Z Z g15)<|fN Z mv ?_;refine fN Z (nl Z)<|fN Z (fa zQ Z)<|fR [0] Z (λG hG=>EvA.loadhp (eL cY r_.b) vp Z (hG.a0 Z) Z Z Z Z)<|fN Z (GU.lenL nM Z)<|fN Z (GU.rem Z Z g10)<|jD h λg16 h=>fN Z (GU.ixL nM Z Z g16 qD)<|fN Z (lf (Y<|J r_.b<|((d0*(7:Int))+(3:Int)).tmod (r_.b.length:Int)) Ha Z)<|jW h λg17 h=>fN Z (GU.iconv Ha.und Tryz.underlying3 Z g17)<|jW h λg18 h=>fN Z (GU.mul Z Z g18)<|jW h λg19 h=>fN Z (GU.add Z Z g19)<|fN Z mv<|jW h λg20 h=>?_;refine fN Z (GU.mul Z Z g20)<|jW h λg21 h=>fN Z (GU.add Z Z g21)<|fN Z mv<|fN Z mv<|fN Z (nl Z)<|fN Z (fa zQ Z)<|fR [0] Z (λG hG=>EvA.loadhp (eL cY r_.b) vp Z (hG.a0 Z) Z Z Z Z)<|fN Z (GU.lenL nM Z)<|jW h λg22 h=>fN Z (GU.quo Z Z g10 g22)<|jW h λg23 h=>fN Z (GU.mul Z Z g23)<|jW h λg24 h=>fN Z (GU.add Z Z g24)<|fN Z as' ?_;refine jR<|jH<|T.clean (H0:=[some ⟨bv,2,99,[[eL cY r_.b,I (r_.p+V)]]⟩]) (e0:=ai [(6,I<|((((J r_.b<|d0.tmod (r_.b.length:Int))*(131:Int))+((J r_.b<|((d0*(7:Int))+(3:Int)).tmod (r_.b.length:Int))*(1117:Int)))+(d0*(29:Int)))+((d0.tdiv (r_.b.length:Int))*(53:Int))),(1,I n)]) Z (GR Z<|GR Z GQ)<|jC<|oN mv<|oN mv<|jD h λg25 h=>jW h λg26 h=>oN (GU.quo Z Z g25 g26)<|jB h λw27 ew27 h=>?_;replace ew27:=osi ew27;refine oN (GU.res (GU.bxor Z Z) (r':=I w27) λ_ _ hr=>by rw [<- ew27];exact hr)<|oN as'<|jA<|jI<|oN mv<|oN mv<|jD h λg28 h=>oN (GU.rem Z Z g28)<|oN as'<|jA<|jK ?_;obtain rfl:=GX h
 repeat (first|refine iG ?_|refine iH ?_)
 exact ⟨ai [(4,I<|w27.tmod n)],[some ⟨bv,2,99,[(aa.c (⟨r_.b,(r_.p+V)⟩:aa))]⟩],kw Z Z,jQ (vs:=[I (w27.tmod n)]) (.cons (.tmp Z) .nil) ⟨Z,Z⟩⟩
theorem bF (r_:aa) (list:LI) (bv:Nat) {q} (h:aR r_ list=some q):dB Tryz.prog 46 [.hp 0 bv 2 0 0,eL cI list] [some ⟨bv,2,99,[(aa.c r_)]⟩] (I q.2) [some ⟨bv,2,99,[(aa.c q.1)]⟩]:=by
 refine aM Tryz.func46 Z (by kernel_rfl) Z<|jI<|oN as'<|jA<|jI<|oN mv<|oN mv<|oN mv<|oN (GU.lenL mV Z)<|jB h λv1 cv1 h=>oA (EvA.call Z Z Z<|(aB (⟨r_.b,r_.p⟩:aa) (list.length:Int) bv cv1).one 0 Z (.cons (.hp Z)<|.cons (.pF Z) .nil) (aj Z) (aj Z) Z)<|jD h λg2 h=>oN (GU.ixL mV Z Z g2 qD)<|oN (lf (I<|J list v1.2) G9 Z)<|oN as'<|jA ?_;refine jK ?_;obtain rfl:=GX h
 repeat (first|refine iG ?_|refine iH ?_)
 exact ⟨ai [(4,I<|J list v1.2)],[some ⟨bv,2,99,[(aa.c (⟨v1.1.b,v1.1.p⟩:aa))]⟩],kw Z Z,jQ (vs:=[I (J list v1.2)]) (.cons (.tmp Z) .nil) ⟨Z,Z⟩⟩
theorem pY (r_:aa) (list:List ByteArray) (bv:Nat) {q} (h:gI r_ list=some q):dB Tryz.prog 76 [.hp 0 bv 2 0 0,eL cS list] [some ⟨bv,2,99,[(aa.c r_)]⟩] (St q.2) [some ⟨bv,2,99,[(aa.c q.1)]⟩]:=by
 refine aM Tryz.func76 Z (by kernel_rfl) Z<|jI<|oN as'<|jA<|jI<|oN mv<|oN mv<|oN mv<|oN (GU.lenL yL Z)<|jB h λv1 cv1 h=>oA (EvA.call Z Z Z<|(aB (⟨r_.b,r_.p⟩:aa) (list.length:Int) bv cv1).one 0 Z (.cons (.hp Z)<|.cons (.pF Z) .nil) (aj Z) (aj Z) Z)<|jD h λg2 h=>oN (GU.ixL yL Z Z g2 qD)<|oN (lf (St<|J list v1.2) ty9 Z)<|oN as'<|jA ?_;refine jK ?_;obtain rfl:=GX h
 repeat (first|refine iG ?_|refine iH ?_)
 exact ⟨ai [(4,St<|J list v1.2)],[some ⟨bv,2,99,[(aa.c (⟨v1.1.b,v1.1.p⟩:aa))]⟩],kw Z Z,jQ (vs:=[St (J list v1.2)]) (.cons (.tmp Z) .nil) ⟨Z,Z⟩⟩
theorem p5 (r_:aa) (p:List<|List GY) (bv:Nat) {q} (h:eP r_ p=some q):dB Tryz.prog 84 [.hp 0 bv 2 0 0,eL (cL GY.c) p] [some ⟨bv,2,99,[[eL cY r_.b,I r_.p]]⟩] (eL (cL GY.c) q.2) [some ⟨bv,2,99,[[eL cY q.1.b,I q.1.p]]⟩]:=by
 refine dB.mkT Tryz.func84 Z (by kernel_rfl) Z (by kernel_rfl) (e0:=ai [(0,.hp 0 bv 2 0 0),(1,eL (cL GY.c) p)]) (GR Z<|GR Z GQ) ?_;unfold eP at h;obtain ⟨hp,h⟩:=gdL h;obtain ⟨hp1,hp2⟩:=yN hp;refine jH ?_;refine jC ?_;refine oN (GU.asg (.nil) Z) ?_;refine jA ?_;refine jH ?_;refine jC ?_;refine oN (GU.mv (eL (cL GY.c) p) Z) ?_;refine oGN (m:=1) Z Z Z Z GY.isF ((BZ p hp).ownN Z GY.isF oD 1 Z) λver gh K hN hK=>?_;clear hK;replace hN:NK 2 (some ⟨bv,2,99,[[eL cY r_.b,I r_.p]]⟩::some ⟨ver,1,66,bK gh 4 p⟩::K) gh 4 69 GY.c p:=hN;refine TO.clean (H0:=some ⟨bv,2,99,[[eL cY r_.b,I r_.p]]⟩::some ⟨ver,1,66,bK gh 4 p⟩::K) (e0:=ai [(8,hS false 1 ver 1 p.length),(0,.hp 0 bv 2 0 0)]) Z (GR Z<|GR Z GQ) ?_;refine oN (GU.asg (hS false 1 ver 1 p.length) Z) ?_;refine jA ?_;refine jH ?_;refine jH ?_;refine jC ?_;refine oN (GU.mv (hS false 1 ver 1 p.length) Z) ?_;refine oN (GU.lenO (g:=false) ib Z nofun) ?_;refine oN (GU.ieq Z Z) ?_;refine jA ?_;refine T.cond Z (λqz=>?_) λqz=>?_
 ·have h0:p.length=0:=by have := eq_of_beq qz;omega
  replace h:=wW (show Nat.beq p.length 0=true by rw [h0];rfl) h;refine jH ?_;refine jC ?_;refine oN (GU.mv (hS false 1 ver 1 p.length) Z) ?_;refine oN (GU.asg (hS false 1 ver 1 p.length) Z) ?_;refine jA ?_;refine jK ?_;obtain rfl:=osl h
  repeat first | refine iG ?_ | refine iH ?_
  exact ⟨ai [(4,eL (cL GY.c) p)],[some ⟨bv,2,99,[[eL cY r_.b,I r_.p]]⟩],pG Z (.cons (.row<|.cons (.fz<|qC Z)<|.cons (.fz<|qC Z) .nil) .nil)<|au (.fz<|hN.fzm Z Z Z Z GY.isF) bO,jQ (vs:=[eL (cL GY.c) p]) (.cons (.tmp Z) .nil) ⟨Z,Z⟩⟩
 have h0:p.length≠0:=λh0=>by rw [h0] at qz;exact absurd qz (by decide)
 replace h:=wX (show Nat.beq p.length 0=false by cases hc:p.length with | zero=>exact absurd hc h0 | succ n=>rfl) h;refine jG ?_;refine jH ?_;refine jC ?_;refine oN (GU.mv (.hp 0 bv 2 0 0) Z) ?_;refine oN (GU.mv (hS false 1 ver 1 p.length) Z) ?_;refine oN (GU.lenO (g:=false) ib Z nofun) ?_;obtain ⟨v1,cv1,h⟩:=wV h;refine oA (EvA.call Z Z Z<|(aB r_ (p.length:Int) bv cv1).one 0 Z (.cons (.hp Z)<|.cons (.pF Z) .nil) (aj Z) (aj Z) Z) ?_;refine oN (GU.asg (I v1.2) Z) ?_;refine jA ?_;refine T.joinF (G:=Unit) (λ_=>True) (λ_=>[(5,eL (cL GY.c) q.2)]) (λ_=>[some ⟨bv,2,99,[[eL cY q.1.b,I q.1.p]]⟩]) (λ_ _=>?_) ?_
 ·clear h;refine jH ?_;refine jC ?_;refine oN (GU.mv (eL (cL GY.c) q.2) Z) ?_;refine oN (GU.asg (eL (cL GY.c) q.2) Z) ?_;refine jA ?_;refine jK ?_
  repeat first | refine iG ?_ | refine iH ?_
  exact ⟨ai [(4,eL (cL GY.c) q.2)],[some ⟨bv,2,99,[[eL cY q.1.b,I q.1.p]]⟩],zM Z<|GR Z GQ,jQ (vs:=[eL (cL GY.c) q.2]) (.cons (.tmp Z) .nil) ⟨Z,Z⟩⟩
 refine jH ?_;refine jC ?_;refine oN (GU.mv (.hp 0 bv 2 0 0) Z) ?_;obtain ⟨v2,cv2,h⟩:=wV h;refine oA (EvA.call Z Z Z<|(aB v1.1 (40:Int) bv cv2).one 0 Z (.cons (.hp Z)<|.cons (.pF Z) .nil) (aj Z) (aj Z) Z) ?_;refine jA ?_;obtain ⟨hi,h⟩:=gdD h;refine T.clean (H0:=some ⟨bv,2,99,[[eL cY v2.1.b,I v2.1.p]]⟩::some ⟨ver,1,66,bK gh 4 p⟩::K) (e0:=ai [(18,I v2.2),(6,I v1.2),(5,hS false 1 ver 1 p.length),(0,.hp 0 bv 2 0 0)]) Z (GR Z<|GR Z<|GR Z<|GR Z GQ) ?_
 replace hN:NK 2 (some ⟨bv,2,99,[[eL cY v2.1.b,I v2.1.p]]⟩::some ⟨ver,1,66,bK gh 4 p⟩::K) gh 4 69 GY.c p:=hN.low λb hb _=>by match b,hb with | b+2,_=>rfl
 have hin:v1.2.toNat<p.length:=by omega
 clear cv1 cv2 hp;refine jE ?_;refine jH ?_;refine jC ?_;refine oN (GU.ieq Z Z) ?_;refine oN (GU.asg (Bo<|v2.2==U) Z) ?_;refine jA ?_;refine T.cond Z (λq0=>?_) λq0=>?_
 ·replace h:=wW q0 h;obtain ⟨g,k,v,hg,hk,hK,hnil⟩:=hN.row (i:=v1.2.toNat) hin;have hlen:=hp2 v1.2.toNat;unfold Cg at h;generalize hrw:p.getD v1.2.toNat []=row at hK hnil h hlen;refine jP (λi=>[([],false),([],false),([],false),([],false),([],false),([1],false),([],false),([],false),([0],true),([],false),([],false),([0],true),([],false),([],false),([k+2],true),([],false),([1],true)].getD i ([],false)) (by kernel_rfl) (by kernel_rfl) ?_;refine fN Z (GU.mv (hS false 1 ver 1 p.length) Z) ?_;refine fN Z (GU.mv (I v1.2) Z) ?_;refine fN Z (GU.mv (hS false 1 ver 1 p.length) Z) ?_;refine fN Z (GU.mv (I v1.2) Z) ?_;refine fN Z (GU.ixO (g:=false) ib Z Z nofun hi) ?_;refine fR [1] Z (λG hG=>EvA.loadhp (hS g (k+2) v 4 row.length) r9 Z (hG.a0 Z) Z Z (show (bK gh 4 p)[v1.2.toNat]? = some [hS g (k+2) v 4 row.length] by rw [bM hin,vO,hg,hrw]) Z) ?_;refine fN Z (GU.mv (.hp 0 bv 2 0 0) Z) ?_;refine fN Z (GU.mkF (c:=cI) ([(0:Int),(6:Int),V,(4:Int)]:LI) [[I U],[I (6:Int)],[I V],[I (4:Int)]] mV Z Z Z qD qD Z) ?_;obtain ⟨a,ca,h⟩:=wV h;refine fW 0 [] Z Z (λG hG=>EvA.call Z Z Z<|(bF v2.1 ([(0:Int),(6:Int),V,(4:Int)]:LI) bv ca).one 0 (hG.a0 Z) (.cons (.hp Z)<|.cons (.pF Z) .nil) (aj Z) (aj Z) Z) ?_;refine fN Z (GU.mv (.hp 0 bv 2 0 0) Z) ?_;refine fN Z (GU.mkF (c:=cI) ([(0:Int),(3:Int),(-1:Int)]:LI) [[I U],[I (3:Int)],[I (-1:Int)]] mV Z Z Z qD qD Z) ?_;obtain ⟨b,cb,h⟩:=wV h;refine fW 0 [] Z Z (λG hG=>EvA.call Z Z Z<|(bF a.1 ([(0:Int),(3:Int),(-1:Int)]:LI) bv cb).one 0 (hG.a0 Z) (.cons (.hp Z)<|.cons (.pF Z) .nil) (aj Z) (aj Z) Z) ?_;refine fN Z (GU.build [I a.2,I b.2,I U,I U] Tryz.underlying69 o8 fH Z Z) ?_;refine fN Z (GU.mkF (c:=GY.c) ([(⟨a.2,b.2,U,U⟩:GY)]:List GY) [[I a.2,I b.2,I U,I U]] mQ Z Z Z qD GY.isF Z) ?_;refine fW (k+2) [] Z (M0<|by simp;omega) (λG hG=>EvA.app1 (g:=g) (l:=row) (⟨a.2,b.2,(0:Int),(0:Int)⟩:GY) mQ (by kernel_rfl) Z Z (hG.a0 hK) hnil (bg.fz (l:=[(⟨a.2,b.2,(0:Int),(0:Int)⟩:GY)]) Z qD)<|uu (by omega) Z) ?_;refine fN Z (GU.ixO (g:=false) ib Z Z nofun hi) ?_;refine fV 1 [] Z Z (λG hG=>EvA.st ⟨ver,1,66,(bK gh 4 p).set v1.2.toNat [hS false (k+2) (v+1) 4 (row++[(⟨a.2,b.2,U,U⟩:GY)]).length]⟩ r9 Z Z (hG.a0 Z) Z Z (show (bK gh 4 p)[v1.2.toNat]? = some [hS g (k+2) v 4 row.length] by rw [bM hin,vO,hg,hrw]) Z Z Z) ?_;refine jR ?_;obtain rfl:=osl h;have hN2:=hN.turn (r':=some ⟨bv,2,99,[[eL cY b.1.b,I b.1.p]]⟩) (o':=some ⟨ver,1,66,bK (gh.put v1.2.toNat (false,k+2,v+1)) 4<|p.set v1.2.toNat<|row++[(⟨a.2,b.2,U,U⟩:GY)]⟩) hin hg (g':=false) (v':=v+1) (x:=row++[(⟨a.2,b.2,U,U⟩:GY)]) nofun;rw [<- lZ hin] at hN2;refine ⟨(),trivial,pG Z (.cons (.row<|.cons (.fz<|qC Z)<|.cons (.fz<|qC Z) .nil) .nil)<|au (.fz<|hN2.fzm (to:=66) Z Z ?_ (by simp) GY.isF) bO⟩;rw [<- lZ hin]
  rfl
 replace h:=wX q0 h;refine jH ?_;refine jC ?_;refine oN (GU.ieq Z Z) ?_;refine oN (GU.asg (Bo<|v2.2==V) Z) ?_;refine jA ?_;refine T.cond Z (λq1=>?_) λq1=>?_
 ·replace h:=wW q1 h;obtain ⟨g,k,v,hg,hk,hK,hnil⟩:=hN.row (i:=v1.2.toNat) hin;have hlen:=hp2 v1.2.toNat;unfold Cg at h;generalize hrw:p.getD v1.2.toNat []=row at hK hnil h hlen;refine jP (λi=>[([],false),([],false),([],false),([],false),([],false),([1],false),([],false),([],false),([0],true),([],false),([],false),([k+2],true),([],false),([1],true)].getD i ([],false)) (by kernel_rfl) (by kernel_rfl) ?_;refine fN Z (GU.mv (hS false 1 ver 1 p.length) Z) ?_;refine fN Z (GU.mv (I v1.2) Z) ?_;refine fN Z (GU.mv (hS false 1 ver 1 p.length) Z) ?_;refine fN Z (GU.mv (I v1.2) Z) ?_;refine fN Z (GU.ixO (g:=false) ib Z Z nofun hi) ?_;refine fR [1] Z (λG hG=>EvA.loadhp (hS g (k+2) v 4 row.length) r9 Z (hG.a0 Z) Z Z (show (bK gh 4 p)[v1.2.toNat]? = some [hS g (k+2) v 4 row.length] by rw [bM hin,vO,hg,hrw]) Z) ?_;refine fN Z (GU.mv (.hp 0 bv 2 0 0) Z) ?_;refine fN Z (GU.mkF (c:=cI) ([(4:Int),(-1:Int),(3:Int)]:LI) [[I (4:Int)],[I (-1:Int)],[I (3:Int)]] mV Z Z Z qD qD Z) ?_;obtain ⟨a,ca,h⟩:=wV h;refine fW 0 [] Z Z (λG hG=>EvA.call Z Z Z<|(bF v2.1 ([(4:Int),(-1:Int),(3:Int)]:LI) bv ca).one 0 (hG.a0 Z) (.cons (.hp Z)<|.cons (.pF Z) .nil) (aj Z) (aj Z) Z) ?_;refine fN Z (GU.build [I (2:Int),I U,I U,I a.2] Tryz.underlying69 o8 fH Z Z) ?_;refine fN Z (GU.mkF (c:=GY.c) ([(⟨(2:Int),U,U,a.2⟩:GY)]:List GY) [[I (2:Int),I U,I U,I a.2]] mQ Z Z Z qD GY.isF Z) ?_;refine fW (k+2) [] Z (M0<|by simp;omega) (λG hG=>EvA.app1 (g:=g) (l:=row) (⟨(2:Int),(0:Int),(0:Int),a.2⟩:GY) mQ (by kernel_rfl) Z Z (hG.a0 hK) hnil (bg.fz (l:=[(⟨(2:Int),(0:Int),(0:Int),a.2⟩:GY)]) Z qD)<|uu (by omega) Z) ?_;refine fN Z (GU.ixO (g:=false) ib Z Z nofun hi) ?_;refine fV 1 [] Z Z (λG hG=>EvA.st ⟨ver,1,66,(bK gh 4 p).set v1.2.toNat [hS false (k+2) (v+1) 4 (row++[(⟨(2:Int),U,U,a.2⟩:GY)]).length]⟩ r9 Z Z (hG.a0 Z) Z Z (show (bK gh 4 p)[v1.2.toNat]? = some [hS g (k+2) v 4 row.length] by rw [bM hin,vO,hg,hrw]) Z Z Z) ?_;refine jR ?_;obtain rfl:=osl h;have hN2:=hN.turn (r':=some ⟨bv,2,99,[[eL cY a.1.b,I a.1.p]]⟩) (o':=some ⟨ver,1,66,bK (gh.put v1.2.toNat (false,k+2,v+1)) 4<|p.set v1.2.toNat<|row++[(⟨(2:Int),U,U,a.2⟩:GY)]⟩) hin hg (g':=false) (v':=v+1) (x:=row++[(⟨(2:Int),U,U,a.2⟩:GY)]) nofun;rw [<- lZ hin] at hN2;refine ⟨(),trivial,pG Z (.cons (.row<|.cons (.fz<|qC Z)<|.cons (.fz<|qC Z) .nil) .nil)<|au (.fz<|hN2.fzm (to:=66) Z Z ?_ (by simp) GY.isF) bO⟩;rw [<- lZ hin]
  rfl
 replace h:=wX q1 h;refine jH ?_;refine jC ?_;refine oN (GU.ieq Z Z) ?_;refine oN (GU.asg (Bo<|v2.2==(2:Int)) Z) ?_;refine jA ?_;refine T.cond Z (λq2=>?_) λq2=>?_
 ·replace h:=wW q2 h;refine jE ?_;refine jO (S:=Nat) (G:=NG×AH×Nat) (E:=Nat) (x:=4-p.length) (λj=>if p.length+j<=3 then some (.inl<|j+1) else some (.inr j)) (λj g=>j<=4-p.length/\NK 2 (some ⟨bv,2,99,[[eL cY v2.1.b,I v2.1.p]]⟩::some ⟨g.2.2,1,66,bK g.1 4<|p++Mj j []⟩::g.2.1) g.1 4 69 GY.c (p++Mj j [])) (λj g=>[(5,hS false 1 g.2.2 1 (p++Mj j []).length)]) (λj g=>some ⟨bv,2,99,[[eL cY v2.1.b,I v2.1.p]]⟩::some ⟨g.2.2,1,66,bK g.1 4<|p++Mj j []⟩::g.2.1) (s0:=0) (gh,K,ver) (ou (λi=>i) (4-p.length) (λi hi=>by rw [if_pos (by omega)])<|by rw [if_neg (by omega)]) ⟨Ml _,by simpa using hN⟩ (zM (by simp)<|GR (by simp;rfl) GQ) (λj g z hz hinv=>?_);obtain ⟨gh,K,ver⟩:=g;obtain ⟨hle,hN⟩:=hinv;simp only at hN;have hll:(p++Mj j []).length=p.length+j:=by simp
  have htk:p++Mj (j+1) []=(p++Mj j [])++[([]:List GY)]:=by rw [M3,MC]
  generalize hl:(p++Mj j [])=l at hN hll htk ⊢;refine jH ?_;refine jH ?_;refine jC ?_;refine oN (GU.mv (hS false 1 ver 1 l.length) Z) ?_;refine oN (GU.lenO (g:=false) ib Z nofun) ?_;refine oN (GU.ile Z Z) ?_;refine jA ?_;refine T.cond Z (λqa=>?_) λqa=>?_
  ·have hj:p.length+j<=3:=by have := of_decide_eq_true qa;omega
   rw [if_pos hj] at hz;obtain rfl:=osl hz;refine jG ?_;refine jE ?_;refine jC ?_;refine oN (GU.mv (hS false 1 ver 1 l.length) Z) ?_;refine oA (EvA.mkO (c:=GY.c) (b:=K.length+2) ([]:List GY) [] mQ Z Z Z qD Z Z) ?_;refine TO.clean (H0:=some ⟨bv,2,99,[[eL cY v2.1.b,I v2.1.p]]⟩::some ⟨ver,1,66,bK gh 4 l⟩::(K++[bE false 0 4 69 (([]:List GY).map GY.c)])) (e0:=ai [(58,hS false (K.length+2) 0 4 0),(57,hS false 1 ver 1 l.length)]) Z (GR Z<|GR Z GQ) ?_;refine oA (EvA.mkR (b:=(K++[bE false 0 4 69 (([]:List GY).map GY.c)]).length+2) [[hS false (K.length+2) 0 4 0]] ib Z Z Z Z) ?_;refine oA (EvA.appR (g:=false) (rows:=bK gh 4 l) (rows':=bK gh 4 l++[[hS false (K.length+2) 0 4 0]]) (n':=l.length+1) ib (by kernel_rfl) Z Z (cg gh 4 l).symm nofun (bg.raw (rows:=[[hS false (K.length+2) 0 4 0]]) Z (uM (H:=_::_::(K++[_]))) Z) (uu (by simp;omega) Z) Z Z) ?_;refine oN (GU.asg (hS false 1 (ver+1) 1<|l.length+1) Z) ?_;refine jA ?_;refine ⟨j+1,(gh.put l.length (false,K.length+2,0),K++[bE false 0 4 69 (([]:List GY).map GY.c)]++[some ⟨0,1,66,[[hS false (K.length+2) 0 4 0]]⟩],ver+1),Z,⟨by omega,?_⟩,zM ?_<|GR ?_ GQ⟩
   ·rw [htk];refine hN.snoc (id:=K.length+2) (by simp) (by omega) (λb h1 h2=>?_) ?_ qD
    ·match b,h1 with
     | b+2,_=>
      simp only [llc,MZ] at h2;simp only [Mm,MC];exact gal h2
    simp only [Mm];exact vP
   ·show _::some (ABlk.mk _ _ _<|bK _ 4<|p++Mj (j+1) [])::_=_;rw [htk,<- tP]
    rfl
   show hS false 1 (ver+1) 1 (l.length+1)=hS false 1 (ver+1) 1 (p++Mj (j+1) []).length;rw [htk,lla]
   rfl
  have hj : ¬ p.length+j<=3:=by have := of_decide_eq_false qa;omega
  rw [if_neg hj] at hz;obtain rfl:=osl hz;refine jM ?_;refine ⟨_,Z,λhe=>?_⟩;subst he;obtain rfl:=osl h;subst hl;exact ⟨(),trivial,pG Z (.cons (.row<|.cons (.fz<|qC Z)<|.cons (.fz<|qC Z) .nil) .nil)<|au (.fz<|hN.fzm Z Z Z Z GY.isF) bO⟩
 replace h:=wX q2 h;refine jH ?_;refine jC ?_;refine oN (GU.ieq Z Z) ?_;refine oN (GU.asg (Bo<|v2.2==(3:Int)) Z) ?_;refine jA ?_;refine T.cond Z (λq3=>?_) λq3=>?_
 ·replace h:=wW q3 h;have hlen:=hp2 v1.2.toNat;unfold Cg at h;have hset:p.set v1.2.toNat (p.getD v1.2.toNat [])=p:=by simp [hin]
  generalize hrw0:p.getD v1.2.toNat []=row0 at h hlen hset;refine jE ?_;refine jO (S:=Nat) (G:=NG×AH) (E:=Nat) (x:=8-row0.length) (λj=>if row0.length+j<=7 then some (.inl<|j+1) else some (.inr j)) (λj g=>j<=8-row0.length/\NK 2 (some ⟨bv,2,99,[[eL cY v2.1.b,I v2.1.p]]⟩::some ⟨ver,1,66,bK g.1 4<|p.set v1.2.toNat<|row0++Mj j (⟨1,0,0,0⟩:GY)⟩::g.2) g.1 4 69 GY.c (p.set v1.2.toNat<|row0++Mj j (⟨1,0,0,0⟩:GY))) (λj g=>[(6,I v1.2),(5,hS false 1 ver 1 p.length)]) (λj g=>some ⟨bv,2,99,[[eL cY v2.1.b,I v2.1.p]]⟩::some ⟨ver,1,66,bK g.1 4<|p.set v1.2.toNat<|row0++Mj j (⟨1,0,0,0⟩:GY)⟩::g.2) (s0:=0) (gh,K) (ou (λi=>i) (8-row0.length) (λi hi=>by rw [if_pos (by omega)])<|by rw [if_neg (by omega)]) ⟨Ml _,by simpa [hset] using hN⟩ (zM (by simp [hset])<|GR Z<|GR Z GQ) λj g z hz hinv=>?_;obtain ⟨gh,K⟩:=g;obtain ⟨hle,hN⟩:=hinv;simp only at hN;have hin2:v1.2.toNat<(p.set v1.2.toNat<|row0++Mj j (⟨1,0,0,0⟩:GY)).length:=by simp [hin]
  have hgt:(p.set v1.2.toNat<|row0++Mj j (⟨1,0,0,0⟩:GY)).getD v1.2.toNat []=(row0++Mj j (⟨1,0,0,0⟩:GY)):=by simp [hin]
  have hrl:(row0++Mj j (⟨1,0,0,0⟩:GY)).length=row0.length+j:=by simp
  have hnx:∀ x,((p.set v1.2.toNat<|row0++Mj j (⟨1,0,0,0⟩:GY))).set v1.2.toNat x=p.set v1.2.toNat x:=λx=>by simp
  have htk:row0++Mj (j+1) (⟨1,0,0,0⟩:GY)=(row0++Mj j (⟨1,0,0,0⟩:GY))++[(⟨1,0,0,0⟩:GY)]:=by rw [M3,MC]
  obtain ⟨g,k,v,hg,hk,hK,hnil⟩:=hN.row (i:=v1.2.toNat) hin2;rw [hgt] at hK hnil;have hpl:(p.set v1.2.toNat<|row0++Mj j (⟨1,0,0,0⟩:GY)).length=p.length:=by simp
  generalize hrw:(row0++Mj j (⟨1,0,0,0⟩:GY))=row at hN hin2 hgt hrl hnx htk hK hnil hpl ⊢;generalize hl:p.set v1.2.toNat row=l at hN hin2 hgt hnx hpl ⊢;refine jH ?_;refine jH ?_;refine jC ?_;refine oN (GU.mv (hS false 1 ver 1 p.length) Z) ?_;refine oN (GU.mv (I v1.2) Z) ?_;refine oN (GU.ixO (g:=false) ib Z Z nofun hi) ?_;refine oA (EvA.loadhp (hS g (k+2) v 4 row.length) r9 Z Z Z Z (show (bK gh 4 l)[v1.2.toNat]? = some [hS g (k+2) v 4 row.length] by rw [bM hin2,vO,hg,hgt]) Z) ?_;refine oN (GU.lenO (g:=g) mQ Z λx=>by rw [hnil x];rfl) ?_;refine oN (GU.ile Z Z) ?_;refine jA ?_;refine T.cond Z (λqa=>?_) λqa=>?_
  ·have hj:row0.length+j<=7:=by have := of_decide_eq_true qa;omega
   rw [if_pos hj] at hz;obtain rfl:=osl hz;refine jG ?_;refine jE ?_;refine jC ?_;refine oN (GU.mv (hS false 1 ver 1 p.length) Z) ?_;refine oN (GU.mv (I v1.2) Z) ?_;refine oN (GU.mv (hS false 1 ver 1 p.length) Z) ?_;refine oN (GU.mv (I v1.2) Z) ?_;refine oN (GU.ixO (g:=false) ib Z Z nofun hi) ?_;refine oA (EvA.loadhp (hS g (k+2) v 4 row.length) r9 Z Z Z Z (show (bK gh 4 l)[v1.2.toNat]? = some [hS g (k+2) v 4 row.length] by rw [bM hin2,vO,hg,hgt]) Z) ?_;refine oN (GU.build [I V,I U,I U,I U] Tryz.underlying69 o8 fH Z Z) ?_;refine oN (GU.mkF (c:=GY.c) ([(⟨1,0,0,0⟩:GY)]:List GY) [[I V,I U,I U,I U]] mQ Z Z Z qD GY.isF Z) ?_;refine oA (EvA.app1 (g:=g) (l:=row) (⟨1,0,0,0⟩:GY) mQ (by kernel_rfl) Z Z hK hnil (bg.fz (l:=[(⟨1,0,0,0⟩:GY)]) Z qD)<|uu (by omega) Z) ?_;refine oN (GU.ixO (g:=false) ib Z Z nofun hi) ?_;refine oV (EvA.st ⟨ver,1,66,(bK gh 4 l).set v1.2.toNat [hS false (k+2) (v+1) 4 (row++[(⟨1,0,0,0⟩:GY)]).length]⟩ r9 Z Z Z Z Z (show (bK gh 4 l)[v1.2.toNat]? = some [hS g (k+2) v 4 row.length] by rw [bM hin2,vO,hg,hgt]) Z Z Z) ?_;refine jA ?_;have hN2:=hN.turn (r':=some ⟨bv,2,99,[[eL cY v2.1.b,I v2.1.p]]⟩) (o':=some ⟨ver,1,66,bK (gh.put v1.2.toNat (false,k+2,v+1)) 4<|l.set v1.2.toNat<|row++[(⟨1,0,0,0⟩:GY)]⟩) hin2 hg (g':=false) (v':=v+1) (x:=row++[(⟨1,0,0,0⟩:GY)]) nofun;refine ⟨j+1,(gh.put v1.2.toNat (false,k+2,v+1),K.set k<|bE false (v+1) 4 69<|(row++[(⟨1,0,0,0⟩:GY)]).map GY.c),Z,⟨by omega,?_⟩,zM ?_<|GR Z<|GR Z GQ⟩
   ·rw [hnx] at hN2;rw [htk];exact hN2
   show _::some (ABlk.mk _ _ _<|bK _ 4<|p.set v1.2.toNat<|row0++Mj (j+1) (⟨1,0,0,0⟩:GY))::_=_;rw [htk,<- hnx,<- lZ hin2]
   rfl
  have hj : ¬ row0.length+j<=7:=by have := of_decide_eq_false qa;omega
  rw [if_neg hj] at hz;obtain rfl:=osl hz;refine jM ?_;refine ⟨_,Z,λhe=>?_⟩;subst he;obtain rfl:=osl h;subst hrw;subst hl;exact ⟨(),trivial,pG Z (.cons (.row<|.cons (.fz<|qC Z)<|.cons (.fz<|qC Z) .nil) .nil)<|au (.fz<|hN.fzm Z Z Z (by simp) GY.isF) bO⟩
 replace h:=wX q3 h;refine jH ?_;refine jC ?_;refine oN (GU.ieq Z Z) ?_;refine oN (GU.asg (Bo<|v2.2==(4:Int)) Z) ?_;refine jA ?_;refine T.cond Z (λq4=>?_) λq4=>?_
 ·replace h:=wW q4 h;refine T.cut (e0:=ai [(5,eL (cL GY.c) p)]) (H0:=[some ⟨bv,2,99,[[eL cY v2.1.b,I v2.1.p]]⟩]) (pG Z (.cons (.row<|.cons (.fz<|qC Z)<|.cons (.fz<|qC Z) .nil) .nil)<|au (.fz<|hN.fzm Z Z Z Z GY.isF) bO) ?_;refine jC ?_;refine oN (GU.mv (eL (cL GY.c) p) Z) ?_;refine oN (GU.slL ib Z (.yes Z) .no ⟨by omega,by omega,by omega⟩ qD) ?_;refine oN (GU.asg (eL (cL GY.c)<|(p.drop 1).take<|p.length-1) Z) ?_;refine jA ?_;obtain rfl:=osl h;exact ⟨(),trivial,zM Z<|GR Z GQ⟩
 replace h:=wX q4 h;refine jG ?_;obtain rfl:=osl h;exact ⟨(),trivial,pG Z (.cons (.row<|.cons (.fz<|qC Z)<|.cons (.fz<|qC Z) .nil) .nil)<|au (.fz<|hN.fzm Z Z Z Z GY.isF) bO⟩
theorem zI {w:World} {g o:Nat} {sp:Bool} (hc:w.cell? ⟨g,o+16,none⟩=some (.bool sp)) {t l:Int} (ht:0<=t/\t<3) (hl:0<=l/\l<3) :
  Calls Tryz.prog 253 #[.pointer (some ⟨g,o,none⟩),.int .i64 t,.int .i64 l] w λe w'=>e = .returned (.int .i64<|eC sp t l)/\w'=w:=by
 obtain ⟨t1,t2⟩:=ht;obtain ⟨l1,l2⟩:=hl
 cases sp with
 | true=>
  go_enter Tryz.func253,Tryz.ntmps253
  go_wp2
  go_ret
  exact ⟨rfl,rfl⟩
 | false=>
  go_enter Tryz.func253,Tryz.ntmps253
  go_wp2
  go_ret
  exact ⟨rfl,rfl⟩
def Gw:Code:=match (Tryz.f252).body with
 | some (.seq _<|.seq (.seq c _) _)=>c
 | _ => .skip
def Gx:Code:=match (Tryz.f252).body with
 | some (.seq _<|.seq _<|.seq c _)=>c
 | _ => .skip
theorem EB {w:World} {g o:Nat} {sp:Bool} (hsp:w.cell? ⟨g,o+16,none⟩=some (.bool sp)) {wb wo wl wc:Nat} (hw:w.cell? ⟨g,o+17,none⟩=some (.slice (some ⟨wb,wo,none⟩) wl wc))
  (hg:g<w.heap.size) (hwb:wb<w.heap.size) {t loc:Int} (ht:0<=t/\t<3) (hl:0<=loc/\loc<3) (hi0:0<=eC sp t loc) (hi:eC sp t loc<(wl:Int)) {A:Option Addr} {n cap:Nat} (hwi:w.cell? ⟨wb,wo+(eC sp t loc).toNat,none⟩=some (.slice A n cap))
  (BK:∀ W:World,Calls Tryz.prog 258 #[.slice A n cap] W λe w'=>e = .returned (.func (.func 260) #[] #[.pointer (some ⟨W.heap.size,0,none⟩)])/\w'=W.alloc (.cells #[.slice A n cap] 22))
  {K:Act->World->Prop} (h:K { tmps := #[.pointer (some ⟨g,o,none⟩),.int .i64 t,.int .i64 loc,undef,undef,.pointer (some ⟨w.heap.size,0,none⟩),.pointer (some ⟨w.heap.size+1,0,none⟩),undef,undef,.pointer (some ⟨g,o,none⟩),.pointer (some ⟨g,o,none⟩),.pointer (some ⟨g,o+17,none⟩),.slice (some ⟨wb,wo,none⟩) wl wc,.pointer (some ⟨g,o,none⟩),.int .i64 t,.int .i64 loc,.int .i64 (eC sp t loc),.pointer (some ⟨wb,wo+(eC sp t loc).toNat,none⟩),.slice A n cap,.func (.func 260) #[] #[.pointer (some ⟨w.heap.size+1+1,0,none⟩)],undef,undef,undef,undef,undef,undef,undef,undef,undef,undef,undef,undef,undef,undef,undef,undef],defers:=[] } (((w.alloc<|.cells #[.int .i64 loc] 3).alloc<|.cells #[.int .u8 0] 5).alloc<|.cells #[.slice A n cap] 22).drew) :
  Gw.wp Tryz.prog (Exit.then K λ_ _ _=>False) { tmps := #[.pointer (some ⟨g,o,none⟩),.int .i64 t,.int .i64 loc,undef,undef,.pointer (some ⟨w.heap.size,0,none⟩),.pointer (some ⟨w.heap.size+1,0,none⟩),undef,undef,undef,undef,undef,undef,undef,undef,undef,undef,undef,undef,undef,undef,undef,undef,undef,undef,undef,undef,undef,undef,undef,undef,undef,undef,undef,undef,undef],defers:=[] } ((w.alloc<|.cells #[.int .i64 loc] 3).alloc<|.cells #[.int .u8 0] 5):=by
 obtain ⟨t1,t2⟩:=ht;obtain ⟨l1,l2⟩:=hl;have BU:∀ W:World,W.cell? ⟨g,o+16,none⟩=some (.bool sp)->Calls Tryz.prog 253 #[.pointer (some ⟨g,o,none⟩),.int .i64 t,.int .i64 loc] W λe w'=>e = .returned (.int .i64<|eC sp t loc)/\w'=W:=λW h=>zI h ⟨t1,t2⟩ ⟨l1,l2⟩;have e:Gw=Code.region 1 _ true:=rfl;rw [e]
 go_region_with (first
  | (go_at_call 253;refine (BU _ ?_).mono ?_;(exact (((((Below.refl w.heap.size w).alloc (Mk _) _).alloc (by simp) _).drew).cell (p:=⟨g,o+16,none⟩) hg).trans hsp);rintro e w' ⟨rfl,rfl⟩)
  | (go_at_call 258;refine (BK _).mono ?_;rintro e w' ⟨rfl,rfl⟩))
 all_goals exact h
theorem EC {W:World} {g o LB RB:Nat} {t loc m:Int} (hl:0<=loc/\loc<3) (hc5:W.cell? ⟨LB,0,none⟩=some (.int .i64 loc)) (hc6:W.cell? ⟨RB,0,none⟩=some (.int .u8 0)) (hf6:W.frozen? ⟨RB,0,none⟩=false) (hm:W.cell? ⟨g,o+13+loc.toNat,none⟩=some (.int .u8 m)) {ds:List Deferred} {A9 A10 A11 A12 A13 A14 A15 A16 A17 A18 A19:Value}
  {K:Act->World->Prop} (h:K { tmps := #[.pointer (some ⟨g,o,none⟩),.int .i64 t,.int .i64 loc,undef,undef,.pointer (some ⟨LB,0,none⟩),.pointer (some ⟨RB,0,none⟩),undef,undef,A9,A10,A11,A12,A13,A14,A15,A16,A17,A18,A19,undef,undef,undef,undef,undef,undef,undef,undef,undef,.pointer (some ⟨g,o,none⟩),.int .i64 loc,.pointer (some ⟨g,o,none⟩),.pointer (some ⟨g,o,none⟩),.pointer (some ⟨g,o+13,none⟩),.pointer (some ⟨g,o+13+loc.toNat,none⟩),.int .u8 m],defers:=ds } (W.setCell ⟨RB,0,none⟩<|.int .u8 m).drew) :
  Gx.wp Tryz.prog (Exit.then K λ_ _ _=>False) { tmps := #[Value.pointer (some ⟨g,o,none⟩),.int .i64 t,.int .i64 loc,undef,undef,.pointer (some ⟨LB,0,none⟩),.pointer (some ⟨RB,0,none⟩),undef,undef,A9,A10,A11,A12,A13,A14,A15,A16,A17,A18,A19,undef,undef,undef,undef,undef,undef,undef,undef,undef,undef,undef,undef,undef,undef,undef,undef],defers:=ds } W:=by
 obtain ⟨l1,l2⟩:=hl;have e:Gx=Code.region 5 _ true:=rfl;rw [e]
 go_region
 all_goals exact h
open Go.RowKit Go.Shelf
theorem xH (F:Fence) (n:Nat) (hf:F.fn 258) (hro:F.round=none) (a:Option Addr) (len cap:Nat) (w:World) :
  CallsIn F n Tryz.prog 258 #[.slice a len cap] w λe w'=>e = .returned (.func (.func 260) #[] #[.pointer (some ⟨w.heap.size,0,none⟩)])/\w'=w.alloc (.cells #[.slice a len cap] 22):=by
 refine callsIn_of_wp Tryz.func258 rfl hf ?_ hro;simp only [Tryz.ntmps258,ME,llc,MF,MG,MH,MI,MJ,MK,ML,MM,MN]
 gi_wp2
 go_ret
 exact ⟨rfl,rfl⟩
section
attribute [local go_sem] Oper.semAt_some
def p6 {α:Type} (f:Nat->α) (k:Nat):List α:=(List.range k).map f
theorem p7 {α:Type} (f:Nat->α) (k:Nat):p6 f (k+1)=p6 f k++[f k]:=by simp [p6,List.range_succ]
theorem wB {α:Type} (f:Nat->α) (k:Nat):(p6 f k).length=k:=by simp [p6]
abbrev BX:={ x:Int×Int // 0<=x.2/\x.2<=255 }
def EP (zs:LI):Prop:=∀ j:Nat,0<=zs[j]?.getD 0/\zs[j]?.getD 0<=255
def lI (zs:LI) (hz:EP zs) (len k:Nat):BX:=⟨((len:Int)-1-k,zs[len-1-k]?.getD 0),hz _⟩
set_option maxHeartbeats 2000000 in
theorem Dl (F:Fence) (n:Nat) (h7:F.fn 260) (hro:F.round=none) (hn:1<=n) (l Bs n₀ b off len cap:Nat) (zs:LI) (hz:EP zs) (hreach:len<=9223372036854775807) (hb:b<n₀) (J Jx:List BX->World->Prop)
  (hY:∀ pre x W,J pre W->pre.length<len->YieldAt F (n-1) Tryz.prog l #[.int .i64 x.1.1,.int .u8 x.1.2] W λe W'=>
   (e = .returned (.bool true)/\J (pre++[x]) W'/\Below n₀ W W')\/(e = .returned (.bool false)/\Jx (pre++[x]) W'))
  (W:World) (hBs:W.cell? ⟨Bs,0,none⟩=some (.slice (some ⟨b,off,none⟩) len cap)) (hBn:Bs<n₀) (hc:∀ j,j<len->W.cell? ⟨b,off+j,none⟩=some (.int .u8<|zs[j]?.getD 0)) (h0:J [] W) :
  CallsIn F n Tryz.prog 260 #[.func (.yield l) #[] #[],.pointer (some ⟨Bs,0,none⟩)] W λe W'=>(∃ v,e = .returned v) /\
   ((∃ ys,ys=p6 (lI zs hz len) len/\J ys W')\/(∃ pre,(∃ k,k<=len/\pre=p6 (lI zs hz len) k)/\Jx pre W')):=by
 refine callsIn_of_wp Tryz.func260 rfl h7 ?_ hro;simp only [Tryz.ntmps260,ME,llc,MF,MG,MH,MI,MJ,MK,ML,MM,MN]
 gi_wp2
 gi_loopw [3] (λi wr=>∃ k:Nat,k<=len/\i = .int .i64 ((len:Int)-1-k)/\J (p6 (lI zs hz len) k) wr/\Below n₀ W wr)
  (λi _=>(intOf i+1).toNat)
 case atStart=>exact ⟨0,Ml _,by simp,h0,Below.refl _ _⟩
 case round=>
  obtain ⟨k,hk,rfl,hJs,hnx⟩:=hrel;have hcb:wr.cell? ⟨Bs,0,none⟩=some (.slice (some ⟨b,off,none⟩) len cap):=(hnx.cell (p:=⟨Bs,0,none⟩) hBn).trans hBs;have hcx:k<len->wr.cell? ⟨b,off+(len-1-k),none⟩=some (.int .u8<|zs[len-1-k]?.getD 0):=λh=>(hnx.cell (p:=⟨b,off+(len-1-k),none⟩) hb).trans<|hc _ (by omega)
  by_cases hlt:k<len
  ·obtain ⟨fn,tmps,assign,body,hy,hR⟩:=hY _ (lI zs hz len k) wr hJs (by rw [wB];exact hlt)
   dsimp only [lI] at hy
   have hcx':=hcx hlt;have hix:((len:Int)-1-k).toNat=len-1-k:=by omega
   gi_wp2
   refine hR.mono ?_;rintro e W3 (⟨rfl,hJ3,hk3⟩ | ⟨rfl,hJx3⟩)
   ·gi_wp2
    go_roundw
    case rel=>exact ⟨k+1,by omega,by simp;omega,by rw [p7];exact hJ3,hnx.trans hk3⟩
    case measure=>simp [intOf];omega
   gi_wp2
   refine bodyPost_ret (results_none rfl _ _ _) rfl ?_;exact ⟨⟨_,rfl⟩,.inr ⟨_,⟨k+1,by omega,(p7 _ _).symm⟩,hJx3⟩⟩
  obtain rfl:k=len:=by omega
  gi_wp2
  go_end0
  exact ⟨⟨_,rfl⟩,.inl ⟨_,rfl,hJs⟩⟩
set_option maxHeartbeats 2000000 in
theorem Dm (F:Fence) (n:Nat) (h7:F.fn 260) (hro:F.round=none) (l Bs:Nat) (A:Option Addr) (cap:Nat) (J:List BX->World->Prop) (W:World) (hBs:W.cell? ⟨Bs,0,none⟩=some (.slice A 0 cap)) (h0:J [] W) :
  CallsIn F n Tryz.prog 260 #[.func (.yield l) #[] #[],.pointer (some ⟨Bs,0,none⟩)] W λe W'=>(∃ v,e = .returned v)/\J [] W':=by
 refine callsIn_of_wp Tryz.func260 rfl h7 ?_ hro;simp only [Tryz.ntmps260,ME,llc,MF,MG,MH,MI,MJ,MK,ML,MM,MN]
 gi_wp2
 gi_loopw [3] (λi wr=>i = .int .i64 (-1)/\J [] wr) (λ_ _=>0)
 case atStart=>exact ⟨rfl,h0⟩
 case round=>
  obtain ⟨rfl,hJs⟩:=hrel
  gi_wp2
  go_end0
  exact ⟨⟨_,rfl⟩,hJs⟩
end
def uw (n₀:Nat) (W:World) (A:Option Addr) (zs:LI):Prop:=0<zs.length->∃ b off,A=some ⟨b,off,none⟩/\b<n₀/\∀ j,j<zs.length->W.cell? ⟨b,off+j,none⟩=some (.int .u8<|zs[j]?.getD 0)
theorem uw.below {n₀:Nat} {V W:World} (h:Below n₀ V W) {A:Option Addr} {zs:LI} (hb:uw n₀ V A zs):uw n₀ W A zs:=λh0=>by
 obtain ⟨b,off,e,hb,hc⟩:=hb h0;exact ⟨b,off,e,hb,λj hj=>(h.cell (p:=⟨b,off+j,none⟩) hb).trans<|hc j hj⟩
theorem zJ {zs:LI} {loc m:Int} (h:∀ z∈zs,z.tdiv 16≠loc):pI zs loc m=m:=by
 unfold pI;have : (zs.reverse.find? λb=>b.tdiv 16==loc)=none:=List.find?_eq_none.2 λz hz=>by
  have := h z<|List.mem_reverse.1 hz;simpa using this
 rw [this]
theorem Dn {zs:LI} {hz:EP zs} {loc m:Int} {k:Nat} (hk:k+1<=zs.length) (h:(lI zs hz zs.length k).1.2.tdiv 16=loc) (hb:∀ j,j<k->(lI zs hz zs.length j).1.2.tdiv 16≠loc):pI zs loc m=(lI zs hz zs.length k).1.2.tmod 16:=by
 unfold pI;have hat:∀ (j:Nat) (hj:j<zs.reverse.length),zs.reverse[j]=(lI zs hz zs.length j).1.2:=λj hj=>by
  rw [M4] at hj;simp only [lI];rw [List.getElem_reverse,geq (by omega),Option.getD_some]
 have : (zs.reverse.find? λb=>b.tdiv 16==loc)=some (lI zs hz zs.length k).1.2:=by
  refine List.find?_eq_some_iff_getElem.2 ⟨by simpa using h,k,by rw [M4];omega,hat k _,λj hj=>?_⟩;rw [hat j _];simpa using hb j hj
 rw [this]
theorem zK (F:Fence) (n:Nat) (h7:F.fn 260) (hro:F.round=none) (hn:1<=n) (Bs n₀:Nat) (A:Option Addr) (cap:Nat) (zs:LI) (hz:EP zs) (hreach:zs.length<=9223372036854775807) (w:World) (hBs:Bs<n₀) (hn₀:n₀<=w.heap.size)
  (hc:w.cell? ⟨Bs,0,none⟩=some (.slice A zs.length cap)) (hI:uw n₀ w A zs) :
  SeqStopsK F n Tryz.prog 260 #[.pointer (some ⟨Bs,0,none⟩)] (λx:BX => #[Value.int .i64 x.1.1,Value.int .u8 x.1.2]) (Below n₀) (λys=>ys=p6 (lI zs hz zs.length) zs.length) (λpre=>∃ k,k<=zs.length/\pre=p6 (lI zs hz zs.length) k) zs.length w:=λl J Jx W hW _ _ hY h0=>by
 have hc':=(hW.cell (p:=⟨Bs,0,none⟩)<|MB hBs hn₀).trans hc
 by_cases h0l:0<zs.length
 ·obtain ⟨b,off,rfl,hb,hcs⟩:=hI.below (hW.mono hn₀) h0l;exact Dl F n h7 hro hn l Bs n₀ b off zs.length cap zs hz hreach hb J Jx hY W hc' hBs hcs h0
 have : zs=[]:=List.eq_nil_of_length_eq_zero (by omega);subst this;exact (Dm F n h7 hro l Bs A cap J W hc' h0).mono λe W' ⟨he,hj⟩=>⟨he,.inl ⟨_,rfl,hj⟩⟩
section
attribute [local go_sem] Oper.semAt_some
theorem ED (n:Nat) (hn:3<=n) {w:World} {g o:Nat} {sp:Bool} (hsp:w.cell? ⟨g,o+16,none⟩=some (.bool sp)) {wb wo wl wc:Nat} (hw:w.cell? ⟨g,o+17,none⟩=some (.slice (some ⟨wb,wo,none⟩) wl wc))
  (hg:g<w.heap.size) (hwb:wb<w.heap.size) {t loc:Int} (ht:0<=t/\t<3) (hl:0<=loc/\loc<3) (hi0:0<=eC sp t loc) (hi:eC sp t loc<(wl:Int)) {A:Option Addr} {zs:LI} {cap:Nat} (hwi:w.cell? ⟨wb,wo+(eC sp t loc).toNat,none⟩=some (.slice A zs.length cap))
  (hz:uw w.heap.size w A zs) (hreach:zs.length<=9223372036854775807) (hby:EP zs) {m:Int} (hm:w.cell? ⟨g,o+13+loc.toNat,none⟩=some (.int .u8 m)) :
  CallsIn Fence.wide n Tryz.prog 252 #[.pointer (some ⟨g,o,none⟩),.int .i64 t,.int .i64 loc] w λe W'=>e = .returned (.int .u8<|pI zs loc m)/\Below w.heap.size w W':=by
 have h1:1<=n:=by omega
 have hro:Fence.wide.round=none:=rfl;have hF:∀ f,Fence.wide.fn f:=λ_=>trivial;have BK:∀ W:World,Calls Tryz.prog 258 #[.slice A zs.length cap] W λe w'=>e = .returned (.func (.func 260) #[] #[.pointer (some ⟨W.heap.size,0,none⟩)])/\w'=W.alloc (.cells #[.slice A zs.length cap] 22):=λW=>(callsIn_wide (n:=n)).1<|xH Fence.wide n (hF _) rfl _ _ _ _;have bL:=Boxed.new w 3<|.int .i64 loc;have bR:=Boxed.new (w.alloc<|.cells #[.int .i64 loc] 3) 5<|.int .u8 0;have bN:=Boxed.new ((w.alloc<|.cells #[.int .i64 loc] 3).alloc<|.cells #[.int .u8 0] 5) 22<|.slice A zs.length cap;rw [World.size_alloc] at bR;rw [World.size_alloc,World.size_alloc] at bN;have hB0:Below w.heap.size w (((w.alloc<|.cells #[.int .i64 loc] 3).alloc<|.cells #[.int .u8 0] 5).alloc<|.cells #[.slice A zs.length cap] 22).drew:=((((Below.refl _ w).alloc (Mk _) _).alloc (by simp) _).alloc (by simp;omega) _).drew;refine callsIn_of_wp_marks Tryz.func252 rfl (hF _) ?_ hro;simp only [Tryz.ntmps252,ME,llc,MF,MG,MH,MI,MJ,MK,ML,MM,MN]
 gi_wp2_with fail
 refine wpIn_wide.2<|wp_mono (EB hsp hw hg hwb ht hl hi0 hi hwi BK (K:=λa W=>a=_/\W=_) ⟨rfl,rfl⟩) ?_;intro e a W h
 cases e with
 | normal=>
  obtain ⟨rfl,rfl⟩:=h
  gi_wp2_with fail
  have hsz:(((w.alloc<|.cells #[.int .i64 loc] 3).alloc<|.cells #[.int .u8 0] 5).alloc<|.cells #[.slice A zs.length cap] 22).drew.heap.size=w.heap.size+1+1+1:=by simp
  have fL:(((w.alloc<|.cells #[.int .i64 loc] 3).alloc<|.cells #[.int .u8 0] 5).alloc<|.cells #[.slice A zs.length cap] 22).drew.cell? ⟨w.heap.size,0,none⟩=some (.int .i64 loc):=((bL.alloc _).alloc _).cell;have fR:(((w.alloc<|.cells #[.int .i64 loc] 3).alloc<|.cells #[.int .u8 0] 5).alloc<|.cells #[.slice A zs.length cap] 22).drew.cell? ⟨w.heap.size+1,0,none⟩=some (.int .u8 0):=(bR.alloc _).cell;have fF:(((w.alloc<|.cells #[.int .i64 loc] 3).alloc<|.cells #[.int .u8 0] 5).alloc<|.cells #[.slice A zs.length cap] 22).drew.frozen? ⟨w.heap.size+1,0,none⟩=false:=(bR.alloc _).frozen;have fN:(((w.alloc<|.cells #[.int .i64 loc] 3).alloc<|.cells #[.int .u8 0] 5).alloc<|.cells #[.slice A zs.length cap] 22).drew.cell? ⟨w.heap.size+1+1,0,none⟩=some (.slice A zs.length cap):=bN.cell;generalize (((w.alloc<|.cells #[.int .i64 loc] 3).alloc<|.cells #[.int .u8 0] 5).alloc<|.cells #[.slice A zs.length cap] 22).drew=W3 at hB0 hsz fL fR fF fN ⊢;refine wpIn_rangeFunc_ownG hro h1 (gf:=260) (lb:=#[.pointer (some ⟨w.heap.size+1+1,0,none⟩)]) rfl (hF _) (enters_of Tryz.func260 (by kernel_rfl) rfl) (zK Fence.wide (n-1) (hF _) hro (by omega) (w.heap.size+1+1) (w.heap.size+1+1+1) A cap zs hby hreach W3 (by omega) (by rw [hsz];exact Mk _) fN (λh0=>by obtain ⟨b,off,e,hb,hc⟩:=hz.below hB0 h0;exact ⟨b,off,e,by omega,hc⟩)) belowK_t (belowK_b<|by rw [hsz];exact Mk _) (Below.refl _ _) (λ_=>rfl) (λpre W=>((∀ x∈pre,x.1.2.tdiv 16≠loc)/\W.cell? ⟨w.heap.size,0,none⟩=some (.int .i64 loc)/\W.cell? ⟨w.heap.size+1,0,none⟩=some (.int .u8 0)/\W.frozen? ⟨w.heap.size+1,0,none⟩=false)/\Below w.heap.size w W) (λc pre W=>(c = .ret/\∃ ini last,pre=ini++[last]/\(∀ x∈ini,x.1.2.tdiv 16≠loc)/\last.1.2.tdiv 16=loc/\W.cell? ⟨w.heap.size+1,0,none⟩=some (.int .u8<|last.1.2.tmod 16))/\Below w.heap.size w W) (OwnFrom.and (Own.from (λs A B row hs hg hr=>⟨hs.1,cell_kept hs.2.1 hg hr,cell_kept hs.2.2.1 hg hr,(frozen_kept hs.2.2.1 hg hr).trans hs.2.2.2⟩) _)<|ownFrom_below (Mk _)<|by rw [hsz];omega) (λc=>OwnFrom.and (Own.from (λs A B row hs hg hr=>by obtain ⟨hc,ini,last,e1,e2,e3,e4⟩:=hs;exact ⟨hc,ini,last,e1,e2,e3,cell_kept e4 hg hr⟩) _)<|ownFrom_below (Mk _)<|by rw [hsz];omega) ⟨⟨by simp,fL,fR,fF⟩,hB0⟩ (λx=>{ tmps := #[.pointer (some ⟨g,o,none⟩),.int .i64 t,.int .i64 loc,undef,undef,.pointer (some ⟨w.heap.size,0,none⟩),.pointer (some ⟨w.heap.size+1,0,none⟩),undef,.int .u8 x.1.2,.pointer (some ⟨g,o,none⟩),.pointer (some ⟨g,o,none⟩),.pointer (some ⟨g,o+17,none⟩),.slice (some ⟨wb,wo,none⟩) wl wc,.pointer (some ⟨g,o,none⟩),.int .i64 t,.int .i64 loc,.int .i64 (eC sp t loc),.pointer (some ⟨wb,wo+(eC sp t loc).toNat,none⟩),.slice A zs.length cap,.func (.func 260) #[] #[.pointer (some ⟨w.heap.size+1+1,0,none⟩)],.int .i64 x.1.1,.int .u8 x.1.2,undef,undef,undef,undef,undef,undef,undef,undef,undef,undef,undef,undef,undef,undef],defers:=[] }) ?assign ?body ?done ?stop
  case assign=>
   intro l x W K hK
   gi_wp2
   exact hK
  case body=>
   rintro l pre ⟨⟨xi,xb⟩,hx1,hx2⟩ W ⟨⟨hp,hcl,hcr,hfr⟩,hB⟩ _;simp only at hx1 hx2
   gi_wp2
   ·have hx:(xb / 16==loc)=true:=by assumption
    have e1:xb.tdiv 16=loc:=(M5 hx1).trans<|eq_of_beq hx;have e2:xb.tmod 16=xb % 16:=Int.tmod_eq_emod_of_nonneg hx1;exact ⟨(KeepsOthers.setCell _ _ _).from _,⟨rfl,pre,_,rfl,hp,e1,by simp only [e2];exact World.cell?_setCell_same' _ _ _<|by rw [hcr];rfl⟩,hB.setCell (p:=⟨w.heap.size+1,0,none⟩) (by simp) _⟩
   have hx:(xb / 16==loc)=false:=by assumption
   have e1:xb.tdiv 16≠loc:=λe=>by
    rw [M5 hx1] at e;rw [e] at hx;simp at hx
   exact ⟨KeepsFrom.refl _ _,Below.refl _ _,⟨λx hx'=>(List.mem_append.1 hx').elim (hp x) (λe=>by rw [List.mem_singleton.1 e];exact e1),hcl,hcr,hfr⟩,hB⟩
  case done=>
   rintro D ys W hD rfl ⟨⟨hne,hcl,hcr,hfr⟩,hB⟩ hK;have hr:pI zs loc m=m:=zJ λz hz'=>by
    obtain ⟨j,hj,rfl⟩:=MU hz';have := hne (lI zs hby zs.length<|zs.length-1-j) (by unfold p6;exact My.2 ⟨_,MR.2 (by omega),rfl⟩);simp only [lI] at this
    rwa [show zs.length-1-(zs.length-1-j)=j by omega,geq hj,Option.getD_some] at this
   gi_wp2_with fail
   refine wpIn_wide.2<|wp_mono (EC hl hcl hcr hfr ((hB.cell (p:=⟨g,o+13+loc.toNat,none⟩) hg).trans hm) (K:=λa W=>a=_/\W=_) ⟨rfl,rfl⟩) ?_;intro e a V h
   cases e with
   | normal=>
    obtain ⟨rfl,rfl⟩:=h
    gi_wp2
    have hK':((W.setCell ⟨w.heap.size+1,0,none⟩<|.int .u8 m).drew).heap[D]? = some (.deferred<|some []):=(KeepsOthers.setCell W ⟨w.heap.size+1,0,none⟩<|.int .u8 m).same D _ hK rfl;refine ⟨by simp,.inl ⟨_,_,rfl,run_takeDeferred hK',?_⟩⟩;have hc4:(W.setCell ⟨w.heap.size+1,0,none⟩<|.int .u8 m).drew.cell? ⟨w.heap.size+1,0,none⟩=some (.int .u8 m):=World.cell?_setCell_same' W ⟨w.heap.size+1,0,none⟩ (.int .u8 m) (by rw [hcr];rfl);have hc5:=cell_kept hc4 (grownBy_putObj' _ D<|.deferred none) (λr e=>by cases e;exact ⟨_,hK',rfl⟩);refine ⟨.int .u8 m,?_,by rw [hr],((hB.setCell (p:=⟨w.heap.size+1,0,none⟩) (by simp) _).drew).trans<|belowK_b (w:=w) (Mk _) _ D _ _ (by omega) hK' rfl rfl⟩;simp [results,Tryz.f252,go_sem,hc5]
   | _=>exact h.elim
  case stop=>
   rintro D c pre W hD ⟨k,hk,rfl⟩ ⟨⟨rfl,ini,last,e1,e2,e3,hcr⟩,hB⟩ hK
   gi_wp2
   refine ⟨by simp,.inl ⟨_,_,rfl,run_takeDeferred hK,?_⟩⟩;have hc5:=cell_kept hcr (grownBy_putObj' _ D<|.deferred none) (λr e=>by cases e;exact ⟨_,hK,rfl⟩);obtain ⟨k',rfl⟩:∃ k',k=k'+1:=by
    cases k with
    | zero=>simp [p6] at e1
    | succ k'=>exact ⟨k',rfl⟩
   rw [p7] at e1;obtain ⟨rfl,e5⟩:=List.append_inj' e1 rfl;obtain rfl:lI zs hby zs.length k'=last:=by simpa using e5
   have hr:pI zs loc m=((lI zs hby zs.length k').1.2).tmod 16:=Dn hk e3 λj hj=>e2 (lI zs hby zs.length j) (by unfold p6;exact My.2 ⟨_,MR.2 hj,rfl⟩);refine ⟨.int .u8 _,?_,by rw [hr],hB.trans<|belowK_b (w:=w) (Mk _) W D _ _ (by omega) hK rfl rfl⟩;simp [results,Tryz.f252,go_sem,hc5]
 | _=>exact h.elim
end
theorem EE {w:World} {fz:Nat->Prop} {row:List AV} {v:Value} (h:FRel w fz (.fp row 0) v):∃ (g o:Nat) (us:Nat->Value),v = .pointer (some ⟨g,o,none⟩)/\g<w.heap.size/\(∀ (j:Nat) (c:AV),row[j]? = some c->w.cell? ⟨g,o+j,none⟩=some (us j))/\∀ (j:Nat) (c:AV),row[j]? = some c->FRel w fz c (us j):=by
 cases h with
 | @fp _ _ g o us hg hlt hu h1 h=>exact ⟨g,o,us,rfl,hlt,hu,h⟩
theorem gdB {α:Type} {b:Bool} {x:Option α} {r:α} (h:gd b x=some r):b=true/\x=some r:=by
 cases b with
 | true=>exact ⟨rfl,h⟩
 | false=>cases h
theorem mg (s:ae) (t loc:Int) {q} (h:cG s t loc=some q):aJ Tryz.prog 252 [.fp (ae.c s) 0,I t,I loc] (Y q):=by
 unfold cG at h;obtain ⟨⟨ht,hl⟩,h⟩:=gdD h;obtain ⟨hi,h⟩:=gdD h;obtain ⟨hby,h⟩:=gdB h;obtain rfl:=osl h;refine ⟨by kernel_rfl,λw fz vs hlt _ hvl hrel=>?_⟩;obtain ⟨u,v,x,rfl⟩:∃ u v x,vs = #[u,v,x]:=by
  obtain ⟨l⟩:=vs
  match l,hvl with
  | [u,v,x],_=>exact ⟨u,v,x,rfl⟩
 obtain ⟨g,o,us,rfl,hg,hu,hr⟩:=EE<|hrel 0 _ u rfl rfl;obtain rfl:v = .int .i64 t:=m8<|hrel 1 _ v rfl rfl;obtain rfl:x = .int .i64 loc:=m8<|hrel 2 _ x rfl rfl;have hsp:w.cell? ⟨g,o+16,none⟩=some (.bool s.split):=by
  have h1:=hu 16 _ rfl;rw [m8 (hr 16 _ rfl)] at h1;exact h1
 have hi0:0<=eC s.split t loc:=by
  unfold eC
  cases s.split <;> simp only [cond_true,cond_false] <;> omega
 obtain ⟨xs,hxs,hxl,hxr⟩:=iD (f:=w9) (s:=1) (e:=id) (λ_=>rfl) (λ_=>rfl)<|hr 17 _ rfl;obtain ⟨A,ca,e17,hca,hma,hA⟩:=hxs;rw [llm] at hxl;obtain ⟨i,hie⟩:∃ i:Nat,eC s.split t loc=i:=⟨_,(Int.toNat_of_nonneg hi0).symm⟩;have hin:i<s.waits.length:=by omega
 obtain ⟨wb,wo,rfl,_,_,hwb,hcells⟩:=hA (by omega);have hix:i<xs.length:=by omega
 have hwi:=hcells i hix 0 xs[i] rfl;obtain ⟨A2,c2,e2,hc2,hm2,hA2⟩:=hxr i hix (by rw [llm];exact hin);have hrow:(s.waits.map λr=>r.map id)[i]'(by rw [llm];exact hin)=s.waits.getD i default:=by
  rw [Mx,List.map_id];simp [List.getD,hin]
 rw [hrow] at e2 hc2 hA2;rw [hie,tnn] at hby ⊢;have hw17:w.cell? ⟨g,o+17,none⟩=some (.slice (some ⟨wb,wo,none⟩) xs.length ca):=by
  rw [<- e17];exact hu 17 _ rfl
 have hm:w.cell? ⟨g,o+13+loc.toNat,none⟩=some (.int .u8<|Z3b.get s.values.mem loc):=by
  have : loc=0\/loc=1\/loc=2:=by omega
  rcases this with rfl | rfl | rfl
  ·have h1:=hu 13 _ rfl;rw [m8 (hr 13 _ rfl)] at h1;exact h1
  ·have h1:=hu 14 _ rfl;rw [m8 (hr 14 _ rfl)] at h1;exact h1
  have h1:=hu 15 _ rfl;rw [m8 (hr 15 _ rfl)] at h1;exact h1
 have hAll:EP (s.waits.getD i default):=λj=>by
  cases e:(s.waits.getD i default)[j]? with
  | none=>exact ⟨by decide,by decide⟩
  | some b=>exact of_decide_eq_true (Mv.1 hby b<|List.mem_of_getElem? e)
 have hB:uw w.heap.size w A2 (s.waits.getD i default):=λh0=>by
  obtain ⟨b,off,e,_,_,hlt',hc⟩:=hA2 h0;refine ⟨b,off,e,hlt',λj hj=>?_⟩;have := hc j hj 0 _ rfl;rw [Nat.mul_one,Nat.add_zero] at this;rw [this,geq hj]
  rfl
 refine ((callsIn_wide (n:=3)).1<|ED 3 (by omega) hsp hw17 hg hwb ht hl hi0 (by omega) (A:=A2) (zs:=s.waits.getD i default) (cap:=c2) ?_ hB (by omega) hAll hm).mono λe w' ⟨he,hb⟩ => ?_
 ·rw [hie,tnn,<- e2];rw [Nat.mul_one,Nat.add_zero] at hwi;exact hwi
 exact ⟨_,fz,he,hb,.v Z,λg hg=>hg,λg hg => .inl hg,λg hg=>MB (hlt g hg) hb.size⟩
open Go.RowKit Go.WideShapes Go.ChangeShapes Go.Deep
section
variable {H:Type} {enc:TypeId×Value->H} {P:Program}
theorem vg {f:Func} {s:ChangeSpec} {apart fresh handsOn again:Bool} {W W':World} {args:Array Value} {v:Value} {ds gs:List (DataW H)} {before pa pv:List MemPlace}
  (hW:DataW.Whole enc P f.params.toList s.vars apart W args.toList ds gs before)
  (hres:∀ (b:Nat) (sp:Nat->Bool) (hd:Bool),DataW.TrodAll enc P W' b sp hd f.resultTypes.toList (v.resultList f.resultTypes.size) (s.fn H<|ds++gs).results [])
  (hargs:∀ sp:Nat->Bool,(∀ p∈before,sp p.block=true)->DataW.TrodAll enc P W' 0 sp true f.params.toList args.toList (s.fn H<|ds++gs).args pa)
  (hvars:∀ sp:Nat->Bool,(∀ p∈before,sp p.block=true)->DataW.TrodVars enc P W' sp s.vars (s.fn H<|ds++gs).vars pv)
  (hps:before=pa++pv) (hb:Below W.heap.size W W')
  (hok:∀ (j:Nat) (t:TypeId) (r:Value),f.resultTypes[j]? = some t->(v.resultList f.resultTypes.size)[j]? = some r->Value.okWide P W' .any 0 t r) :
  s.post enc P f apart fresh handsOn again W args v W':=by
 have hlt:∀ p∈before,p.block<W.heap.size:=λp hp=>hW.lt p hp;have hold:∀ p∈before,(λb=>decide<|b<W.heap.size) p.block=true:=λp hp=>by simpa using hlt p hp
 refine ⟨ds,gs,before,[],pa,pv,hW,hres _ _ _,hargs _ hold,hvars _ hold,World.keptBut_mono (λp hp=>⟨hp,?_⟩) (hb.frame (· ∈ before)),λ_=>?_⟩
 ·rw [hps,List.mem_append] at hp;exact Or.inr hp
 obtain ⟨_,_,_,_,_,hz,hn⟩:=hW;refine ⟨hok,_,_,([]++pa)++pv,⟨[]++pa,pv,trodAll_append (hargs _ λ_ _=>rfl)<|hres _ _ _,hvars _ λ_ _=>rfl,rfl,?_,?_⟩,?_⟩
 ·intro b off hp;have hin:MemPlace.cell b off∈before:=by rw [hps];simpa using hp
  rw [hb.frozen (hlt _ hin)];exact hz b off hin
 ·intro ha;have := hn ha;rw [hps] at this;simpa using this
 intro p hp _;rw [hps];simpa using hp
theorem oU (hl:laidOutB P=true) {W W':World} (hb:Below W.heap.size W W') {sp:Nat->Bool}:∀ (ts:List TypeId) (vs:List Value) (ds:List<|DataW H) (ps:List MemPlace),
  (∀ t∈ts,P.readableRec t=true/\t<P.types.size)->DataW.TrodAll enc P W 0 (λ_=>true) true ts vs ds ps->(∀ x∈ps,x.block<W.heap.size)->(∀ x∈ps,sp x.block=true) ->
  DataW.TrodAll enc P W' 0 sp true ts vs ds ps
 | [],[],[],_,_,h,_,_=>h
 | t::ts,v::vs,d::ds,ps,hr,⟨p,q,h1,h2,hpq⟩,hlt,hs=>by
  subst hpq;have hp:∀ x∈p,x.block<W.heap.size:=λx hx=>hlt x (M6 _ hx);exact ⟨p,q,WideElems.Trod_stays hl (hr t (by simp)).1 (hr t (by simp)).2 h1 (λx hx=>hb.same (hp x hx)) (λx hx=>hs x (M6 _ hx)),
   oU hl hb ts vs ds q (λt ht=>hr t (List.mem_cons_of_mem _ ht)) h2 (λx hx=>hlt x (M7 _ hx)) (λx hx=>hs x (M7 _ hx)),rfl⟩
 | [],_::_,_,_,_,h,_,_=>(by cases h)
 | [],[],_::_,_,_,h,_,_=>(by cases h)
 | _::_,[],_,_,_,h,_,_=>(by cases h)
 | _::_,_::_,[],_,_,h,_,_=>(by cases h)
variable {w:World} {spare:Nat->Bool} {held:Bool}
theorem Dq {α:Type} {f:α->List Value} {s:Nat} {t e:TypeId} (hs:P.cellsOf e=s) (hs0:0<s) (ht:P.underlying t=some (.slice e)) {Good:α->Prop}
  (hel:∀ (fuel:Nat) (cs:List Value) (x:DataW H×List MemPlace),DataW.trod enc P w 0 spare held fuel e cs=some x->∃ a,cs=f a/\Good a) {fuel:Nat} {cs:List Value} {x:DataW H×List MemPlace}
  (h:DataW.trod enc P w 0 spare held fuel t cs=some x):∃ v,cs=[v]/\∃ xs:List α,Sl f s w 0 w.heap.size v xs/\∀ y∈xs,Good y:=by
 rcases open_slice ht h with ⟨rfl,_⟩ | ⟨a,len,cap,m,n,D,Pl,rfl,_,hl,hm,hmm,_,hi⟩
 ·exact ⟨_,rfl,[],Sl.qO _ _ (by omega),λy hy=>absurd hy<|by simp⟩
 refine ⟨_,rfl,?_⟩;have hlm:len<=m:=by rw [hmm];split <;> omega
 have key:∀ i,i<len->∃ y:α,Good y/\∀ (j:Nat) (u:Value),(f y)[j]? = some u->w.cell? ((a.add<|i*s).add j)=some u:=by
  intro i hil;obtain ⟨cs',hc,ht'⟩:=hi i (by omega);obtain ⟨y,rfl,hg⟩:=hel _ _ _ ht';obtain ⟨_,hcl,hat⟩:=World.cells?_some hc;rw [hs] at hat hcl;exact ⟨y,hg,λj u hu=>by
   have hj:j<s:=by
    have := (ges hu).1;omega
   rw [hat j hj];exact hu⟩
 have key2:∀ i,i<len->∃ cs',w.cells? 0 (a.add<|i*s) s=some cs':=by
  intro i hil;obtain ⟨cs',hc,_⟩:=hi i (by omega);rw [hs] at hc;exact ⟨cs',hc⟩
 clear hi;simp only [maxLen] at hm
 by_cases hn:0<len
 ·obtain ⟨cs0,hc0⟩:=key2 0 hn;obtain ⟨_,hcl,hat⟩:=World.cells?_some hc0;have h00:=hat 0 hs0;rw [geq (by omega)] at h00;have hspot:=World.cell?_spot h00;obtain ⟨b,o,sp⟩:=a;have hsp:sp=none:=by simpa [Addr.add] using hspot
  subst hsp;have hb:b<w.heap.size:=by
   have := World.block_lt_of_cell? w _ h00;simpa [kx] using this
  have hch:∃ F:Nat->α,∀ i,i<len->Good (F i)/\∀ (j:Nat) (u:Value),(f<|F i)[j]? = some u->w.cell? (((⟨b,o,none⟩:Addr).add<|i*s).add j)=some u:=by
   obtain ⟨y0,_⟩:=key 0 hn;refine ⟨λi=>if h:i<len then (key i h).choose else y0,λi hil=>?_⟩;simp only [dif_pos hil];exact (key i hil).choose_spec
  obtain ⟨F,hF⟩:=hch;refine ⟨(List.range len).map F,⟨_,cap,by simp,by simpa using hl,by omega,λ_=>⟨b,o,rfl,Ml _,hb,hb,λk hk j u hu=>?_⟩⟩,λy hy=>?_⟩
  ·have hk':k<len:=by simpa using hk
   have := (hF k hk').2 j u (by simpa using hu)
   rwa [kx,kx] at this
  rw [My] at hy;obtain ⟨i,hi,rfl⟩:=hy;exact (hF i<|by simpa using hi).1
 have h0:len=0:=by omega
 subst h0;exact ⟨[],Sl.qO _ _ (by omega),λy hy=>absurd hy<|by simp⟩
theorem FO {t:TypeId} {k:IntKind} (ht:P.underlying t=some (.int k)) (fuel:Nat) (cs:List Value) (x:DataW H×List MemPlace) (h:DataW.trod enc P w 0 spare held fuel t cs=some x) :
  ∃ a:Int,cs=[.int k a]/\(Lit.int k a).wf=true:=by
 obtain ⟨n,h1,_,h3⟩:=DataW.trod_int ht h;exact ⟨n,h1,h3⟩
end
theorem one_cell {v u:Value} (h:v.cells.toList=[u]) (hv:∃ a len cap,v = .slice a len cap):v=u:=by
 obtain ⟨a,len,cap,rfl⟩:=hv;simpa [Value.cells] using h
open Go.ChangeShapes Go.WideShapes Go.ChangeAt Go.RowKit Go.Sort

open Go.Shelf Go.RowKit Go.Lib Go.Sort

open Go.ChangeShapes Go.WideShapes Go.ChangeAt Go.RowKit Go.Shelf Go.Sort

def FP:Go.Shelf.Ren:=⟨λ| 6=>122 | 15=>137 | 14=>136 | 28=>168 | 29=>169 | 20=>160 | 21=>161 | 22=>162 | 23=>163 | 24=>164 | 25=>165 | 26=>166 | 27=>167 | 46=>186 | 47=>187 | 48=>188 | 49=>189 | 50=>190 | 57=>191 | n=>n,λ| 22=>34 | 24=>41 | 25=>138 | 3=>3 | 39=>155 | 0=>0 | 53=>192 | 55=>194 | 4=>4 | 46=>186 | 45=>185 | 50=>55 | 5=>5 | 9=>9 | 66=>212 | 70=>216 | 76=>218 | 77=>219 | n=>n,λ| n=>n⟩
theorem DJ:Go.Proofs.SlLaysF.n6 Tryz.prog FP where
 mixed:=by kernel_rfl
 f6 := ⟨"slices.SortFunc[[][]int,[]int]",by decide,Tryz.func122.trans (congrArg some (by kernel_rfl))⟩
 f14 := ⟨"slices.pdqsortCmpFunc[[]int]",by decide,Tryz.func136.trans (congrArg some (by kernel_rfl))⟩
 f15:=Tryz.func137.trans<|congrArg some (by kernel_rfl)
 f20 := ⟨"slices.insertionSortCmpFunc[[]int]",by decide,Tryz.func160.trans (congrArg some (by kernel_rfl))⟩
 f21 := ⟨"slices.heapSortCmpFunc[[]int]",by decide,Tryz.func161.trans (congrArg some (by kernel_rfl))⟩
 f22 := ⟨"slices.breakPatternsCmpFunc[[]int]",by decide,Tryz.func162.trans (congrArg some (by kernel_rfl))⟩
 f23 := ⟨"slices.choosePivotCmpFunc[[]int]",by decide,Tryz.func163.trans (congrArg some (by kernel_rfl))⟩
 f24 := ⟨"slices.reverseRangeCmpFunc[[]int]",by decide,Tryz.func164.trans (congrArg some (by kernel_rfl))⟩
 f25 := ⟨"slices.partialInsertionSortCmpFunc[[]int]",by decide,Tryz.func165.trans (congrArg some (by kernel_rfl))⟩
 f26 := ⟨"slices.partitionEqualCmpFunc[[]int]",by decide,Tryz.func166.trans (congrArg some (by kernel_rfl))⟩
 f27 := ⟨"slices.partitionCmpFunc[[]int]",by decide,Tryz.func167.trans (congrArg some (by kernel_rfl))⟩
 f28:=Tryz.func168.trans<|congrArg some (by kernel_rfl)
 f29:=Tryz.func169.trans<|congrArg some (by kernel_rfl)
 f46 := ⟨"slices.siftDownCmpFunc[[]int]",by decide,Tryz.func186.trans (congrArg some (by kernel_rfl))⟩
 f47:=Tryz.func187.trans<|congrArg some (by kernel_rfl)
 f48:=Tryz.func188.trans<|congrArg some (by kernel_rfl)
 f49 := ⟨"slices.medianAdjacentCmpFunc[[]int]",by decide,Tryz.func189.trans (congrArg some (by kernel_rfl))⟩
 f50 := ⟨"slices.medianCmpFunc[[]int]",by decide,Tryz.func190.trans (congrArg some (by kernel_rfl))⟩
 f57 := ⟨"slices.order2CmpFunc[[]int]",by decide,Tryz.func191.trans (congrArg some (by kernel_rfl))⟩
 t0:=Tryz.underlying0
 a0:=Tryz.isAgg0
 z0:=Tryz.sizeOf0
 v0:=Tryz.zeroValue0
 t3:=Tryz.underlying3
 a3:=Tryz.isAgg3
 z3:=Tryz.sizeOf3
 v3:=Tryz.zeroValue3
 t4:=Tryz.underlying4
 a4:=Tryz.isAgg4
 z4:=Tryz.sizeOf4
 v4:=Tryz.zeroValue4
 t5:=Tryz.underlying5
 a5:=Tryz.isAgg5
 z5:=Tryz.sizeOf5
 v5:=Tryz.zeroValue5
 t9:=Tryz.underlying9
 a9:=Tryz.isAgg9
 z9:=Tryz.sizeOf9
 v9:=Tryz.zeroValue9
 t22:=Tryz.underlying34
 a22:=Tryz.isAgg34
 z22:=Tryz.sizeOf34
 v22:=Tryz.zeroValue34
 a24:=Tryz.isAgg41
 z24:=Tryz.sizeOf41
 t25:=Tryz.underlying138
 a25:=Tryz.isAgg138
 z25:=Tryz.sizeOf138
 v25:=Tryz.zeroValue138
 t39:=Tryz.underlying155
 a39:=Tryz.isAgg155
 z39:=Tryz.sizeOf155
 v39:=Tryz.zeroValue155
 t45:=Tryz.underlying185
 a45:=Tryz.isAgg185
 z45:=Tryz.sizeOf185
 v45:=Tryz.zeroValue185
 t46:=Tryz.underlying186
 a46:=Tryz.isAgg186
 z46:=Tryz.sizeOf186
 v46:=Tryz.zeroValue186
 t50:=Tryz.underlying55
 a50:=Tryz.isAgg55
 z50:=Tryz.sizeOf55
 v50:=Tryz.zeroValue55
 t53:=Tryz.underlying192
 a53:=Tryz.isAgg192
 z53:=Tryz.sizeOf192
 v53:=Tryz.zeroValue192
 t55:=Tryz.underlying194
 a55:=Tryz.isAgg194
 z55:=Tryz.sizeOf194
 v55:=Tryz.zeroValue194
 t66:=Tryz.underlying212
 a66:=Tryz.isAgg212
 z66:=Tryz.sizeOf212
 v66:=Tryz.zeroValue212
 t70:=Tryz.underlying216
 a70:=Tryz.isAgg216
 z70:=Tryz.sizeOf216
 v70:=Tryz.zeroValue216
 t76:=Tryz.underlying218
 a76:=Tryz.isAgg218
 z76:=Tryz.sizeOf218
 v76:=Tryz.zeroValue218
 t77:=Tryz.underlying219
 a77:=Tryz.isAgg219
 z77:=Tryz.sizeOf219
 v77:=Tryz.zeroValue219
end
end Go.Proofs.YtjcmfddobaplbaaGreat
