/- Texts joined. No conditions. -/
import Derived.Test.YtabfkkjdfhbngaaGreatDoorV8
namespace Go.Proofs.YtabfkkjdfhbngaaGreatDoor
noncomputable section
open _root_.Inhabited renaming default -> QW
open _root_.Bool renaming true -> QX
open _root_.Bool renaming false -> QY
open _root_.Option renaming some -> QZ
open _root_.Option renaming none -> Q0
open _root_.Decidable renaming decide -> Q3
open _root_.Option renaming bind -> Vm, bind_eq_some_iff -> VQ
open _root_.List renaming all_eq_true -> Vn, range -> Vo, mem_range -> Vp, getElem_of_mem -> Vq, foldl_cons -> Vt, getElem_mem -> Vv, mem_cons -> Vy, all_cons -> Vz, length_nil -> VD, exists_cons_of_ne_nil -> VE, foldl_nil -> VF, map_cons -> VH, mem_cons_of_mem -> VI, mem_of_mem_take -> VJ, length_take -> VK, not_mem_nil -> VN, take_append_drop -> VO, length_singleton -> VR, take_of_length_le -> VS, length_pos_iff -> VV, mem_of_mem_drop -> VW
open _root_.Int renaming le_refl -> Vr, toNat_of_nonneg -> Vu
open _root_.Bool renaming true_and -> Vw, not_eq_true' -> VG
open _root_.BitVec renaming ofInt -> Vx
open _root_.Nat renaming not_lt_zero -> VA, zero_le -> VC, le_trans -> VM, pow_le_pow_right -> VP, not_succ_le_zero -> VX, le_of_succ_le_succ -> VY
open _root_.ByteArray renaming size_append -> VU
open Go.RowKit
set_option maxRecDepth 100000
theorem Dx (x lo hi:Int):QM (lJ x lo hi) (· = (Q3 (lo<=x)&&Q3 (x<=hi))):=by
 unfold lJ;refine QM.bind (P:=(· = (Q3 (lo<=x)&&Q3 (x<=hi)))) ?_ λv hv => .pure hv;refine .bifD (λh => .pure ?_) λh => .pure ?_
 ·simp [h]
 grind
theorem Li {l:List BA} (hl:l.length<=1000) (s:BA):QM (bK l s) λr=>0<=r↔s∈l:=by
 unfold bK;refine QM.sum (PS:=λ_=>s∉l) (PW:=λr:Int=>0<=r↔s∈l) ?_ λ_ hn => .pure ⟨λh=>absurd h (by decide),λh=>absurd h hn⟩;refine QM.loop (λz=>∃ i:Nat,i<=l.length/\z=(i:Int)/\∀ j,j<i->l.getD j QW≠s) (λz=>((l.length:Int)-z).toNat) ⟨0,by omega,rfl,λj hj=>by omega⟩ λz ⟨i,h1,h2,h3⟩ => ?_;subst h2;unfold fP J;simp only [tnn];refine .bifD (λhk => .gdD ⟨by omega,hk⟩<|.bifD (λhe => .pure ⟨λ_=>?_,λ_=>by omega⟩) λhe => .gdI (by omega)<|.pure ⟨⟨i+1,by omega,rfl,λj hj=>?_⟩,by omega⟩) λhk => .pure ?_
 ·simp_all
 ·grind
 intro hm;obtain ⟨j,hj,rfl⟩:=Vq hm
 grind
def nmB (s:BA):Bool:=(Bh).any λt=>Q3<|t=s
theorem Ee {s:BA}:nmB s=QX↔s∈Bh:=by
 unfold nmB;rw [List.any_eq_true];exact ⟨λ⟨t,h1,h2⟩=>of_decide_eq_true h2 ▸ h1,λh=>⟨s,h,decide_eq_true rfl⟩⟩
theorem L8 (s:BA):QM (ia s) (· = nmB s):=by
 unfold ia bX;exact QM.bind (P:=(· = nmB s)) ((Li (by decide) s).bind λv hv => .pure<|by rw [Bool.eq_iff_iff,dte,Ee];exact hv) λv hv => .pure hv
theorem OU (s:BA):QM (fo s) (· = nmB s):=by
 unfold fo dm;refine QM.bind (P:=(· = Bh)) (.pure rfl) λl hl=>?_;subst hl;refine QM.sum (PS:=λ_=>s∉Bh) (PW:=(· = nmB s)) ?_ λ_ hn => .pure (Bool.eq_false_iff.2 λh=>hn<|Ee.1 h).symm;have hlen:(Bh).length=10:=rfl;refine QM.loop (λz=>∃ i:Nat,i<=10/\z=(i:Int)/\∀ j,j<i->(Bh).getD j QW≠s) (λz=>((10:Int)-z).toNat) ⟨0,by omega,rfl,λj hj=>by omega⟩ λz ⟨i,h1,h2,h3⟩ => ?_;subst h2;unfold jo J;simp only [tnn,hlen];refine .bifD (λhk => .gdD ⟨by omega,hk⟩<|.bifD (λhe => .pure ?_) λhe => .gdI (by omega)<|.pure ⟨⟨i+1,by omega,rfl,λj hj=>?_⟩,by omega⟩) λhk => .pure ?_
 ·exact (Ee.2<|by rw [<- he];exact getD_in<|by rw [hlen];omega).symm
 ·by_cases e:j=i
  ·subst e;exact he
  exact h3 j (by omega)
 intro hm;obtain ⟨j,hj,rfl⟩:=Vq hm;refine h3 j (by rw [hlen] at hj;omega) ?_;rw [gdq,geq hj]
 rfl
def J2 (op:Int):Int:=if op=1 then 0 else if op=2\/op=3\/op=4\/op=5 then 2 else if op=6\/op=7 then 1 else -1
theorem Ng (op:Int):QM (lI op) λv=>v.2.2=J2 op:=by
 unfold lI J2;refine .bif (λh => .pure<|by simp_all) λh1=>?_;have h1:op≠1:=by simpa using h1
 rw [if_neg h1];refine .bif (λh => .pure<|by simp_all) λh2=>?_;refine .bif (λh => .pure<|by simp_all) λh3=>?_;refine .bif (λh => .pure<|by simp_all) λh4=>?_;refine .bif (λh => .pure<|by simp_all) λh5=>?_;have h2:op≠2:=by simpa using h2
 have h3:op≠3:=by simpa using h3
 have h4:op≠4:=by simpa using h4
 have h5:op≠5:=by simpa using h5
 rw [if_neg (by omega)];refine .bif (λh => .pure<|by simp_all) λh6=>?_;refine .bif (λh => .pure<|by simp_all) λh7=>?_;have h6:op≠6:=by simpa using h6
 have h7:op≠7:=by simpa using h7
 rw [if_neg (by omega)];exact .pure rfl
theorem OV (op:Int):QM (eD op) (· = J2 op):=by
 unfold eD J2;refine .bif (λh => .pure<|by simp_all) λh1=>?_;have h1:op≠1:=by simpa using h1
 rw [if_neg h1];refine QM.bind (P:=(· = Q3 (op=2\/op=3\/op=4\/op=5))) ?_ λv hv => .bif (λh => .pure<|by simp_all) λh=>?_
 ·refine .bif (λh => .pure ?_) λh2 => .bif (λh => .pure ?_) λh3 => .bif (λh => .pure ?_) λh4 => .pure ?_
  ·rw [h];exact (decide_eq_true<|.inl<|eq_of_beq h).symm
  ·rw [h];exact (decide_eq_true<|.inr<|.inl<|eq_of_beq h).symm
  ·rw [h];exact (decide_eq_true<|.inr<|.inr<|.inl<|eq_of_beq h).symm
  grind
 rw [if_neg (of_decide_eq_false<|by rw [<- hv];exact h)];refine QM.bind (P:=(· = Q3 (op=6\/op=7))) ?_ λv hv => .bif (λh => .pure<|by rw [if_pos (of_decide_eq_true<|by rw [<- hv];exact h)]) λh => .pure (by rw [if_neg (of_decide_eq_false<|by rw [<- hv];exact h)]);refine .bif (λh => .pure ?_) λh6 => .pure ?_
 ·rw [h];exact (decide_eq_true<|.inl<|eq_of_beq h).symm
 grind
theorem Nh (op:Int):J2 op<=2:=by
 unfold J2;omega
def okE (e:aa):Bool:=Q3 ((e.Kids.length:Int)=J2 e.Op)&&(Q3 (e.Op=1)==nmB e.Name)&&(Q3 (e.Op=1)||Q3 (e.Name=⟨#[]⟩))
theorem Ef {e:aa} (h:okE e=QX):e.Kids.length<=2:=by
 unfold okE at h;simp only [bae,dte] at h;have := Nh e.Op;omega
def szF (f:ZTE->Int) (c:Int) (k:ZTE):Int:=if 40<c then c else c+f k
def szD:Nat->ZTE->Int
 | 0,_=>41
 | d+1,t=>if okE t.out=QX then t.out.Kids.foldl (szF<|szD d) 1 else 41
def shD:Nat->ZTE->Bool
 | 0,_=>QY
 | d+1,t=>okE t.out&&t.out.Kids.all (shD d)
def Dy:Nat->ZTE->Int
 | 0,_=>0
 | d+1,t=>t.out.Kids.foldl (λc k=>c+Dy d k) 1
def ctF (f:ZTE->Int->Int) (most:Int) (n:Int) (k:ZTE):Int:=if n<=most then n+f k (most-n) else n
def ctD:Nat->ZTE->Int->Int
 | 0,_,_=>0
 | d+1,t,most=>t.out.Kids.foldl (ctF (ctD d) most) 1
theorem Cm {f:ZTE->Int} (h:∀ k,0<=f k):∀ (l:List ZTE) (c:Int),c<=l.foldl (λc k=>c+f k) c
 | [],_=>Vr _
 | k::l,c=>by
  have := Cm h l<|c+f k
  grind
theorem wy:∀ (d:Nat) (t:ZTE),0<=Dy d t
 | 0,_=>Vr _
 | d+1,t=>by
  have := Cm (wy d) t.out.Kids 1;rw [Dy];omega
theorem Gg {f:ZTE->Int}:∀ (l:List ZTE) (c:Int),40<c->l.foldl (szF f) c=c
 | [],_,_=>rfl
 | k::l,c,h=>by
  rw [Vt,szF,if_pos h];exact Gg l c h
theorem J3:∀ (d:Nat) (t:ZTE),0<=szD d t/\szD d t<=41+40*(d:Int)/\(szD d t<=40↔shD d t=QX/\Dy d t<=40)/\(szD d t<=40->szD d t=Dy d t)
 | 0,t=>by refine ⟨?_,?_,?_,?_⟩ <;> simp [szD,shD]
 | d+1,t=>by
  have key:∀ (l:List ZTE) (c:Int),0<=c->c<=40->(0<=l.foldl (szF<|szD d) c/\l.foldl (szF<|szD d) c<=81+40*(d:Int)/\(l.foldl (szF<|szD d) c<=40↔l.all (shD d)=QX/\l.foldl (λc k=>c+Dy d k) c<=40)/\(l.foldl (szF<|szD d) c<=40->l.foldl (szF<|szD d) c=l.foldl (λc k=>c+Dy d k) c)):=by
   intro l
   induction l with
   | nil=>intro c h0 h;refine ⟨h0,?_,?_,?_⟩ <;> simp <;> omega
   | cons k l ih=>
    intro c h0 h;obtain ⟨i1,i2,i3,i4⟩:=J3 d k;have hp:=wy d k;simp only [Vt,Vz,bae];rw [szF,if_neg (by omega)]
    by_cases hb:40<c+szD d k
    ·rw [Gg l _ hb];refine ⟨by omega,by omega,⟨λh=>absurd h (by omega),λ⟨⟨g1,_⟩,g2⟩ => ?_⟩,λh=>absurd h<|by omega⟩;have hg:=Cm (wy d) l<|c+Dy d k;have := i4<|i3.2 ⟨g1,by omega⟩;omega
    have e:=i4 (by omega);have s:=(i3.1<|by omega).1;obtain ⟨j1,j2,j3,j4⟩:=ih (c+szD d k) (by omega) (by omega);rw [e] at j1 j2 j3 j4 ⊢;exact ⟨j1,j2,⟨λh=>⟨⟨s,(j3.1 h).1⟩,(j3.1 h).2⟩,λh=>j3.2 ⟨h.1.2,h.2⟩⟩,j4⟩
  rw [szD,shD,Dy]
  grind
theorem Eg {f:ZTE->Int->Int} {most:Int}:∀ (l:List ZTE) (c:Int),most<c->l.foldl (ctF f most) c=c
 | [],_,_=>rfl
 | k::l,c,h=>by
  rw [Vt,ctF,if_neg (by omega)];exact Eg l c h
theorem J4:∀ (d:Nat) (t:ZTE) (most:Int),shD d t=QX->1<=ctD d t most/\ctD d t most<=Dy d t/\(ctD d t most<=most->ctD d t most=Dy d t)
 | 0,_,_,h=>by simp [shD] at h
 | d+1,t,most,h=>by
  rw [shD,bae] at h;have key:∀ (l:List ZTE) (c:Int),l.all (shD d)=QX->1<=c->(1<=l.foldl (ctF (ctD d) most) c/\l.foldl (ctF (ctD d) most) c<=l.foldl (λc k=>c+Dy d k) c/\(l.foldl (ctF (ctD d) most) c<=most->l.foldl (ctF (ctD d) most) c=l.foldl (λc k=>c+Dy d k) c)):=by
   intro l
   induction l with
   | nil=>intro c _ h;exact ⟨h,Vr _,λ_=>rfl⟩
   | cons k l ih=>
    intro c ha h;rw [Vz,bae] at ha;obtain ⟨i1,i2,i3⟩:=J4 d k (most-c) ha.1;simp only [Vt];rw [ctF]
    by_cases hm:c<=most
    ·rw [if_pos hm];obtain ⟨j1,j2,j3⟩:=ih (c+ctD d k (most-c)) ha.2 (by omega)
     by_cases hb:ctD d k (most-c)<=most-c
     ·rw [i3 hb] at j1 j2 j3 ⊢;exact ⟨j1,j2,j3⟩
     rw [Eg l _ (by omega)];have := Cm (wy d) l<|c+Dy d k;exact ⟨by omega,by omega,λh=>absurd h<|by omega⟩
    rw [if_neg hm,Eg l _ (by omega)];have := Cm (wy d) l<|c+Dy d k;have := wy d k;exact ⟨by omega,by omega,λh=>absurd h<|by omega⟩
  rw [ctD,Dy]
  simp_all
def vaE (t:ZTE):Bool:=shD 12 t&&Q3 (Dy 12 t<=40)
theorem Dz {α:Type} [Inhabited α] {f:Int->α->Int} {l:List α} {i:Nat} (h:i<l.length) (c:Int):(l.take<|i+1).foldl f c=f ((l.take i).foldl f c) (l.getD i default):=by
 rw [List.take_add_one,geq h]
 grind
theorem OW (t:ZTE):(⟨t.out.Op,t.out.Name,t.out.Kids⟩:aa)=t.out:=rfl
theorem L9 {e:aa} {d:Nat} {v:Int} (hv:v=J2 e.Op):QM (bif ((d:Int)==(0:Int)) then QZ QX else bif ((e.Kids.length:Int) != v) then QZ QX else Vm (ia e.Name) λv6=>bif (!((e.Op==(1:Int))==v6)) then QZ QX else bif (e.Op != (1:Int)) then QZ (!decide (e.Name=(⟨#[]⟩:BA))) else QZ QY) (· = !(Q3 (d≠0)&&okE e)):=by
 subst hv;refine .bif (λh => .pure ?_) λh0 => .bif (λh => .pure ?_) λh1=>(L8 e.Name).bind λw hw=>?_
 ·simp_all
 ·unfold okE
  simp_all
 subst hw;have hd:d≠0:=λe=>by subst e;simp at h0
 have h1:(e.Kids.length:Int)=J2 e.Op:=by simpa using h1
 unfold okE;rw [decide_eq_true hd,decide_eq_true h1,KC];refine .bif (λh => .pure ?_) λh => .bif (λh2 => .pure ?_) λh2 => .pure ?_
 ·rw [show (Q3 (e.Op=1)==nmB e.Name)=QY by simpa using h];rfl
 ·rw [show (Q3 (e.Op=1)==nmB e.Name)=QX by simpa using h,decide_eq_false (show ¬ e.Op=1 by simpa using h2)];simp
 simp_all
theorem Ma:∀ (d n:Nat) (t:ZTE),d<n->d<=12->QM (dO n t.out (d:Int)) (· = szD d t)
 | d,0,_,h,_=>absurd h (VA _)
 | d,n+1,t,h,h12=>by
  show QM (kF (dO n) t.out (d:Int)) _;unfold kF;refine (Ng t.out.Op).bind λv hv=>?_;refine QM.sum (PS:=λ_=>d≠0/\okE t.out=QX) (PW:=(· = szD d t)) ((L9 hv).bind λb hb => .bif (λh => .pure ?_) λh => .pure ?_) λ_ ⟨hd,ho⟩ => ?_
  ·rw [hb] at h;show (41:Int)=szD d t
   cases d with
   | zero=>rfl
   | succ d=>
    rw [szD,if_neg]
    simp_all
  ·simp_all
  obtain ⟨d,rfl⟩:∃ c,d=c+1:=⟨d-1,by omega⟩;have hk:=Ef ho;rw [szD,if_pos ho];refine QM.bind (P:=(· = t.out.Kids.foldl (szF<|szD d) 1)) ?_ λv hv => .pure hv;refine QM.loop (λz=>∃ i:Nat,i<=t.out.Kids.length/\z=((i:Int),(t.out.Kids.take i).foldl (szF<|szD d) 1)/\(t.out.Kids.take i).foldl (szF<|szD d) 1<=40/\0<=(t.out.Kids.take i).foldl (szF<|szD d) 1) (λz=>((t.out.Kids.length:Int)-z.1).toNat) ⟨0,by omega,rfl,by simp,by simp⟩ λz ⟨i,i1,i2,i3,i4⟩ => ?_;subst i2;unfold rf J;simp only [tnn];refine .bifD (λhlt=>?_) λhlt => .pure ?_
  ·have hil:i<t.out.Kids.length:=by omega
   have ht:=Dz (f:=szF<|szD d) hil 1;rw [szF,if_neg (by omega)] at ht;obtain ⟨b1,b2,_,_⟩:=J3 d<|t.out.Kids.getD i QW;refine .gdD ⟨by omega,hlt⟩<|.gdI (by omega) ?_;rw [OW,show ((d+1:Nat):Int)-1=(d:Int) by omega];refine (Ma d n _ (by omega)<|by omega).bind λv hv=>?_;subst hv;refine .gdI (by omega)<|.bifD (λhb => .pure ?_) λhb => .gdI (by omega)<|.pure ⟨⟨i+1,by omega,by rw [ht];rfl,by rw [ht];omega,by rw [ht];omega⟩,by simp only [];omega⟩;show _=t.out.Kids.foldl (szF<|szD d) 1;have e:=VO (i+1) t.out.Kids
   conv=>rhs;rw [<- e,List.foldl_append,ht,Gg _ _ hb]
  grind
theorem OX (t:ZTE):QM (gJ t.out) (· = vaE t):=by
 unfold gJ;refine QM.bind (P:=(· = szD 12 t)) (pQ 12 λm hm=>Ma 12 m t hm<|by omega) λv hv => .pure ?_;subst hv;unfold vaE;rw [Bool.eq_iff_iff,bae,dte,dte];exact (J3 12 t).2.2.1
theorem J5:∀ (d n:Nat) (t:ZTE),d<n->d<=12->QM (cT n t.out (d:Int)) (· = shD d t)
 | d,0,_,h,_=>absurd h (VA _)
 | d,n+1,t,h,h12=>by
  show QM (dQ (cT n) t.out (d:Int)) _;unfold dQ;have test:QM (bif Q3 ((d:Int)<(1:Int)) then QZ QX else Vm (eD t.out.Op) λv4=>bif ((t.out.Kids.length:Int) != v4) then QZ QX else Vm (fo t.out.Name) λv6=>bif (!((t.out.Op==(1:Int))==v6)) then QZ QX else bif (t.out.Op != (1:Int)) then QZ (!decide (t.out.Name=(⟨#[]⟩:BA))) else QZ QY) (· = !(Q3 (d≠0)&&okE t.out)):=by
   refine .bifD (λh => .pure ?_) λh0=>(OV _).bind λv4 h4=>?_
   ·grind
   have hh:=L9 (e:=t.out) (d:=d) h4;rw [show ((d:Int)==(0:Int))=QY from (KC _ _).trans (decide_eq_false<|by omega)] at hh;obtain ⟨w,w1,w2⟩:=L8 t.out.Name;obtain ⟨w',w1',w2'⟩:=OU t.out.Name
   simp_all
  refine QM.sum (PS:=λ_=>d≠0/\okE t.out=QX) (PW:=(· = shD d t)) (test.bind λb hb => .bif (λh => .pure ?_) λh => .pure ?_) λ_ ⟨hd,ho⟩ => ?_
  ·rw [hb] at h;show QY=shD d t
   cases d with
   | zero=>rfl
   | succ d=>
    rw [shD]
    simp_all
  ·simp_all
  obtain ⟨d,rfl⟩:∃ c,d=c+1:=⟨d-1,by omega⟩;have hk:=Ef ho;rw [shD,ho,Vw];refine QM.sum (PS:=λ_=>t.out.Kids.all (shD d)=QX) (PW:=(· = t.out.Kids.all (shD d))) ?_ λ_ h => .pure h.symm;refine QM.loop (λz=>∃ i:Nat,i<=t.out.Kids.length/\z=(i:Int)/\∀ j,j<i->shD d (t.out.Kids.getD j QW)=QX) (λz=>((t.out.Kids.length:Int)-z).toNat) ⟨0,by omega,rfl,λj hj=>absurd hj<|by omega⟩ λz ⟨i,i1,i2,i3⟩ => ?_;subst i2;unfold iL J;simp only [tnn];refine .bifD (λhlt=>?_) λhlt => .pure ?_
  ·refine .gdD ⟨by omega,hlt⟩<|.gdI (by omega) ?_;rw [show ((d+1:Nat):Int)-1=(d:Int) by omega];refine (J5 d n _ (by omega)<|by omega).bind λv hv => .bif (λhb => .pure ?_) λhb => .gdI (by omega)<|.pure ⟨⟨i+1,by omega,rfl,λj hj=>?_⟩,by omega⟩
   ·show QY=_
    symm
    rw [Bool.eq_false_iff];intro ha;have := Vn.1 ha _<|getD_in (show i<t.out.Kids.length by omega);rw [<- hv] at this;rw [this] at hb
    cases hb
   grind
  show t.out.Kids.all (shD d)=QX;rw [Vn];intro k hkm;obtain ⟨j,hj,rfl⟩:=Vq hkm
  grind
theorem Eh:∀ (d:Nat) (t:ZTE),shD d t=QX->Dy d t<3 ^ d
 | 0,_,h=>by simp [shD] at h
 | d+1,t,h=>by
  rw [shD,bae] at h;have hk:=Ef h.1;have hp:(1:Int)<=3 ^ d:=by
   have := VP (n:=3) (by omega)<|VC d;have e:(3:Int) ^ d=((3 ^ d:Nat):Int):=by simp
   rw [e];omega
  rw [Dy,Int.pow_succ]
  match t.out.Kids,hk,h.2 with
  | [],_,_=>simp only [VF];omega
  | [a],_,h2=>
   have := Eh d a (by simpa using h2);simp only [Vt,VF];omega
  | [a,b],_,h2=>
   simp only [Vz,List.all_nil,Bool.and_true,bae] at h2;have := Eh d a h2.1;have := Eh d b h2.2;simp only [Vt,VF];omega
  | a::b::c::l,hk,_=>grind
theorem OY:∀ (d n:Nat) (t:ZTE) (most:Int),d<n->d<=12->shD d t=QX->0<=most->most<=40->QM (cV n t.out most) (· = ctD d t most)
 | d,0,_,_,h,_,_,_,_=>absurd h (VA _)
 | 0,_+1,_,_,_,_,h,_,_=>by simp [shD] at h
 | d+1,n+1,t,most,h,h12,hs,h0,h40=>by
  show QM (dR (cV n) t.out most) _;unfold dR;have hs':=hs;rw [shD,bae] at hs;have hk:=Ef hs.1;rw [ctD];refine QM.bind (P:=(· = t.out.Kids.foldl (ctF (ctD d) most) 1)) ?_ λv hv => .pure hv;refine QM.loop (λz=>∃ i:Nat,i<=t.out.Kids.length/\z=((i:Int),(t.out.Kids.take i).foldl (ctF (ctD d) most) 1)/\0<=(t.out.Kids.take i).foldl (ctF (ctD d) most) 1) (λz=>((t.out.Kids.length:Int)-z.1).toNat) ⟨0,by omega,rfl,by simp⟩ λz ⟨i,i1,i2,i4⟩ => ?_;subst i2;unfold jp J;simp only [tnn];refine QM.bind (P:=(· = Q3 (i<t.out.Kids.length/\(t.out.Kids.take i).foldl (ctF (ctD d) most) 1<=most))) (.bifD (λhlt => .pure<|decide_eq_decide.2 ⟨λh=>⟨by omega,h⟩,λh=>h.2⟩) λhlt => .pure (decide_eq_false<|by omega).symm) λb hb => .bif (λhbt=>?_) λhbf => .pure ?_
  ·obtain ⟨hil,hle⟩:=of_decide_eq_true<|hb.symm.trans hbt;have ht:=Dz (f:=ctF (ctD d) most) hil 1;rw [ctF,if_pos hle] at ht;have hsk:=Vn.1 hs.2 _<|getD_in hil;obtain ⟨b1,b2,_⟩:=J4 d (t.out.Kids.getD i QW) (most-(t.out.Kids.take i).foldl (ctF (ctD d) most) 1) hsk;have b3:=Eh d _ hsk;have b4:(3:Int) ^ d<=531441:=by
    have := VP (n:=3) (by omega) (show d<=12 by omega);have e:(3:Int) ^ d=((3 ^ d:Nat):Int):=by simp
    rw [e];have : 3 ^ 12=531441:=by decide
    omega
   refine .gdD ⟨by omega,by omega⟩<|.gdI (by omega)<|(OY d n _ _ (by omega) (by omega) hsk (by omega)<|by omega).bind λv hv=>?_;subst hv;exact .gdI (by omega)<|.gdI (by omega)<|.pure ⟨⟨i+1,by omega,by simp_all,by omega⟩,by omega⟩
  have hn:=of_decide_eq_false<|hb.symm.trans hbf;show _=t.out.Kids.foldl (ctF (ctD d) most) 1
  by_cases hil:i<t.out.Kids.length
  ·have e:=VO i t.out.Kids
   conv=>rhs;rw [<- e,List.foldl_append]
   rw [Eg (t.out.Kids.drop i) _ (by omega)]
  grind
theorem OZ (t:ZTE):QM (bJ t.out) (· = vaE t):=by
 unfold bJ vaE;refine QM.bind (P:=(· = shD 12 t)) (pQ 12 λm hm=>J5 12 m t hm<|by omega) λb hb=>?_;refine QM.bind (P:=(· = (shD 12 t&&Q3 (Dy 12 t<=40)))) (.bif (λh=>?_) λh => .pure<|by rw [<- hb,h];rfl) λv hv => .pure hv;rw [hb] at h;refine QM.bind (P:=(· = ctD 12 t 40)) (pQ 12 λm hm=>OY 12 m t 40 hm (by omega) h (by omega)<|by omega) λv hv => .pure ?_;subst hv;obtain ⟨b1,b2,b3⟩:=J4 12 t 40 h
 grind
def vaR (r:ah):Bool:=Q3 (1<=r.Kind)&&Q3 (r.Kind<=3)&&vaE r.Expr.inn
def vaM (m:List ah):Bool:=Q3 (1<=m.length)&&Q3 (m.length<=5)&&m.all vaR
theorem J6 {m:List ah} (hl:m.length<=4000000):QM (bY m) (· = vaM m):=by
 unfold bY vaM;refine (Dx _ _ _).bind λv hv=>?_;subst hv;refine QM.bind (P:=(· = (Q3 (1<=m.length)&&Q3 (m.length<=5)&&m.all vaR))) (.bif (λh=>?_) λh => .pure ?_) λv hv => .pure hv
 ·have hb:(Q3 (1<=m.length)&&Q3 (m.length<=5))=QX:=by
   simp only [bae,dte] at h ⊢;omega
  rw [hb,Vw];unfold aC aD;refine QM.bind (P:=(· = !m.all vaR)) (QM.bind (P:=λv:Int=>(0<=v↔m.all vaR=QY)) ?_ λv hv => .pure ?_) λv hv => .pure (by rw [hv,Bool.not_not])
  ·refine QM.sum (PS:=λ_=>m.all vaR=QX) (PW:=λv:Int=>(0<=v↔m.all vaR=QY)) ?_ λ_ hn => .pure (by rw [hn];simp);refine QM.loop (λz=>∃ i:Nat,i<=m.length/\z=(i:Int)/\∀ j,j<i->vaR (m.getD j QW)=QX) (λz=>((m.length:Int)-z).toNat) ⟨0,by omega,rfl,λj hj=>by omega⟩ λz ⟨i,h1,h2,h3⟩ => ?_;subst h2;unfold aR kR J;simp only [tnn];refine .bifD (λhk => .gdD ⟨by omega,hk⟩ (QM.bind (P:=(· = !vaR (m.getD i QW))) ((Dx _ _ _).bind λw hw=>?_) λw hw => .bif (λhb => .pure ⟨λ_=>?_,λ_=>by omega⟩) λhb => .gdI (by omega)<|.pure ⟨⟨i+1,by omega,rfl,λj hj=>?_⟩,by omega⟩)) λhk => .pure ?_
   ·subst hw;refine QM.bind (P:=(· = !vaR (m.getD i QW))) (.bif (λhn => .pure ?_) λhn=>(OX (m.getD i QW).Expr.inn).bind λu hu => .pure ?_) λu hu => .pure hu
    ·unfold vaR;rw [show (Q3 (1<=(m.getD i QW).Kind)&&Q3 ((m.getD i QW).Kind<=3))=QY from (VG _).mp hn]
     rfl
    unfold vaR;rw [show (Q3 (1<=(m.getD i QW).Kind)&&Q3 ((m.getD i QW).Kind<=3))=QX from (Bool.not_eq_false' _).mp hn,hu]
    rfl
   ·rw [List.all_eq_false];refine ⟨m.getD i QW,getD_in (by omega),?_⟩;rw [hw] at hb;simpa using hb
   ·by_cases e:j=i
    ·subst e;rw [hw] at hb;simpa using hb
    exact h3 j (by omega)
   show m.all vaR=QX;rw [Vn];intro r hr;obtain ⟨j,hj,rfl⟩:=Vq hr;have := h3 j (by omega)
   rwa [gdq,geq hj] at this
  show Q3 ((0:Int)<=v)=_
  cases h:m.all vaR with
  | true=>exact decide_eq_false λe=>by rw [hv.1 e] at h;cases h
  | false=>exact decide_eq_true (hv.2 h)
 grind
theorem Ni {m:List ah} (hl:m.length<=4000000):QM (cg m) (· = vaM m):=by
 unfold cg;refine QM.sum (PS:=λ_=>∀ j,j<m.length->j<=5->vaR (m.getD j QW)=QX) (PW:=(· = vaM m)) ?_ λ_ h=>?_
 ·refine QM.loop (λz=>∃ i:Nat,i<=m.length/\z=(i:Int)/\∀ j,j<i->vaR (m.getD j QW)=QX) (λz=>((m.length:Int)-z).toNat) ⟨0,by omega,rfl,λj hj=>by omega⟩ λz ⟨i,h1,h2,h3⟩ => ?_;subst h2;unfold fI J;simp only [tnn];refine QM.bind (P:=(· = Q3 (i<m.length/\i<=5))) (.bifD (λhlt => .pure<|decide_eq_decide.2 ⟨λh=>⟨by omega,by omega⟩,λh=>by omega⟩) λhlt => .pure (decide_eq_false<|by omega).symm) λb hb => .bif (λhbt=>?_) λhbf => .pure ?_
  ·obtain ⟨hil,hle⟩:=of_decide_eq_true<|hb.symm.trans hbt;refine .gdD ⟨by omega,by omega⟩ (QM.bind (P:=(· = !(Q3 (1<=(m.getD i QW).Kind)&&Q3 ((m.getD i QW).Kind<=3)))) (.bifD (λh => .pure ?_) λh => .pure ?_) λw hw=>QM.bind (P:=(· = !vaR (m.getD i QW))) (.bif (λhn => .pure ?_) λhn=>(OZ (m.getD i QW).Expr.inn).bind λu hu => .pure ?_) λu hu => .bif (λhu2 => .pure ?_) λhu2 => .gdI (by omega)<|.pure ⟨⟨i+1,by omega,rfl,λj hj=>?_⟩,by omega⟩)
   ·rw [decide_eq_false (show ¬ 1<=(m.getD i QW).Kind by omega)];rfl
   ·rw [decide_eq_true (show 1<=(m.getD i QW).Kind by omega),Vw,<- decide_not];exact decide_eq_decide.2 (by omega)
   ·unfold vaR;rw [hw] at hn;rw [show (Q3 (1<=(m.getD i QW).Kind)&&Q3 ((m.getD i QW).Kind<=3))=QY from (VG _).mp hn]
    rfl
   ·unfold vaR;rw [hw] at hn;rw [show (Q3 (1<=(m.getD i QW).Kind)&&Q3 ((m.getD i QW).Kind<=3))=QX from (Bool.not_eq_false' _).mp hn,hu]
    rfl
   ·show QY=vaM m
    symm
    unfold vaM;rw [Bool.and_eq_false_iff];refine .inr<|List.all_eq_false.2 ⟨m.getD i QW,getD_in hil,?_⟩;rw [hu] at hu2;simpa using hu2
   by_cases e:j=i
   ·subst e;rw [hu] at hu2;simpa using hu2
   exact h3 j (by omega)
  grind
 refine QM.bind (P:=(· = vaM m)) (.bifD (λh0 => .pure ?_) λh0 => .pure ?_) λv hv => .pure hv
 ·unfold vaM;rw [decide_eq_true (show 1<=m.length by omega),Vw]
  by_cases h5:m.length<=5
  ·rw [decide_eq_true h5,decide_eq_true (show (m.length:Int)<=5 by omega),Vw]
   symm
   rw [Vn];intro r hr;obtain ⟨j,hj,rfl⟩:=Vq hr;have := h j hj (by omega)
   rwa [gdq,geq hj] at this
  grind
 unfold vaM
 simp_all
theorem O0:∀ (d:Nat) (t:ZTE),shD d t=QX->VT t
 | 0,_,h=>by simp [shD] at h
 | d+1,.mk op nm ks,h=>by
  rw [shD,bae] at h;obtain ⟨h1,h2⟩:=h;have hall:∀ l:List ZTE,l.all (shD d)=QX->VL l:=by
   intro l
   induction l with
   | nil=>intro _;rw [VL];trivial
   | cons a l ih=>
    intro ha;rw [Vz,bae] at ha;rw [VL];exact ⟨O0 d a ha.1,ih ha.2⟩
  have hks:=hall ks h2;unfold okE at h1;rw [bae,bae] at h1;obtain ⟨⟨g1,g2⟩,_⟩:=h1;have g1:(ks.length:Int)=J2 op:=of_decide_eq_true g1;have g2:(Q3 (op=1)==nmB nm)=QX:=g2;rw [VT];unfold J2 at g1
  by_cases o1:op=1
  ·subst o1;refine .inl ⟨rfl,?_⟩;have : nmB nm=QX:=by simpa using g2
   exact Ee.1 this
  grind
theorem Mb {m:List ah} (h:vaM m=QX):(∀ r∈m,VT r.Expr.inn)/\m.length<=5:=by
 unfold vaM at h;simp only [bae,dte] at h;refine ⟨λr hr=>?_,h.1.2⟩;have := Vn.1 h.2 r hr;unfold vaR vaE at this;simp only [bae] at this;exact O0 12 _ this.2.1
def Le {α:Type} (a b:Option α):Prop:=∀ q,a=QZ q->b=QZ q
theorem Le.refl {α:Type} (a:Option α):Le a a:=λ_ h=>h
theorem Le.bind {α β:Type} {a b:Option α} {k l:α->Option β} (h:Le a b) (hk:∀ x,Le (k x)<|l x):Le (a.bind k) (b.bind l):=λq hq=>by
 obtain ⟨x,h1,h2⟩:=VQ.1 hq;exact VQ.2 ⟨x,h x h1,hk x q h2⟩
theorem Le.gd {α:Type} {a b:Option α} (c:Bool) (h:Le a b):Le (gd c a) (gd c b):=λq hq=>by
 obtain ⟨h1,h2⟩:=gdL hq;rw [tV h1];exact h q h2
theorem Le.bif {α:Type} {a b a' b':Option α} (c:Bool) (h:Le a a') (h':Le b b'):Le (bif c then a else b) (bif c then a' else b'):=by
 cases c
 ·exact h'
 exact h
theorem Le.ifc {α:Type} {a b a' b':Option α} (c:Prop) [Decidable c] (h:Le a a') (h':Le b b'):Le (if c then a else b) (if c then a' else b'):=by
 split
 ·exact h
 exact h'
theorem Le.sumK {S W:Type} {a b:Option (S ⊕ W)} {k l:S->Option W} (h:Le a b) (hk:∀ x,Le (k x)<|l x):Le (sumK a k) (sumK b l):=λq hq=>by
 cases a with
 | none=>cases hq
 | some z=>
  rw [h z rfl]
  cases z with
  | inl s=>exact hk s q hq
  | inr w=>exact hq
def mJ {S E:Type} (n:Nat) (step:S->Option (S ⊕ E)) (s:S):Option E:=
 Nat.rec (motive:=λ_=>S->Option E) (λ_=>Q0) (λ_ ih s=>match step s with
  | none=>Q0
  | some (.inl s')=>ih s'
  | some (.inr e)=>QZ e) n s
theorem Le.loop {S E:Type} {n:Nat} {step step':S->Option (S ⊕ E)} (h:∀ s,Le (step s)<|step' s) (s:S):Le (mJ n step s) (aB step' s):=by
 induction n generalizing s with
 | zero=>intro q hq;cases hq
 | succ n ih=>
  intro q hq;rw [yg]
  change (match step s with
   | none=>Q0
   | some (.inl s')=>mJ n step s'
   | some (.inr e)=>QZ e)=QZ q at hq
  match hs:step s with
  | none=>rw [hs] at hq;cases hq
  | some (.inl s')=>
   rw [hs] at hq;rw [h s _ hs];exact ih s' q hq
  | some (.inr e)=>
   rw [hs] at hq;rw [h s _ hs];exact hq
def PH {α:Type} (e:Bool) (_ b:Option α):Option α:=bif e then Q0 else b
theorem Le.nilK {α:Type} {e:Bool} {a b a' b':Option α} (_:Le a a') (h:Le b b'):Le (PH e a b) (nilK e a' b'):=λq hq=>by
 cases e with
 | true=>cases hq
 | false=>
  unfold Go.Proofs.YtabfkkjdfhbngaaGreatDoor.nilK;exact h q hq
def kx (code:LI):Option ae:= Vm (bif Q3 ((2000:Int)<(code.length:Int)) then gd (Q3<|0<=(0:Int)/\(0:Int)<=(2000:Int)/\(2000:Int)<=(code.length:Int)) <|QZ ((code.drop (0:Int).toNat).take<|(2000:Int).toNat-(0:Int).toNat) else QZ code) λs1=>QZ (⟨s1,(0:Int)⟩:ae)
def au (r_:ae) (n:Int):Option (ae×Int):= gd (QF .i64<|r_.p+(1:Int)) <|Vm (bif Q3 (n<(1:Int)) then QZ QX else QZ ((r_.b.length:Int)==(0:Int))) λs2=>bif s2 then QZ ((⟨r_.b,(r_.p+(1:Int))⟩:ae),(0:Int)) else gd (QF .i64<|(r_.p+(1:Int))-(1:Int)) <|bif Q3 (((r_.p+(1:Int))-(1:Int))<(r_.b.length:Int)) then gd (Q3<|0<=((r_.p+(1:Int))-(1:Int))/\((r_.p+(1:Int))-(1:Int))<(r_.b.length:Int)) <|gd (QF .i64<|J r_.b<|(r_.p+(1:Int))-(1:Int)) <|gd (Q3<|n≠0) <|QZ ((⟨r_.b,(r_.p+(1:Int))⟩:ae),((J r_.b<|(r_.p+(1:Int))-(1:Int)).tmod n)) else gd (Q3<|(r_.b.length:Int)≠0) <|gd (Q3<|0<=(((r_.p+(1:Int))-(1:Int)).tmod (r_.b.length:Int))/\(((r_.p+(1:Int))-(1:Int)).tmod (r_.b.length:Int))<(r_.b.length:Int)) <|gd (QF .i64<|J r_.b<|((r_.p+(1:Int))-(1:Int)).tmod (r_.b.length:Int)) <|gd (QF .i64<|(J r_.b<|((r_.p+(1:Int))-(1:Int)).tmod (r_.b.length:Int))*(131:Int)) <|gd (QF .i64<|((r_.p+(1:Int))-(1:Int))*(7:Int)) <|gd (QF .i64<|(((r_.p+(1:Int))-(1:Int))*(7:Int))+(3:Int)) <|gd (Q3<|0<=(((((r_.p+(1:Int))-(1:Int))*(7:Int))+(3:Int)).tmod (r_.b.length:Int))/\(((((r_.p+(1:Int))-(1:Int))*(7:Int))+(3:Int)).tmod (r_.b.length:Int))<(r_.b.length:Int)) <|gd (QF .i64<|J r_.b<|((((r_.p+(1:Int))-(1:Int))*(7:Int))+(3:Int)).tmod (r_.b.length:Int)) <|gd (QF .i64<|(J r_.b<|((((r_.p+(1:Int))-(1:Int))*(7:Int))+(3:Int)).tmod (r_.b.length:Int))*(1117:Int)) <|gd (QF .i64<|((J r_.b<|((r_.p+(1:Int))-(1:Int)).tmod (r_.b.length:Int))*(131:Int))+((J r_.b<|((((r_.p+(1:Int))-(1:Int))*(7:Int))+(3:Int)).tmod (r_.b.length:Int))*(1117:Int))) <|gd (QF .i64<|((r_.p+(1:Int))-(1:Int))*(29:Int)) <|gd (QF .i64<|(((J r_.b<|((r_.p+(1:Int))-(1:Int)).tmod (r_.b.length:Int))*(131:Int))+((J r_.b<|((((r_.p+(1:Int))-(1:Int))*(7:Int))+(3:Int)).tmod (r_.b.length:Int))*(1117:Int)))+(((r_.p+(1:Int))-(1:Int))*(29:Int))) <|gd (QF .i64<|((r_.p+(1:Int))-(1:Int)).tdiv (r_.b.length:Int)) <|gd (QF .i64<|(((r_.p+(1:Int))-(1:Int)).tdiv (r_.b.length:Int))*(53:Int)) <|gd (QF .i64<|((((J r_.b<|((r_.p+(1:Int))-(1:Int)).tmod (r_.b.length:Int))*(131:Int))+((J r_.b<|((((r_.p+(1:Int))-(1:Int))*(7:Int))+(3:Int)).tmod (r_.b.length:Int))*(1117:Int)))+(((r_.p+(1:Int))-(1:Int))*(29:Int)))+((((r_.p+(1:Int))-(1:Int)).tdiv (r_.b.length:Int))*(53:Int))) <|gd (Q3<|(64:Int)≠0) <|gd (QF .i64<|(((((J r_.b<|((r_.p+(1:Int))-(1:Int)).tmod (r_.b.length:Int))*(131:Int))+((J r_.b<|((((r_.p+(1:Int))-(1:Int))*(7:Int))+(3:Int)).tmod (r_.b.length:Int))*(1117:Int)))+(((r_.p+(1:Int))-(1:Int))*(29:Int)))+((((r_.p+(1:Int))-(1:Int)).tdiv (r_.b.length:Int))*(53:Int))).tdiv (64:Int)) <|Vm (QZ<|N8 .i64 (((((J r_.b<|((r_.p+(1:Int))-(1:Int)).tmod (r_.b.length:Int))*(131:Int))+((J r_.b<|((((r_.p+(1:Int))-(1:Int))*(7:Int))+(3:Int)).tmod (r_.b.length:Int))*(1117:Int)))+(((r_.p+(1:Int))-(1:Int))*(29:Int)))+((((r_.p+(1:Int))-(1:Int)).tdiv (r_.b.length:Int))*(53:Int)))<|(((((J r_.b<|((r_.p+(1:Int))-(1:Int)).tmod (r_.b.length:Int))*(131:Int))+((J r_.b<|((((r_.p+(1:Int))-(1:Int))*(7:Int))+(3:Int)).tmod (r_.b.length:Int))*(1117:Int)))+(((r_.p+(1:Int))-(1:Int))*(29:Int)))+((((r_.p+(1:Int))-(1:Int)).tdiv (r_.b.length:Int))*(53:Int))).tdiv (64:Int)) λw27=>gd (Q3<|n≠0) <|QZ ((⟨r_.b,(r_.p+(1:Int))⟩:ae),(w27.tmod n))
def aI (r_:ae) (list:LI):Option (ae×Int):= Vm (au (⟨r_.b,r_.p⟩:ae) (list.length:Int)) λv1=>gd (Q3<|0<=v1.2/\v1.2<(list.length:Int)) <|QZ ((⟨v1.1.b,v1.1.p⟩:ae),(J list v1.2))
def l4 (r_:ae) (list:List BA):Option (ae×BA):= Vm (au (⟨r_.b,r_.p⟩:ae) (list.length:Int)) λv1=>gd (Q3<|0<=v1.2/\v1.2<(list.length:Int)) <|QZ ((⟨v1.1.b,v1.1.p⟩:ae),(J list v1.2))
def nN:Option (List BA):= QZ ([(⟨#[120,61,49,59,97,61,121,124,121,61,49,59,97,61,120]⟩:BA),(⟨#[120,61,49,59,102,101,110,99,101,59,97,61,121,124,121,61,49,59,102,101,110,99,101,59,97,61,120]⟩:BA),(⟨#[120,61,49,59,121,61,49,124,97,61,121,59,98,61,120]⟩:BA),(⟨#[120,61,49,59,121,61,49,124,97,61,121,59,102,101,110,99,101,59,98,61,120]⟩:BA),(⟨#[120,61,49,59,102,101,110,99,101,59,121,61,49,124,97,61,121,59,98,61,120]⟩:BA),(⟨#[97,61,120,59,121,61,49,124,97,61,121,59,120,61,49]⟩:BA),(⟨#[97,61,120,59,121,61,97,124,97,61,121,59,120,61,97]⟩:BA),(⟨#[120,61,49,124,120,61,50,124,97,61,120,59,98,61,120]⟩:BA),(⟨#[120,61,49,124,121,61,49,124,97,61,120,59,98,61,121,124,97,61,121,59,98,61,120]⟩:BA),(⟨#[120,61,49,124,97,61,120,59,121,61,49,124,97,61,121,59,98,61,120]⟩:BA),(⟨#[120,61,49,124,121,61,49,124,97,61,120,59,98,61,121]⟩:BA),(⟨#[97,61,120,58,49,124,97,61,120,58,50,124,120,61,51]⟩:BA),(⟨#[120,61,49,59,97,61,120,59,98,61,121,124,121,61,49,59,97,61,121,59,98,61,120]⟩:BA),(⟨#[120,61,50,59,121,61,49,124,121,61,50,59,120,61,49]⟩:BA),(⟨#[97,61,120,58,49,59,98,61,121,124,97,61,121,58,49,59,98,61,120]⟩:BA),(⟨#[120,61,49,59,120,61,50,124,97,61,120,59,98,61,120]⟩:BA),(⟨#[120,61,49,59,121,61,49,59,97,61,122,124,122,61,49,59,97,61,121,59,98,61,120]⟩:BA),(⟨#[97,61,120,58,49,124,98,61,120,58,49]⟩:BA),(⟨#[102,101,110,99,101]⟩:BA),(⟨#[]⟩:BA),(⟨#[120,61,49,59,97,61,121,124,121,61,49,59,102,101,110,99,101,59,97,61,120]⟩:BA)]:List BA)
def il (s:BA) (c:Int):LS ((List BA)×Int×Int) (List BA):=λs5=>bif Q3 (s5.2.1<=(s.size:Int)) then Vm (Vm (bif (s5.2.1==(s.size:Int)) then QZ QX else gd (Q3<|0<=s5.2.1/\s5.2.1<(s.size:Int)) <|QZ<|((s.data.getD s5.2.1.toNat 0).toNat:Int)==c) λs10=>bif s10 then gd (Q3<|0<=s5.2.2/\s5.2.2<=s5.2.1/\s5.2.1<=(s.size:Int)) <|gd (bq (s5.1.length+1) 16) <|gd (QF .i64<|s5.2.1+(1:Int)) <|QZ ((s5.1++[(s.extract s5.2.2.toNat s5.2.1.toNat)]),(s5.2.1+(1:Int))) else QZ (s5.1,s5.2.2)) λs9=>gd (QF .i64<|s5.2.1+(1:Int)) <|QZ (.inl (s9.1,(s5.2.1+(1:Int)),s9.2)) else QZ (.inr s5.1)
def dh (s:BA) (c:Int):Option (List BA):= Vm (aB (il s c) (([]:List BA),(0:Int),(0:Int))) λs1=>QZ s1
def bF (s:BA) (at_:Int) (from_:Int) (most:Int):Option Int:= Vm (bif Q3 ((s.size:Int)<=at_) then QZ QX else gd (Q3<|0<=at_/\at_<(s.size:Int)) <|QZ<|Q3<|((s.data.getD at_.toNat 0).toNat:Int)<from_) λs1=>Vm (bif s1 then QZ QX else gd (Q3<|0<=at_/\at_<(s.size:Int)) <|gd (QF .u8<|((s.data.getD at_.toNat 0).toNat:Int)-from_) <|gd (QF .i64<|((s.data.getD at_.toNat 0).toNat:Int)-from_) <|QZ<|Q3<|most<(((s.data.getD at_.toNat 0).toNat:Int)-from_)) λs4=>bif s4 then QZ (-1:Int) else gd (Q3<|0<=at_/\at_<(s.size:Int)) <|gd (QF .u8<|((s.data.getD at_.toNat 0).toNat:Int)-from_) <|gd (QF .i64<|((s.data.getD at_.toNat 0).toNat:Int)-from_) <|QZ<|((s.data.getD at_.toNat 0).toNat:Int)-from_
def nO (s:BA):Option QH:= bif Q3 (s=(⟨#[102,101,110,99,101]⟩:BA)) then QZ (⟨(4:Int),(0:Int),(0:Int),(0:Int)⟩:QH) else Vm (bF s (0:Int) (97:Int) (2:Int)) λv2=>Vm (bF s (0:Int) (120:Int) (2:Int)) λv3=>Vm (bif Q3 ((0:Int)<=v2) then QZ ((s.size:Int)==(3:Int)) else QZ QY) λs4=>bif s4 then Vm (bF s (2:Int) (120:Int) (2:Int)) λv7=>QZ (⟨(1:Int),v7,v2,(0:Int)⟩:QH) else Vm (bif Q3 ((0:Int)<=v2) then QZ ((s.size:Int)==(5:Int)) else QZ QY) λs8=>bif s8 then Vm (bF s (2:Int) (120:Int) (2:Int)) λv11=>Vm (bF s (4:Int) (48:Int) (3:Int)) λv12=>QZ (⟨(5:Int),v11,v2,v12⟩:QH) else Vm (bif Q3 ((0:Int)<=v3) then Vm (bF s (2:Int) (97:Int) (2:Int)) λv15=>QZ (Q3<|(0:Int)<=v15) else QZ QY) λs13=>bif s13 then Vm (bF s (2:Int) (97:Int) (2:Int)) λv17=>QZ (⟨(3:Int),v3,v17,(0:Int)⟩:QH) else Vm (bF s (2:Int) (48:Int) (3:Int)) λv18=>QZ (⟨(2:Int),v3,(0:Int),v18⟩:QH)
def jX (p:List<|List QH) (s4:Int×BA):LS (Int×BA) BA:=λs13=>gd (Q3<|0<=s4.1/\s4.1<(p.length:Int)) <|bif Q3 (s13.1<((J p s4.1).length:Int)) then Vm (bif Q3 ((0:Int)<s13.1) then gd (Q3<|s13.2.size+(⟨#[59]⟩:BA).size<=9223372036854775807) <|QZ (s13.2++(⟨#[59]⟩:BA)) else QZ s13.2) λs17=>gd (Q3<|0<=s13.1/\s13.1<((J p s4.1).length:Int)) <|Vm (jr<|J (J p s4.1) s13.1) λv21=>gd (Q3<|s17.size+v21.size<=9223372036854775807) <|gd (QF .i64<|s13.1+(1:Int)) <|QZ (.inl ((s13.1+(1:Int)),(s17++v21))) else QZ (.inr s13.2)
def kZ (p:List<|List QH):LS (Int×BA) BA:=λs4=>bif Q3 (s4.1<(p.length:Int)) then Vm (Vm (bif Q3 ((0:Int)<s4.1) then gd (Q3<|s4.2.size+(⟨#[124]⟩:BA).size<=9223372036854775807) <|QZ (s4.2++(⟨#[124]⟩:BA)) else QZ s4.2) λs8=>aB (jX p s4) ((0:Int),s8)) λs7=>gd (QF .i64<|s4.1+(1:Int)) <|QZ (.inl ((s4.1+(1:Int)),s7)) else QZ (.inr s4.2)
def kM (p:List<|List QH):Option BA:= Vm (aB (kZ p) ((0:Int),(⟨#[]⟩:BA))) λs1=>QZ s1
def gP (v1:(List BA)) (s6:(List<|List QH)×Int) (v14:(List BA)):LS ((List QH)×Int) (List QH):=λs19=>Vm (bif Q3 (s19.2<(v14.length:Int)) then QZ (Q3<|s19.2<=(7:Int)) else QZ QY) λs22=>Vm (bif s22 then QZ (!decide ((J v1 s6.2)=(⟨#[]⟩:BA))) else QZ QY) λs24=>bif s24 then gd (Q3<|0<=s19.2/\s19.2<(v14.length:Int)) <|Vm (nO<|J v14 s19.2) λv28=>gd (bq (s19.1.length+1) 32) <|gd (QF .i64<|s19.2+(1:Int)) <|QZ (.inl ((s19.1++[v28]),(s19.2+(1:Int)))) else QZ (.inr s19.1)
def iB (v1:(List BA)):LS ((List<|List QH)×Int) (List<|List QH):=λs6=>Vm (bif Q3 (s6.2<(v1.length:Int)) then QZ (Q3<|s6.2<=(3:Int)) else QZ QY) λs9=>bif s9 then Vm (gd (Q3<|0<=s6.2/\s6.2<(v1.length:Int)) <|Vm (dh (J v1 s6.2) (59:Int)) λv14=>Vm (aB (gP v1 s6 v14) (([]:List QH),(0:Int))) λs15=>gd (bq (s6.1.length+1) 24) <|QZ<|s6.1++[s15]) λs12=>gd (QF .i64<|s6.2+(1:Int)) <|QZ (.inl (s12,(s6.2+(1:Int)))) else QZ (.inr s6.1)
def dD (text:BA):Option ((List<|List QH)×Bool):= Vm (dh text (124:Int)) λv1=>Vm (aB (iB v1) (([]:List<|List QH),(0:Int))) λs2=>Vm (aV s2) λv36=>Vm (bif !v36 then QZ QX else Vm (kM s2) λv39=>QZ<|!decide (v39=text)) λs37=>bif s37 then QZ (([]:List<|List QH),QY) else QZ (s2,QX)
def fu (r_:ae):Option (ae×QH):= Vm (au (⟨r_.b,r_.p⟩:ae) (2:Int)) λv1=>Vm (au (⟨v1.1.b,v1.1.p⟩:ae) (7:Int)) λv2=>bif (v2.2==(0:Int)) then QZ ((⟨v2.1.b,v2.1.p⟩:ae),(⟨(4:Int),(0:Int),(0:Int),(0:Int)⟩:QH)) else bif (v2.2==(1:Int)) then Vm (au (⟨v2.1.b,v2.1.p⟩:ae) (2:Int)) λv5=>QZ ((⟨v5.1.b,v5.1.p⟩:ae),(⟨(3:Int),v1.2,v5.2,(0:Int)⟩:QH)) else bif (v2.2==(2:Int)) then Vm (au (⟨v2.1.b,v2.1.p⟩:ae) (2:Int)) λv7=>Vm (au (⟨v7.1.b,v7.1.p⟩:ae) (3:Int)) λv8=>gd (QF .i64<|(1:Int)+v8.2) <|QZ ((⟨v8.1.b,v8.1.p⟩:ae),(⟨(5:Int),v1.2,v7.2,((1:Int)+v8.2)⟩:QH)) else Vm (bif (v2.2==(3:Int)) then QZ (v2.2==(3:Int)) else QZ (v2.2==(4:Int))) λs10=>bif s10 then Vm (au (⟨v2.1.b,v2.1.p⟩:ae) (3:Int)) λv13=>gd (QF .i64<|(1:Int)+v13.2) <|QZ ((⟨v13.1.b,v13.1.p⟩:ae),(⟨(2:Int),v1.2,(0:Int),((1:Int)+v13.2)⟩:QH)) else Vm (au (⟨v2.1.b,v2.1.p⟩:ae) (2:Int)) λv15=>QZ ((⟨v15.1.b,v15.1.p⟩:ae),(⟨(1:Int),v1.2,v15.2,(0:Int)⟩:QH))
def m5:LS ((LI)×Int×(List QH)×Int) ((LI)×Int×(List QH)):=λs24=>bif Q3 ((0:Int)<s24.2.2.2) then Vm (fu (⟨s24.1,s24.2.1⟩:ae)) λv28=>gd (bq (s24.2.2.1.length+1) 32) <|gd (QF .i64<|s24.2.2.2-(1:Int)) <|QZ (.inl (v28.1.b,v28.1.p,(s24.2.2.1++[v28.2]),(s24.2.2.2-(1:Int)))) else QZ (.inr (s24.1,s24.2.1,s24.2.2.1))
def m6:LS ((LI)×Int×(List<|List QH)×Int) ((LI)×Int×(List<|List QH)):=λs14=>bif Q3 ((0:Int)<s14.2.2.2) then Vm (Vm (Vm (aI (⟨s14.1,s14.2.1⟩:ae) ([(2:Int),(1:Int),(3:Int),(2:Int),(0:Int)]:LI)) λv20=>aB m5 (v20.1.b,v20.1.p,([]:List QH),v20.2)) λs19=>gd (bq (s14.2.2.1.length+1) 24) <|QZ (s19.1,s19.2.1,(s14.2.2.1++[s19.2.2]))) λs18=>gd (QF .i64<|s14.2.2.2-(1:Int)) <|QZ (.inl (s18.1,s18.2.1,s18.2.2,(s14.2.2.2-(1:Int)))) else QZ (.inr (s14.1,s14.2.1,s14.2.2.1))
def pR (r_:ae):Option (ae×(List<|List QH)):= Vm (nN) λv1=>sumK (Vm (au (⟨r_.b,r_.p⟩:ae) (3:Int)) λv3=>bif Q3 ((0:Int)<v3.2) then Vm (au (⟨v3.1.b,v3.1.p⟩:ae) (v1.length:Int)) λv5=>gd (Q3<|0<=v5.2/\v5.2<(v1.length:Int)) <|Vm (dD<|J v1 v5.2) λv7=>bif v7.2 then QZ (.inr ((⟨v5.1.b,v5.1.p⟩:ae),v7.1)) else QZ (.inl (v5.1.b,v5.1.p)) else QZ (.inl (v3.1.b,v3.1.p))) λs2=>Vm (Vm (aI (⟨s2.1,s2.2⟩:ae) ([(2:Int),(3:Int),(1:Int)]:LI)) λv10=>aB m6 (v10.1.b,v10.1.p,([]:List<|List QH),v10.2)) λs9=>Vm (aV s9.2.2) λv36=>bif v36 then QZ ((⟨s9.1,s9.2.1⟩:ae),s9.2.2) else Vm (fu (⟨s9.1,s9.2.1⟩:ae)) λv38=>QZ ((⟨v38.1.b,v38.1.p⟩:ae),([([v38.2]:List QH)]:List<|List QH))
def eO (n:Int):Option BA:=bif Q3 (0<=n/\n<=9) then QZ (strOfNums ([((48:Int)+n)]:LI)++(⟨#[]⟩:BA)) else Q0
theorem strOfNums_size (l:LI):(strOfNums l).size=l.length:=by
 simp [strOfNums,ByteArray.size]
theorem oq (n:Int):Le (eO n) (eH n):=by
 intro v h;unfold eO at h
 by_cases hn:0<=n/\n<=9
 ·rw [decide_eq_true hn] at h;obtain rfl:=osl h;refine vp 1 λk hk=>?_
  match k,hk with
  | k+1,_=>
   show lV (iU k) n=_;refine QM.eq ?_;unfold lV;refine .bifD (λh=>by omega) λ_ => .bifD (λh=>by omega) λ_=>?_;refine QM.bind (P:=(· = ((⟨#[]⟩:BA),n))) ?_ λs hs=>?_
   ·refine QM.loop (λs=>s=((⟨#[]⟩:BA),n)) (λ_=>0) rfl λs hs=>?_;subst hs;unfold sW;exact .bifD (λh=>by simp only [] at h;omega) λ_ => .pure rfl
   subst hs;refine .gdI (by simp only [];omega) (.gdY (by simp only [];omega)<|.gdD ?_<|.pure rfl);rw [strOfNums_size];exact nlb rfl
 rw [decide_eq_false hn] at h
 cases h
def gb (from_:Int) (n:Int):Option BA:=
 gd (QF .u8 n) <|
 gd (QF .u8<|from_+n) <|
 QZ (strOfNums ([(from_+n)]:LI))
theorem rG (from_:Int) (n:Int):Le (gb from_ n) (dC from_ n):=by
 unfold gb dC
 solve_by_elim (maxDepth:=9999) only [*,Le.gd,Le.bif,Le.bind,Le.sumK,Le.loop,Le.nilK,Le.ifc,Le.refl]
def l5 (x:QH):Option BA:=
 Vm (gb (120:Int) x.Loc) λv1=>
 Vm (gb (97:Int) x.Reg) λv2=>
 bif (x.Op==(1:Int)) then
  gd (Q3<|v2.size+(⟨#[61]⟩:BA).size<=9223372036854775807) <|
  gd (Q3<|(v2++(⟨#[61]⟩:BA)).size+v1.size<=9223372036854775807) <|
  QZ ((v2++(⟨#[61]⟩:BA))++v1)
 else
  bif (x.Op==(2:Int)) then
   gd (Q3<|v1.size+(⟨#[61]⟩:BA).size<=9223372036854775807) <|
   Vm (eO x.Val) λv8=>
   gd (Q3<|(v1++(⟨#[61]⟩:BA)).size+v8.size<=9223372036854775807) <|
   QZ ((v1++(⟨#[61]⟩:BA))++v8)
  else
   bif (x.Op==(3:Int)) then
    gd (Q3<|v1.size+(⟨#[61]⟩:BA).size<=9223372036854775807) <|
    gd (Q3<|(v1++(⟨#[61]⟩:BA)).size+v2.size<=9223372036854775807) <|
    QZ ((v1++(⟨#[61]⟩:BA))++v2)
   else
    bif (x.Op==(5:Int)) then
     gd (Q3<|v2.size+(⟨#[61]⟩:BA).size<=9223372036854775807) <|
     gd (Q3<|(v2++(⟨#[61]⟩:BA)).size+v1.size<=9223372036854775807) <|
     gd (Q3<|((v2++(⟨#[61]⟩:BA))++v1).size+(⟨#[58]⟩:BA).size<=9223372036854775807) <|
     Vm (eO x.Val) λv17=>
     gd (Q3<|(((v2++(⟨#[61]⟩:BA))++v1)++(⟨#[58]⟩:BA)).size+v17.size<=9223372036854775807) <|
     QZ ((((v2++(⟨#[61]⟩:BA))++v1)++(⟨#[58]⟩:BA))++v17)
    else
     QZ (⟨#[102,101,110,99,101]⟩:BA)
theorem uG (x:QH):Le (l5 x) (jr x):=by
 unfold l5 jr
 solve_by_elim (maxDepth:=9999) only [*,rG,oq,Le.gd,Le.bif,Le.bind,Le.sumK,Le.loop,Le.nilK,Le.ifc,Le.refl]
def Nj (s d:BA):Bool:=
 decide (d.size+(⟨#[58]⟩:BA).size<=9223372036854775807)&&(Q3 ((d++(⟨#[58]⟩:BA)).size+s.size<=9223372036854775807)&&Q3 (((d++(⟨#[58]⟩:BA))++s).size<=200))
def Qf (x:QH) (t:Nat):Bool:=match ib x with
 | none=>QY
 | some s=>match l5 x with
  | none=>QY
  | some s'=>match cE (t:Int) with
   | none=>QY
   | some d=>match eO (t:Int) with
    | none=>QY
    | some d'=>Q3 (s=s')&&(Q3 (d=d')&&Nj s d)
theorem Nk:((Vo 5).all λa=>(Vo 3).all λb=>(Vo 3).all λc=>(Vo 4).all λd=>(Vo 3).all λt => !dZ ⟨(a:Int)+1,b,c,d⟩||Qf ⟨(a:Int)+1,b,c,d⟩ t)=QX:=by decide +kernel
theorem J7 {x:QH} (h:dZ (iQ x)=QX):∃ a b c d:Nat,a<5/\b<3/\c<3/\d<4/\x=⟨(a:Int)+1,b,c,d⟩:=by
 obtain ⟨o,l,r,v⟩:=x;have hb:(1<=o/\o<=5)/\(0<=l/\l<=2)/\(0<=r/\r<=2)/\0<=v/\v<=3:=by
  unfold dZ iQ at h;simp only [QK] at h
  split at h
  ·simp only [bae,dte,beq_iff_eq] at h;omega
  split at h
  ·simp only [bae,dte,beq_iff_eq] at h;omega
  split at h
  ·simp only [bae,dte,beq_iff_eq] at h;omega
  split at h
  ·simp only [bae,dte] at h;omega
  cases h
 refine ⟨(o-1).toNat,l.toNat,r.toNat,v.toNat,by omega,by omega,by omega,by omega,?_⟩
 grind
theorem PI {x:QH} (h:dZ (iQ x)=QX) {t:Nat} (ht:t<3):∃ d s,cE (t:Int)=QZ d/\eH (t:Int)=QZ d/\ib x=QZ s/\jr x=QZ s/\Nj s d=QX:=by
 obtain ⟨a,b,c,e,h1,h2,h3,h4,rfl⟩:=J7 h;have hall:=Nk;simp only [Vn,Vp] at hall;have hc:=hall a h1 b h2 c h3 e h4 t ht;rw [show dZ ⟨(a:Int)+1,b,c,e⟩=QX from h] at hc;simp only [Bool.not_true,Bool.false_or] at hc;unfold Qf at hc
 cases e1:ib ⟨(a:Int)+1,b,c,e⟩ with
 | none=>simp_all
 | some s=>
  cases e2:l5 ⟨(a:Int)+1,b,c,e⟩ with
  | none=>simp_all
  | some s'=>
   cases e4:cE (t:Int) with
   | none=>simp_all
   | some d=>
    cases e5:eO (t:Int) with
    | none=>simp_all
    | some d'=>
     rw [e1,e2,e4,e5] at hc;simp only [bae,dte] at hc;obtain ⟨rfl,rfl,h6⟩:=hc;exact ⟨d,s,rfl,oq _ _ e5,rfl,uG _ _ e2,h6⟩
def J8 (l:Nat):Bool:=match gb 120 (l:Int) with
 | none=>QY
 | some v=>Q3 ((⟨#[102,105,114,115,116,32]⟩:BA).size+v.size<=200)&&Q3 (v=(⟨#[120,121,122]⟩:BA).extract l (l+1))
theorem J9:((Vo 3).all J8)=QX:=by decide +kernel
theorem PK {l:Nat} (h:l<3):∃ v,dC 120 (l:Int)=QZ v/\(⟨#[102,105,114,115,116,32]⟩:BA).size+v.size<=200/\v=(⟨#[120,121,122]⟩:BA).extract l (l+1):=by
 have hall:=Vn.1 J9 l<|Vp.2 h;unfold J8 at hall
 cases e1:gb 120 (l:Int) with
 | none=>simp_all
 | some v=>
  rw [e1] at hall;simp only [bae,dte] at hall;exact ⟨v,rG _ _ _ e1,hall⟩
section
variable {p:List (List QH)} {x:XS} {F:LI}
theorem Lj (hv:bf (QP p)=QX) {i:Nat} (hi:i<(evs p).length):∃ s,dP p (ev p (i:Int))=QZ s/\fT p (ev p (i:Int))=QZ s/\s.size<=200:=by
 have hp:=PV.of hv;have hloc:=tj hp (n:=(i:Int)) (by omega) (by omega)
 by_cases h0:(ev p (i:Int)).Thread<0
 ·obtain ⟨v,e1,e2,e3⟩:=PK (l:=(ev p (i:Int)).Loc.toNat) (by omega);have hll:(((ev p (i:Int)).Loc.toNat:Nat):Int)=(ev p (i:Int)).Loc:=by omega
  rw [hll] at e1;have e5:((ev p (i:Int)).Loc+1).toNat=(ev p (i:Int)).Loc.toNat+1:=by omega
  refine ⟨(⟨#[102,105,114,115,116,32]⟩:BA)++v,?_,?_,by simp_all⟩
  ·refine QM.eq ?_;unfold dP J;refine .bifD (λ_=>?_) λhn=>absurd h0 hn;rw [e5,<- e3];exact .gdI (by omega)<|.gdD ⟨by omega,by omega,by show (ev p (i:Int)).Loc+1<=3;omega⟩<|.gdD (by omega)<|.pure rfl
  refine QM.eq ?_;unfold fT J;refine .bifD (λ_=>?_) λhn=>absurd h0 hn;exact (QM.of (P:=(· = v)) e1 rfl).bind λu hu=>by subst hu;exact .gdD (by omega)<|.pure rfl
 obtain ⟨t,k,hI,e,ht,hk⟩:=Aa hp (n:=(i:Int)) (by omega) (by omega) h0;have ht3:t<3:=by have := hI.t;have := hp.vs.1;omega
 have hx:dZ (iQ<|(p.getD t QW).getD k QW)=QX:=(Vs.of hv).2 t k hI.t hI.k;obtain ⟨d,b,a1,a2,a3,a4,a6⟩:=PI hx ht3;have hIt:=hI.t;have hIk:=hI.k;simp only [Nj,bae,dte] at a6;obtain ⟨c1,c2,c3⟩:=a6;have f1:(ev p (i:Int)).Thread.toNat=t:=by omega
 have f2:(ev p (i:Int)).Index.toNat=k:=by omega
 refine ⟨(d++(⟨#[58]⟩:BA))++b,?_,?_,c3⟩
 ·refine QM.eq ?_;unfold dP J;refine .bifD (λhn=>absurd hn h0) λ_=>?_;rw [f1,f2,ht];refine (QM.of (P:=(· = d)) a1 rfl).bind λu hu=>?_;subst hu;refine .gdD c1 (.gdD ⟨by omega,by omega⟩ (.gdD ⟨by omega,by omega⟩ ((QM.of (P:=(· = b)) a3 rfl).bind λw hw=>?_)));subst hw;exact .gdD c2<|.pure rfl
 refine QM.eq ?_;unfold fT J;refine .bifD (λhn=>absurd hn h0) λ_=>?_;rw [f1,f2,ht];refine (QM.of (P:=(· = d)) a2 rfl).bind λu hu=>?_;subst hu;refine .gdD c1 (.gdD ⟨by omega,by omega⟩ (.gdD ⟨by omega,by omega⟩ ((QM.of (P:=(· = b)) a4 rfl).bind λw hw=>?_)));subst hw;exact .gdD c2<|.pure rfl
theorem DC (l:List BA) (s sep:BA):uR (l++[s]) sep=if l=[] then s else (uR l sep++sep)++s:=by
 cases l with
 | nil=>
  rw [if_pos rfl];unfold uR;rw [List.nil_append,VH,List.map_nil,Lib.join_one]
 | cons x r=>
  rw [if_neg (by simp)];unfold uR;simp only [List.cons_append,VH,List.map_append,List.map_nil,Lib.join_cons];have e:Lib.joinTail sep.data.toList (r.map (·.data.toList)++[s.data.toList])=(Lib.joinTail sep.data.toList (r.map (·.data.toList))++sep.data.toList)++s.data.toList:=by simp [Lib.joinTail]
  rw [e];apply ByteArray.ext
  simp_all
theorem DD (l:List BA) (sep:BA) (B:Nat) (h:∀ s∈l,s.size<=B):(uR l sep).size<=l.length*(B+sep.size):=by
 induction l using D6 with
 | h0=>exact VC _
 | hs l a ih=>
  have h1:=ih λs hs=>h s<|List.mem_append_left _ hs;have h2:=h a (by simp);rw [DC,lla,VR,Nat.add_mul]
  grind
def TxS (p:List<|List QH) (l:LI) (ts:List BA):Prop:=ts.length=l.length/\∀ j:Nat,j<l.length->dP p (ev p<|l.getD j QW)=QZ (ts.getD j QW)/\fT p (ev p<|l.getD j QW)=QZ (ts.getD j QW)/\(ts.getD j QW).size<=200
theorem Mc (hv:bf (QP p)=QX):∀ l:LI,(∀ j∈l,0<=j/\j<((evs p).length:Int))->∃ ts,TxS p l ts
 | [],_=>⟨[],rfl,λj hj=>absurd hj<|VA _⟩
 | i::l,h=>by
  obtain ⟨ts,h1,h2⟩:=Mc hv l λj hj=>h j<|VI _ hj;obtain ⟨i0,i1⟩:=h i List.mem_cons_self;obtain ⟨s,s1,s2,s3⟩:=Lj hv (i:=i.toNat) (by omega);rw [Vu i0] at s1 s2;refine ⟨s::ts,by rw [llc,llc,h1],λj hj=>?_⟩
  grind
theorem TxS.le {l:LI} {ts:List BA} (h:TxS p l ts):∀ s∈ts,s.size<=200:=λs hs=>by
 obtain ⟨j,hj,rfl⟩:=Vq hs;have := (h.2 j<|by rw [<- h.1];exact hj).2.2
 simp_all
theorem DF {α:Type} [Inhabited α] {l:List α} {n:Nat} (h:n<l.length):l.take (n+1)=l.take n++[l.getD n QW]:=by
 simp_all
theorem Nl {l:LI} {ts:List BA} (h:TxS p l ts) (hl:l.length<=1000) (hr:∀ j∈l,0<=j/\j<((evs p).length:Int)):QM (aB (lS p (evs p) l) (([]:List BA),(0:Int))) (· = ts):=by
 refine QM.loop (λz=>∃ n:Nat,n<=l.length/\z=(ts.take n,(n:Int))) (λz=>((l.length:Int)-z.2).toNat) ⟨0,by omega,rfl⟩ λz ⟨n,n1,n2⟩ => ?_;subst n2;unfold lS J;simp only [tnn];refine .bifD (λhk=>?_) λhk => .pure (by rw [VS (by rw [h.1];omega)]);have hn:n<l.length:=by omega
 obtain ⟨g1,_,_⟩:=h.2 n hn;obtain ⟨r0,r1⟩:=hr _<|vB hn;have e:(evs p).getD (l.getD n QW).toNat QW=ev p (l.getD n QW):=rfl;rw [e];refine .gdD ⟨by omega,hk⟩ (.gdD ⟨r0,r1⟩ ((QM.of (P:=(· = ts.getD n QW)) g1 rfl).bind λv hv => .gd (aU (by grind) rfl)<|.gdI (by omega)<|.pure ⟨⟨n+1,by omega,?_⟩,by omega⟩));rw [hv,DF (by rw [h.1];exact hn)]
 rfl
theorem Nn (hp:PV p) {l:LI} {ts:List BA} (h:TxS p l ts) (hl:l.length<=1000) (hr:∀ j∈l,0<=j/\j<((evs p).length:Int)):QM (lW p l) (· = uR ts ⟨#[44,32]⟩):=by
 unfold lW;refine (Cc hp.vs).bind λv1 h1=>?_;subst h1;refine QM.bind (P:=(· = uR ts ⟨#[44,32]⟩)) ?_ λv hv => .pure hv;refine QM.loop (λz=>∃ n:Nat,n<=l.length/\z=((n:Int),uR (ts.take n) ⟨#[44,32]⟩)) (λz=>((l.length:Int)-z.1).toNat) ⟨0,by omega,rfl⟩ λz ⟨n,n1,n2⟩ => ?_;subst n2;unfold rB J;simp only [tnn];refine .bifD (λhk=>?_) λhk => .pure (by rw [VS (by rw [h.1];omega)]);have hn:n<l.length:=by omega
 obtain ⟨_,g2,g3⟩:=h.2 n hn;obtain ⟨r0,r1⟩:=hr _<|vB hn;have e:(evs p).getD (l.getD n QW).toNat QW=ev p (l.getD n QW):=rfl;have hsz:=DD (ts.take n) ⟨#[44,32]⟩ 200 λs hs=>h.le s<|VJ hs;have hlt:(ts.take n).length<=1000:=by rw [VK];omega
 have h2:(⟨#[44,32]⟩:BA).size=2:=rfl;have hsz2:(uR (ts.take n) ⟨#[44,32]⟩).size<=1000*202:=VM hsz (by grind);rw [e];refine QM.bind (P:=(· = if n=0 then (⟨#[]⟩:BA) else uR (ts.take n) ⟨#[44,32]⟩++⟨#[44,32]⟩)) (.bifD (λh0 => .gdD (by omega)<|.pure<|by grind) λh0 => .pure<|by rw [if_pos (by omega),show n=0 by omega];rfl) λw hw=>?_;have hws:w.size<=300000:=by
  rw [hw]
  split
  ·decide
  grind
 refine .gdD ⟨by omega,hk⟩ (.gdD ⟨r0,r1⟩ ((QM.of (P:=(· = ts.getD n QW)) g2 rfl).bind λv hv=>?_));subst hv;refine .gdD (by omega)<|.gdI (by omega)<|.pure ⟨⟨n+1,by omega,?_⟩,by omega⟩;rw [DF (by rw [h.1];exact hn),DC,hw];refine Prod.ext rfl ?_;simp only []
 by_cases h0:n=0
 ·subst h0;rw [if_pos rfl,if_pos (show List.take 0 ts=[] from rfl)];apply ByteArray.ext
  simp_all
 rw [if_neg h0,if_neg];intro e;have := congrArg List.length e;rw [VK,VD,h.1] at this;omega
theorem Np:((Vo 10).all λn=>match cE (n:Int) with
  | none=>QY
  | some d=>match eO (n:Int) with
   | none=>QY
   | some d'=>Q3 (d=d')&&Q3 (d.size<=100))=QX:=by decide +kernel
theorem dig {n:Nat} (h:n<10):∃ d,cE (n:Int)=QZ d/\eH (n:Int)=QZ d/\d.size<=100:=by
 have := Vn.1 Np n<|Vp.2 h
 cases e4:cE (n:Int) with
 | none=>simp_all
 | some d=>
  cases e5:eO (n:Int) with
  | none=>simp_all
  | some d'=>
   rw [e4,e5] at this;simp only [bae,dte] at this;obtain ⟨rfl,h2⟩:=this;exact ⟨d,rfl,oq _ _ e5,h2⟩
theorem Fg (hv:bf (QP p)=QX) (C:Cand p x F) {m:List ah} (hm:vaM m=QX):∃ s,bC p ⟨x.1,x.2⟩ m=QZ s/\fq p ⟨x.1,x.2⟩ m=QZ s/\s.size<=300000:=by
 have hp:=PV.of hv;have hN:(evs p).length<=16:=VM (LW hv) (by omega);obtain ⟨V,W,b,k1,k2,_⟩:=Dw hp C;obtain ⟨m1,m2⟩:=Mb hm;have bi:=OH hN (λnm hn=>OD hp C hn) m1 (by omega);have bs:=PE hN (λnm hn=>OP hp C hn) m1 (by omega);obtain ⟨⟨k,R⟩,i1,i2,i3⟩:=bi;obtain ⟨k',s1,s2⟩:=bs;obtain rfl:k'=k:=s2.uniq i2;clear s2;simp only at i2 i3;have h5:(⟨#[114,117,108,101,32]⟩:BA).size=5:=rfl;have h2:(⟨#[58,32]⟩:BA).size=2:=rfl
 cases b with
 | false=>
  refine ⟨⟨#[118,97,108,117,101,115]⟩,QM.eq ?_,QM.eq ?_,by decide⟩
  ·unfold bC J;exact (QM.of (P:=(· = (V,QY))) k1 rfl).bind λv hv=>by subst hv;exact .bif (λ_ => .pure rfl) λh=>by cases h
  unfold fq J;exact (QM.of (P:=(· = (W,QY))) k2 rfl).bind λv hv=>by subst hv;exact .bif (λ_ => .pure rfl) λh=>by cases h
 | true=>
  by_cases hk:k'<0
  ·refine ⟨⟨#[97,108,108,111,119,101,100]⟩,QM.eq ?_,QM.eq ?_,by decide⟩
   ·unfold bC J;exact (QM.of (P:=(· = (V,QX))) k1 rfl).bind λv hv=>by subst hv;exact .bif (λh=>by cases h) λ_=>(QM.of (P:=(· = (k',R))) i1 rfl).bind λw hw=>by subst hw;exact .bifD (λ_ => .pure rfl) λh=>absurd hk h
   unfold fq J;exact (QM.of (P:=(· = (W,QX))) k2 rfl).bind λv hv=>by subst hv;exact .bif (λh=>by cases h) λ_=>(QM.of (P:=(· = k')) s1 rfl).bind λw hw=>by subst hw;exact .bifD (λ_ => .pure rfl) λh=>absurd hk h
  rcases i2 with ⟨e,_⟩ | ⟨i,rfl,hi,_,_⟩
  ·omega
  have i3:=i3 (by omega);rw [tnn] at i3;obtain ⟨d,d1,d2,d3⟩:=dig (n:=i) (by omega);have hd5:((⟨#[114,117,108,101,32]⟩:BA)++d).size<=105:=by rw [VU];omega
  by_cases hkd:(m.getD i QW).Kind=1
  ·-- a cycle
   have hcy:=Gf (N:=(evs p).length) (f:=z8 (nmR p x) (evs p).length (m.getD i QW).Expr.inn) (evs p).length<|Nat.le_refl _;have fi:=OI hN (f:=z8 (nmR p x) (evs p).length (m.getD i QW).Expr.inn);have fs:=OJ hN (f:=z8 (nmR p x) (evs p).length (m.getD i QW).Expr.inn);have ev:=LY hN (λnm hn=>OP hp C hn)<|m1 _<|getD_in hi;rw [<- i3] at fi fs ev;generalize Ff (evs p).length (z8 (nmR p x) (evs p).length (m.getD i QW).Expr.inn) (evs p).length=l at hcy fi fs;have hr:∀ j∈l,0<=j/\j<((evs p).length:Int):=by
    rcases hcy with e | e
    ·simp_all
    exact e.2.2
   have hl:l.length<=17:=by
    rcases hcy with e | e
    ·simp_all
    have := e.2.1;omega
   obtain ⟨ts,ht⟩:=Mc hv l hr;have hsz:=DD ts ⟨#[44,32]⟩ 200 ht.le;have hc2:(⟨#[44,32]⟩:BA).size=2:=rfl;have hsz2:(uR ts ⟨#[44,32]⟩).size<=17*202:=VM hsz (by rw [hc2,ht.1];omega);have hd7:(((⟨#[114,117,108,101,32]⟩:BA)++d)++(⟨#[58,32]⟩:BA)).size<=107:=by rw [VU];omega
   refine ⟨(((⟨#[114,117,108,101,32]⟩:BA)++d)++(⟨#[58,32]⟩:BA))++uR ts ⟨#[44,32]⟩,QM.eq ?_,QM.eq ?_,by grind⟩
   ·unfold bC J;refine (QM.of (P:=(· = (V,QX))) k1 rfl).bind λv hv=>?_;subst hv;refine .bif (λh=>by cases h) λ_=>(QM.of (P:=(· = ((i:Int),R))) i1 rfl).bind λw hw=>?_;subst hw;refine .bifD (λh=>absurd h hk) λ_=>(QM.of (P:=(· = d)) d1 rfl).bind λu hu=>?_;subst hu;refine .gdD (by omega)<|.gdD ⟨by omega,by omega⟩ ?_;simp only [tnn];refine .bif (λh=>absurd hkd<|by simp_all) λ_=>(D5 hp.vs).bind λv9 h9=>?_;subst h9;refine QM.bind (P:=(· = ts)) (fi.bind λv11 h11=>by subst h11;exact Nl ht (by omega) hr) λs10 h10=>?_;subst h10;refine .gdD (by omega) (QM.bind (P:=(· = uR s10 ⟨#[44,32]⟩)) (.gdD ⟨by rw [ht.1];omega,by omega⟩<|.pure rfl) λv32 h32=>?_);subst h32;exact .gdD (by omega)<|.pure rfl
   unfold fq J;refine (QM.of (P:=(· = (W,QX))) k2 rfl).bind λv hv=>?_;subst hv;refine .bif (λh=>by cases h) λ_=>(QM.of (P:=(· = (i:Int))) s1 rfl).bind λw hw=>?_;subst hw;refine .bifD (λh=>absurd h hk) λ_=>(QM.of (P:=(· = d)) d2 rfl).bind λu hu=>?_;subst hu;refine .gdD (by omega) (QM.bind (P:=(· = (((⟨#[114,117,108,101,32]⟩:BA)++u)++(⟨#[58,32]⟩:BA))++uR ts ⟨#[44,32]⟩)) (.gdD ⟨by omega,by omega⟩ ?_) λv hv => .pure hv);simp only [tnn];refine .bif (λ_ => .gdD (by omega)<|ev.bind λv11 h11=>?_) λh=>absurd hkd (by simp_all);subst h11;refine fs.bind λv12 h12=>?_;subst h12;refine (Nn hp ht (by omega) hr).bind λv13 h13=>?_;subst h13;exact .gdD (by omega)<|.pure rfl
  refine ⟨(⟨#[114,117,108,101,32]⟩:BA)++d,QM.eq ?_,QM.eq ?_,by omega⟩
  ·unfold bC J;refine (QM.of (P:=(· = (V,QX))) k1 rfl).bind λv hv=>?_;subst hv;refine .bif (λh=>by cases h) λ_=>(QM.of (P:=(· = ((i:Int),R))) i1 rfl).bind λw hw=>?_;subst hw;refine .bifD (λh=>absurd h hk) λ_=>(QM.of (P:=(· = d)) d1 rfl).bind λu hu=>?_;subst hu;refine .gdD (by omega)<|.gdD ⟨by omega,by omega⟩ ?_;simp only [tnn];exact .bif (λ_ => .pure rfl) λh=>absurd (show (m.getD i QW).Kind=1 by simp_all) hkd
  unfold fq J;refine (QM.of (P:=(· = (W,QX))) k2 rfl).bind λv hv=>?_;subst hv;refine .bif (λh=>by cases h) λ_=>(QM.of (P:=(· = (i:Int))) s1 rfl).bind λw hw=>?_;subst hw;refine .bifD (λh=>absurd h hk) λ_=>(QM.of (P:=(· = d)) d2 rfl).bind λu hu=>?_;subst hu;refine .gdD (by omega) (QM.bind (P:=(· = (⟨#[114,117,108,101,32]⟩:BA)++u)) (.gdD ⟨by omega,by omega⟩ ?_) λv hv => .pure hv);simp only [tnn];exact .bif (λh=>absurd (eq_of_beq h) hkd) λ_ => .pure rfl
end
def Ka (x:QI):Bool:=Q3 (x.From.length<=1048576)&&Q3 (x.Order.length<=1048576)&&x.Order.all λr=>Q3<|r.length<=1048576
def iW (r_:ae) (x:QI):Option (ae×QI):= gd (Ka x) <|Vm (au r_ (24:Int)) λv=>bif v.2==(0:Int) then Vm (au v.1 (x.From.length:Int)) λa=>Vm (aI a.1 ([(0:Int),(-1:Int),(1:Int),(99:Int),(3:Int)]:LI)) λb=>gd (Q3<|0<=a.2/\a.2<(x.From.length:Int)) <|QZ (b.1,⟨x.From.set a.2.toNat b.2,x.Order⟩) else bif v.2==(1:Int) then QZ (v.1,⟨x.From++[(-1:Int)],x.Order⟩) else bif v.2==(2:Int) then gd (Q3<|1<=x.Order.length)<|QZ (v.1,⟨x.From,(x.Order.drop 1).take<|x.Order.length-1⟩) else bif v.2==(3:Int) then gd (Q3<|1<=x.Order.length) <|Vm (aI v.1 ([(0:Int),(99:Int),(-1:Int)]:LI)) λb=>QZ (b.1,⟨x.From,(x.Order.getD 0 []++[b.2])::x.Order.drop 1⟩) else bif v.2==(4:Int) then gd (Q3<|1<=x.Order.length)<|QZ (v.1,⟨x.From,[]::x.Order.drop 1⟩) else QZ (v.1,x)



section
variable {α:Type} {r:Option α}
theorem l6 {n:Int} {x:Option α} (h : -9223372036854775808<=n/\n<=9223372036854775807) (hx:x=r):gd (QF .i64 n) x=r:=by rw [tV (LJ h)];exact hx
theorem yp {A:Prop} [Decidable A] {x:Option α} (h:A) (hx:x=r):gd (decide A) x=r:=by rw [tV (decide_eq_true h)];exact hx
theorem Kb {b:Bool} {x y:Option α} (h:b=QX) (hx:x=r):(bif b then x else y)=r:=by rw [h];exact hx
theorem Gh {b:Bool} {x y:Option α} (h:b=QY) (hx:y=r):(bif b then x else y)=r:=by rw [h];exact hx
theorem zo {β:Type} {o:Option β} {k:β->Option α} {v:β} (h:o=QZ v) (hx:k v=r):o.bind k=r:=by rw [h];exact hx
end
def Bts (b:LI):Prop:=b.length<=1048576/\∀ y∈b,0<=y/\y<=255
theorem Bts.get {b:LI} (h:Bts b) (k:Nat):0<=b.getD k QW/\b.getD k QW<=255:=by
 rw [gdq]
 by_cases hk:k<b.length
 ·rw [geq hk];exact h.2 _<|Vv _
 rw [gen (by omega)];exact ⟨by decide,by decide⟩
theorem Ll {m n:Int} (hm:0<=m/\m<=1000000000000) (hn:0<=n/\n<=1000000000000):0<=N8 .i64 m n:=by
 have e1:∀ x:Int,0<=x->x<=1000000000000->(Vx 64 x).toNat<2 ^ 62:=by
  intro x h1 h2;rw [BitVec.toNat_ofInt];have : x % ((2:Nat) ^ 64:Nat)=x:=by
   rw [Int.emod_eq_of_lt h1];omega
  omega
 have h3:(Vx 64 m ^^^ Vx 64 n).toNat<2 ^ 62:=by
  rw [BitVec.toNat_xor];exact Nat.xor_lt_two_pow (e1 m hm.1 hm.2)<|e1 n hn.1 hn.2
 have h4:=IntWalk.i64_in (((Vx 64 m ^^^ Vx 64 n).toNat:Nat):Int) ⟨by omega,by omega⟩;unfold N8;rw [show IntKind.i64.bits=64 from rfl,h4];omega
theorem Lm {a n:Int} (ha:0<=a) (hn:0<n):0<=a.tmod n/\a.tmod n<n:=by
 rw [Int.tmod_eq_emod_of_nonneg ha];exact ⟨Int.emod_nonneg _ (by omega),Int.emod_lt_of_pos _ hn⟩
theorem O1 {a n:Int} (ha:0<=a) (hn:0<=n):0<=a.tdiv n/\a.tdiv n<=a:=by
 rw [Int.tdiv_eq_ediv_of_nonneg ha];exact ⟨Int.ediv_nonneg ha hn,Int.ediv_le_self _ ha⟩
theorem Kc {b:LI} {p:Int} (hb:Bts b) (hp:0<=p/\p<=100000000) (n:Int):∃ v,au ⟨b,p⟩ n=QZ (⟨b,p+1⟩,v)/\0<=v/\(v<n\/v=0):=by
 have hl:=hb.1;have e1:p+1-1=p:=by omega
 unfold au J;simp only [e1]
 by_cases h0:n<1\/b.length=0
 ·refine ⟨0,?_,Vr _,.inr rfl⟩;refine l6 (by omega) ?_;refine zo (v:=true) ?_<|Kb rfl rfl
  by_cases hn:n<1
  ·exact Kb (by simp [hn]) rfl
  refine Gh (by simp [hn]) ?_;have : b.length=0:=by omega
  simp [this]
 have hn:1<=n:=by omega
 have hl0:0<(b.length:Int):=by omega
 by_cases hlt:p<(b.length:Int)
 ·have hg:=hb.get p.toNat;have hv:=Lm hg.1 (show (0:Int)<n by omega);refine ⟨(b.getD p.toNat QW).tmod n,?_,hv.1,.inl hv.2⟩;refine l6 (by omega) ?_;refine zo (v:=false) (Gh (by simp;omega)<|congrArg QZ<|beq_eq_false_iff_ne.2<|by omega) (Gh rfl ?_);refine l6 (by omega)<|Kb (by simpa using hlt) ?_;exact yp (by omega)<|l6 (by omega)<|yp (by omega) rfl
 have h1:=Lm hp.1 hl0;have h2:=O1 hp.1 (show 0<=(b.length:Int) by omega);have h3:=Lm (a:=p*7+3) (by omega) hl0;have h4:=hb.get (p.tmod (b.length:Int)).toNat;have h5:=hb.get ((p*7+3).tmod (b.length:Int)).toNat;have hx:0<=(b.getD (p.tmod (b.length:Int)).toNat QW)*131+(b.getD ((p*7+3).tmod (b.length:Int)).toNat QW)*1117+p*29+p.tdiv (b.length:Int)*53 /\
  (b.getD (p.tmod (b.length:Int)).toNat QW)*131+(b.getD ((p*7+3).tmod (b.length:Int)).toNat QW)*1117+p*29+p.tdiv (b.length:Int)*53<=1000000000000:=by omega
 have h6:=O1 hx.1 (show (0:Int)<=64 by omega);have h7:=Ll hx ⟨h6.1,Int.le_trans h6.2 hx.2⟩;have hv:=Lm h7 (show (0:Int)<n by omega);refine ⟨_,?_,hv.1,.inl hv.2⟩;refine l6 (by omega) ?_;refine zo (v:=false) (Gh (by simp;omega)<|congrArg QZ<|beq_eq_false_iff_ne.2<|by omega) (Gh rfl ?_);refine l6 (by omega)<|Gh (by simpa using hlt) ?_;refine yp (by omega)<|yp h1<|l6 (by omega)<|l6 (by omega)<|l6 (by omega)<|l6 (by omega)<|yp h3<|l6 (by omega) ?_;refine l6 (by omega)<|l6 (by omega)<|l6 (by omega)<|l6 (by omega)<|l6 (by omega)<|l6 (by omega)<|l6 (by omega) ?_;refine yp (by omega)<|l6 (by omega)<|yp (by omega) rfl
theorem O2 {b:LI} {p:Int} (hb:Bts b) (hp:0<=p/\p<=100000000) (l:LI) (hl:l≠[]):∃ v,aI ⟨b,p⟩ l=QZ (⟨b,p+1⟩,v)/\v∈l:=by
 obtain ⟨v,h1,h2,h3⟩:=Kc hb hp (l.length:Int);have hpos:0<l.length:=VV.2 hl;have h4:v<(l.length:Int):=by omega
 refine ⟨l.getD v.toNat QW,?_,?_⟩
 ·unfold aI J;exact zo h1<|yp ⟨h2,h4⟩ rfl
 rw [gdq,geq (by omega)];exact Vv _
theorem Nq {b:LI} (hb:Bts b):∃ b',kx b=QZ ⟨b',0⟩/\Bts b':=by
 unfold kx
 by_cases h:(2000:Int)<(b.length:Int)
 ·refine ⟨_,zo (Kb (by simpa using h)<|yp (by omega) rfl) rfl,?_,λy hy=>?_⟩
  ·rw [VK];omega
  exact hb.2 y<|VW<|VJ hy
 exact ⟨b,zo (Gh (by simpa using h) rfl) rfl,hb⟩
def Rd (k:Int) (r:ae):Prop:=Bts r.b/\0<=r.p/\r.p<=k
theorem Rd.mono {k k':Int} {r:ae} (h:Rd k r) (hk:k<=k'):Rd k' r:=⟨h.1,h.2.1,by have := h.2.2;omega⟩
theorem Rd.mk' {k:Int} {r:ae} (h:Rd k r):Rd k ⟨r.b,r.p⟩:=h
theorem aY {k:Int} {r:ae} (h:Rd k r) (hk:k<=100000000) (n:Int):QM (au r n) λv=>Rd (k+1) v.1/\0<=v.2/\(v.2<n\/v.2=0):=by
 obtain ⟨b,p⟩:=r;obtain ⟨h1,h2,h3⟩:=h;obtain ⟨v,e,h4,h5⟩:=Kc h1 (p:=p) ⟨h2,by simp only at h3;omega⟩ n;exact ⟨_,e,⟨h1,by simp only at h2 ⊢;omega,by simp only at h3 ⊢;omega⟩,h4,h5⟩
theorem vF {k:Int} {r:ae} (h:Rd k r) (hk:k<=100000000) (l:LI) (hl:l≠[]):QM (aI r l) λv=>Rd (k+1) v.1/\v.2∈l:=by
 obtain ⟨b,p⟩:=r;obtain ⟨h1,h2,h3⟩:=h;obtain ⟨v,e,h4⟩:=O2 h1 (p:=p) ⟨h2,by simp only at h3;omega⟩ l hl;exact ⟨_,e,⟨h1,by simp only at h2 ⊢;omega,by simp only at h3 ⊢;omega⟩,h4⟩
theorem Lp {b:LI} (h:Bts b):QM (kx b) (Rd 0):=by
 obtain ⟨b',e,h'⟩:=Nq h;exact ⟨_,e,h',Vr _,Vr _⟩
def ou (s:BA) (c:Int):((List BA)×Int×Int)->Option (((List BA)×Int×Int) ⊕ (List BA)):=λs5=>
 bif Q3 (s5.2.1<=(s.size:Int)) then
  Vm (
   Vm (bif (s5.2.1==(s.size:Int)) then
    QZ QX
   else
    gd (Q3<|0<=s5.2.1/\s5.2.1<(s.size:Int)) <|
    QZ (((s.data.getD s5.2.1.toNat 0).toNat:Int)==c)
   ) λs10=>
   bif s10 then
    gd (Q3<|0<=s5.2.2/\s5.2.2<=s5.2.1/\s5.2.1<=(s.size:Int)) <|
    gd (bq (s5.1.length+1) 16) <|
    gd (QF .i64<|s5.2.1+(1:Int)) <|
    QZ ((s5.1++[(s.extract s5.2.2.toNat s5.2.1.toNat)]),(s5.2.1+(1:Int)))
   else
    QZ (s5.1,s5.2.2)
  ) λs9=>
  gd (QF .i64<|s5.2.1+(1:Int)) <|
  QZ (.inl (s9.1,(s5.2.1+(1:Int)),s9.2))
 else
  QZ (.inr s5.1)
theorem xm (s:BA) (c:Int) (sQ:_):Le (ou s c sQ) (il s c sQ):=by
 unfold ou il
 solve_by_elim (maxDepth:=9999) only [*,Le.gd,Le.bif,Le.bind,Le.sumK,Le.loop,Le.nilK,Le.ifc,Le.refl]
def pU (s:BA) (c:Int):Option (List BA):=
 Vm (
  mJ 40 (ou s c) (([]:List BA),(0:Int),(0:Int))
 ) λs1=>
 QZ s1
theorem uH (s:BA) (c:Int):Le (pU s c) (dh s c):=by
 unfold pU dh
 solve_by_elim (maxDepth:=9999) only [*,xm,Le.gd,Le.bif,Le.bind,Le.sumK,Le.loop,Le.nilK,Le.ifc,Le.refl]
def bL (s:BA) (at_:Int) (from_:Int) (most:Int):Option Int:=
 Vm (bif Q3 ((s.size:Int)<=at_) then
  QZ QX
 else
  gd (Q3<|0<=at_/\at_<(s.size:Int)) <|
  QZ (Q3<|((s.data.getD at_.toNat 0).toNat:Int)<from_)
 ) λs1=>
 Vm (bif s1 then
  QZ QX
 else
  gd (Q3<|0<=at_/\at_<(s.size:Int)) <|
  gd (QF .u8<|((s.data.getD at_.toNat 0).toNat:Int)-from_) <|
  gd (QF .i64<|((s.data.getD at_.toNat 0).toNat:Int)-from_) <|
  QZ (Q3<|most<(((s.data.getD at_.toNat 0).toNat:Int)-from_))
 ) λs4=>
 bif s4 then
  QZ (-1:Int)
 else
  gd (Q3<|0<=at_/\at_<(s.size:Int)) <|
  gd (QF .u8<|((s.data.getD at_.toNat 0).toNat:Int)-from_) <|
  gd (QF .i64<|((s.data.getD at_.toNat 0).toNat:Int)-from_) <|
  QZ (((s.data.getD at_.toNat 0).toNat:Int)-from_)
theorem zq (s:BA) (at_:Int) (from_:Int) (most:Int):Le (bL s at_ from_ most) (bF s at_ from_ most):=by
 unfold bL bF
 solve_by_elim (maxDepth:=9999) only [*,Le.gd,Le.bif,Le.bind,Le.sumK,Le.loop,Le.nilK,Le.ifc,Le.refl]
def rW (s:BA):Option QH:=
 bif Q3 (s=(⟨#[102,101,110,99,101]⟩:BA)) then
  QZ (⟨(4:Int),(0:Int),(0:Int),(0:Int)⟩:QH)
 else
  Vm (bL s (0:Int) (97:Int) (2:Int)) λv2=>
  Vm (bL s (0:Int) (120:Int) (2:Int)) λv3=>
  Vm (bif Q3 ((0:Int)<=v2) then
   QZ ((s.size:Int)==(3:Int))
  else
   QZ QY
  ) λs4=>
  bif s4 then
   Vm (bL s (2:Int) (120:Int) (2:Int)) λv7=>
   QZ (⟨(1:Int),v7,v2,(0:Int)⟩:QH)
  else
   Vm (bif Q3 ((0:Int)<=v2) then
    QZ ((s.size:Int)==(5:Int))
   else
    QZ QY
   ) λs8=>
   bif s8 then
    Vm (bL s (2:Int) (120:Int) (2:Int)) λv11=>
    Vm (bL s (4:Int) (48:Int) (3:Int)) λv12=>
    QZ (⟨(5:Int),v11,v2,v12⟩:QH)
   else
    Vm (bif Q3 ((0:Int)<=v3) then
     Vm (bL s (2:Int) (97:Int) (2:Int)) λv15=>
     QZ (Q3<|(0:Int)<=v15)
    else
     QZ QY
    ) λs13=>
    bif s13 then
     Vm (bL s (2:Int) (97:Int) (2:Int)) λv17=>
     QZ (⟨(3:Int),v3,v17,(0:Int)⟩:QH)
    else
     Vm (bL s (2:Int) (48:Int) (3:Int)) λv18=>
     QZ (⟨(2:Int),v3,(0:Int),v18⟩:QH)
theorem zr (s:BA):Le (rW s) (nO s):=by
 unfold rW nO
 solve_by_elim (maxDepth:=9999) only [*,zq,Le.gd,Le.bif,Le.bind,Le.sumK,Le.loop,Le.nilK,Le.ifc,Le.refl]
def gQ (v1:(List BA)) (s6:(List<|List QH)×Int) (v14:(List BA)):((List QH)×Int)->Option (((List QH)×Int) ⊕ (List QH)):=λs19=>
 Vm (bif Q3 (s19.2<(v14.length:Int)) then
  QZ (Q3<|s19.2<=(7:Int))
 else
  QZ QY
 ) λs22=>
 Vm (bif s22 then
  QZ (!decide ((v1.getD s6.2.toNat QW)=(⟨#[]⟩:BA)))
 else
  QZ QY
 ) λs24=>
 bif s24 then
  gd (Q3<|0<=s19.2/\s19.2<(v14.length:Int)) <|
  Vm (rW<|v14.getD s19.2.toNat QW) λv28=>
  gd (bq (s19.1.length+1) 32) <|
  gd (QF .i64<|s19.2+(1:Int)) <|
  QZ (.inl ((s19.1++[v28]),(s19.2+(1:Int))))
 else
  QZ (.inr s19.1)
theorem qV (v1:(List BA)) (s6:(List<|List QH)×Int) (v14:(List BA)) (sQ:_):Le (gQ v1 s6 v14 sQ) (gP v1 s6 v14 sQ):=by
 unfold gQ gP J
 solve_by_elim (maxDepth:=9999) only [*,zr,Le.gd,Le.bif,Le.bind,Le.sumK,Le.loop,Le.nilK,Le.ifc,Le.refl]
def iC (v1:(List BA)):((List<|List QH)×Int)->Option (((List<|List QH)×Int) ⊕ (List<|List QH)):=λs6=>
 Vm (bif Q3 (s6.2<(v1.length:Int)) then
  QZ (Q3<|s6.2<=(3:Int))
 else
  QZ QY
 ) λs9=>
 bif s9 then
  Vm (
   gd (Q3<|0<=s6.2/\s6.2<(v1.length:Int)) <|
   Vm (pU (v1.getD s6.2.toNat QW) (59:Int)) λv14=>
   Vm (
    mJ 40 (gQ v1 s6 v14) (([]:List QH),(0:Int))
   ) λs15=>
   gd (bq (s6.1.length+1) 24) <|
   QZ (s6.1++[s15])
  ) λs12=>
  gd (QF .i64<|s6.2+(1:Int)) <|
  QZ (.inl (s12,(s6.2+(1:Int))))
 else
  QZ (.inr s6.1)
theorem rX (v1:(List BA)) (sQ:_):Le (iC v1 sQ) (iB v1 sQ):=by
 unfold iC iB J
 solve_by_elim (maxDepth:=9999) only [*,uH,qV,Le.gd,Le.bif,Le.bind,Le.sumK,Le.loop,Le.nilK,Le.ifc,Le.refl]
def jY (p:List<|List QH) (s4:Int×BA):(Int×BA)->Option ((Int×BA) ⊕ BA):=λs13=>
 gd (Q3<|0<=s4.1/\s4.1<(p.length:Int)) <|
 bif Q3 (s13.1<((p.getD s4.1.toNat QW).length:Int)) then
  Vm (
   bif Q3 ((0:Int)<s13.1) then
    gd (Q3<|s13.2.size+(⟨#[59]⟩:BA).size<=9223372036854775807) <|
    QZ (s13.2++(⟨#[59]⟩:BA))
   else
    QZ s13.2
  ) λs17=>
  gd (Q3<|0<=s13.1/\s13.1<((p.getD s4.1.toNat QW).length:Int)) <|
  Vm (l5<|(p.getD s4.1.toNat QW).getD s13.1.toNat QW) λv21=>
  gd (Q3<|s17.size+v21.size<=9223372036854775807) <|
  gd (QF .i64<|s13.1+(1:Int)) <|
  QZ (.inl ((s13.1+(1:Int)),(s17++v21)))
 else
  QZ (.inr s13.2)
theorem uh (p:List<|List QH) (s4:Int×BA) (sQ:_):Le (jY p s4 sQ) (jX p s4 sQ):=by
 unfold jY jX J
 solve_by_elim (maxDepth:=9999) only [*,uG,Le.gd,Le.bif,Le.bind,Le.sumK,Le.loop,Le.nilK,Le.ifc,Le.refl]
def lc (p:List<|List QH):(Int×BA)->Option ((Int×BA) ⊕ BA):=λs4=>
 bif Q3 (s4.1<(p.length:Int)) then
  Vm (
   Vm (
    bif Q3 ((0:Int)<s4.1) then
     gd (Q3<|s4.2.size+(⟨#[124]⟩:BA).size<=9223372036854775807) <|
     QZ (s4.2++(⟨#[124]⟩:BA))
    else
     QZ s4.2
   ) λs8=>
   mJ 40 (jY p s4) ((0:Int),s8)
  ) λs7=>
  gd (QF .i64<|s4.1+(1:Int)) <|
  QZ (.inl ((s4.1+(1:Int)),s7))
 else
  QZ (.inr s4.2)
theorem uS (p:List<|List QH) (sQ:_):Le (lc p sQ) (kZ p sQ):=by
 unfold lc kZ
 solve_by_elim (maxDepth:=9999) only [*,uh,Le.gd,Le.bif,Le.bind,Le.sumK,Le.loop,Le.nilK,Le.ifc,Le.refl]
def ow (p:List<|List QH):Option BA:=
 Vm (
  mJ 40 (lc p) ((0:Int),(⟨#[]⟩:BA))
 ) λs1=>
 QZ s1
theorem xn (p:List<|List QH):Le (ow p) (kM p):=by
 unfold ow kM
 solve_by_elim (maxDepth:=9999) only [*,uS,Le.gd,Le.bif,Le.bind,Le.sumK,Le.loop,Le.nilK,Le.ifc,Le.refl]
def gT (text:BA):Option ((List<|List QH)×Bool):=
 Vm (pU text (124:Int)) λv1=>
 Vm (
  mJ 40 (iC v1) (([]:List<|List QH),(0:Int))
 ) λs2=>
 Vm (aV s2) λv36=>
 Vm (bif !v36 then
  QZ QX
 else
  Vm (ow s2) λv39=>
  QZ (!decide (v39=text))
 ) λs37=>
 bif s37 then
  QZ (([]:List<|List QH),QY)
 else
  QZ (s2,QX)
theorem uT (text:BA):Le (gT text) (dD text):=by
 unfold gT dD
 solve_by_elim (maxDepth:=9999) only [*,uH,rX,xn,Le.gd,Le.bif,Le.bind,Le.sumK,Le.loop,Le.nilK,Le.ifc,Le.refl]
def smI (x:QH):Bool:=Q3<|(-1<=x.Op/\x.Op<=6)/\(-1<=x.Loc/\x.Loc<=3)/\(-1<=x.Reg/\x.Reg<=3)/\(-1<=x.Val/\x.Val<=4)
def smP (p:List<|List QH):Bool:=Q3 (p.length<=4)&&p.all λr=>Q3 (r.length<=8)&&r.all smI

open Go.RowKit
open Go.RowKit
theorem Gi {p:List (List QH)}:smP p=QX↔p.length<=4/\∀ r∈p,r.length<=8/\∀ x∈r,smI x=QX:=by
 simp only [smP,bae,dte,Vn]
theorem Ei {α:Type} {m:Nat}:∀ {p:List (List α)},(∀ r∈p,r.length<=m)->total p<=p.length*m
 | [],_=>by simp [total]
 | r::p,h=>by
  have h1:=Ei (p:=p) λx hx=>h x<|VI _ hx;have h2:=h r<|List.mem_cons_self;simp only [total,VH,List.sum_cons,llc,Nat.add_mul,Nat.one_mul] at h1 ⊢;omega
theorem Md {p:List (List QH)} (h:smP p=QX):p.length<=1048576/\total p<=1048576:=by
 rw [Gi] at h;have h1:=Ei (m:=8) λr hr=>(h.2 r hr).1;have h2:p.length*8<=32:=by omega
 exact ⟨by omega,by omega⟩
theorem Gj {k:Int} {r:ae} (h:Rd k r) (hk:k<=10000000):QM (fu r) λv=>Rd (k+4) v.1/\smI v.2=QX:=by
 unfold fu;refine (aY h.mk' (by omega) 2).bind λv1 ⟨a1,a2,a3⟩=>(aY a1.mk' (by omega) 7).bind λv2 ⟨b1,b2,b3⟩ => ?_;refine .bif (λ_ => .pure ⟨b1.mono (by omega),by simp only [smI];exact decide_eq_true<|by omega⟩) λ_=>?_;refine .bif (λ_=>(aY b1.mk' (by omega) 2).bind λv3 ⟨c1,c2,c3⟩ => .pure ⟨c1.mono (by omega),decide_eq_true<|by simp only [];omega⟩) λ_=>?_;refine .bif (λ_=>(aY b1.mk' (by omega) 2).bind λv3 ⟨c1,c2,c3⟩=>(aY c1.mk' (by omega) 3).bind λv4 ⟨d1,d2,d3⟩ => .gdI (by omega)<|.pure ⟨d1.mono (by omega),decide_eq_true<|by simp only [];omega⟩) λ_=>?_;refine QM.bind (P:=λ_=>True) (.bif (λ_ => .pure trivial) λ_ => .pure trivial) λs _=>?_;refine .bif (λ_=>(aY b1.mk' (by omega) 3).bind λv3 ⟨c1,c2,c3⟩ => .gdI (by omega)<|.pure ⟨c1.mono (by omega),decide_eq_true<|by simp only [];omega⟩) λ_=>?_;exact (aY b1.mk' (by omega) 2).bind λv3 ⟨c1,c2,c3⟩ => .pure ⟨c1.mono (by omega),decide_eq_true<|by simp only [];omega⟩
theorem Io {k:Int} {b:LI} {p n:Int} (h:Rd k ⟨b,p⟩) (hk:k<=1000000) (hn:0<=n/\n<=3):QM (aB m5 (b,p,([]:List QH),n)) λv=>Rd (k+12) ⟨v.1,v.2.1⟩/\v.2.2.length<=3/\∀ x∈v.2.2,smI x=QX:=by
 refine QM.loop (λs=>Rd (k+4*(3-s.2.2.2)) ⟨s.1,s.2.1⟩/\(0<=s.2.2.2/\s.2.2.2+(s.2.2.1.length:Int)<=3)/\∀ x∈s.2.2.1,smI x=QX) (λs=>s.2.2.2.toNat) ⟨h.mono (by simp only [];omega),by simp;omega,by simp⟩ λs ⟨h1,h2,h3⟩ => ?_;unfold m5;refine .bifD (λh0=>?_) λh0 => .pure ⟨h1.mono (by omega),by simp only [];omega,h3⟩;refine (Gj h1<|by omega).bind λv ⟨a1,a2⟩ => .gdC (by omega) rfl<|.gdI (by omega)<|.pure ⟨⟨a1.mk'.mono (by simp only [];omega),by simp only [lla,llc,VD];omega,λx hx=>?_⟩,by simp only [];omega⟩;rcases List.mem_append.1 hx with hx | hx
 ·exact h3 x hx
 rw [List.mem_singleton.1 hx];exact a2
theorem Gm {k:Int} {b:LI} {p n:Int} (h:Rd k ⟨b,p⟩) (hk:k<=100000) (hn:0<=n/\n<=3):QM (aB m6 (b,p,([]:List<|List QH),n)) λv=>Rd (k+39) ⟨v.1,v.2.1⟩/\smP v.2.2=QX:=by
 refine QM.loop (λs=>Rd (k+13*(3-s.2.2.2)) ⟨s.1,s.2.1⟩/\(0<=s.2.2.2/\s.2.2.2+(s.2.2.1.length:Int)<=3)/\∀ r∈s.2.2.1,r.length<=8/\∀ x∈r,smI x=QX) (λs=>s.2.2.2.toNat) ⟨h.mono (by simp only [];omega),by simp;omega,by simp⟩ λs ⟨h1,h2,h3⟩ => ?_;unfold m6;refine .bifD (λh0=>?_) λh0 => .pure ⟨h1.mono (by omega),Gi.2 ⟨by simp only [];omega,h3⟩⟩;refine QM.bind (P:=λv=>Rd (k+13*(3-s.2.2.2)+13) ⟨v.1,v.2.1⟩/\∃ t:List QH,v.2.2=s.2.2.1++[t]/\t.length<=8/\∀ x∈t,smI x=QX) ?_ λv ⟨a1,t,a2,a3,a4⟩ => ?_
 ·refine QM.bind (P:=λv=>Rd (k+13*(3-s.2.2.2)+13) ⟨v.1,v.2.1⟩/\v.2.2.length<=3/\∀ x∈v.2.2,smI x=QX) ?_ λv ⟨a1,a2,a3⟩ => .gdC (by omega) rfl<|.pure ⟨a1,v.2.2,rfl,by omega,a3⟩;refine (vF h1 (by omega) _<|by simp).bind λv ⟨b1,b2⟩=>(Io (n:=v.2) b1.mk' (by omega)<|by simp only [Vy,VN,or_false] at b2;omega).mono λu ⟨c1,c2,c3⟩=>⟨c1.mono (by omega),c2,c3⟩
 refine .gdI (by omega)<|.pure ⟨⟨a1.mono (by simp only [];omega),by simp only [a2,lla,llc,VD];omega,λr hr=>?_⟩,by simp only [];omega⟩;simp only [a2] at hr;rcases List.mem_append.1 hr with hr | hr
 ·exact h3 r hr
 rw [List.mem_singleton.1 hr];exact ⟨a3,a4⟩
def Sm (p:List<|List QH):Prop:=p.length<=9/\∀ r∈p,r.length<=9/\∀ x∈r,smI x=QX
theorem Sm.sz {p:List (List QH)} (h:Sm p):p.length<=1048576/\total p<=1048576:=by
 have h1:=Ei (m:=9) λr hr=>(h.2 r hr).1;have h2:p.length*9<=81:=by have := h.1;omega
 exact ⟨by have := h.1;omega,by omega⟩
theorem Sm.row {p:List (List QH)} (h:Sm p) (i:Nat):(p.getD i QW).length<=9:=by
 by_cases hi:i<p.length
 ·have : p.getD i QW=p[i]:=by simp [hi]
  rw [this];exact (h.2 _<|Vv hi).1
 rw [gdq,gen (Nat.le_of_not_lt hi)];exact VC _
def pV (r_:ae):Option (ae×(List<|List QH)×QI):= Vm (pR (⟨r_.b,r_.p⟩:ae)) λv1=>Vm (rD v1.2) λv2=>Vm (au (⟨v1.1.b,v1.1.p⟩:ae) (v2.length:Int)) λv3=>gd (Q3<|0<=v3.2/\v3.2<(v2.length:Int)) <|QZ ((⟨v3.1.b,v3.1.p⟩:ae),v1.2,(⟨(J v2 v3.2).From,(J v2 v3.2).Order⟩:QI))
def Gn (t:BA):Bool:=match gT t with
 | some v=>smP v.1&&(!v.2||bf (QP v.1))
 | none=>QY
theorem Gp:∀ l,nN=QZ l->l.all Gn=QX:=by
 intro l h;obtain rfl:=osl h
 decide +kernel
theorem Gq {t:BA} (h:Gn t=QX):QM (dD t) λv=>smP v.1=QX/\(v.2=QX->bf (QP v.1)=QX):=by
 unfold Gn at h
 cases hc:gT t with
 | none=>rw [hc] at h;cases h
 | some v=>
  rw [hc] at h;refine ⟨v,uT t v hc,?_⟩;simp only [bae,Bool.or_eq_true,VG] at h;exact ⟨h.1,λe=>h.2.elim (λh2=>by rw [e] at h2;cases h2) id⟩
theorem Nr:((Vo 6).all λo=>(Vo 3).all λl=>(Vo 3).all λg=>(Vo 4).all λv => !dZ ⟨(o:Int),(l:Int),(g:Int),(v:Int)⟩||bf [[⟨(o:Int),(l:Int),(g:Int),(v:Int)⟩]])=QX:=by decide +kernel
theorem vG {x:QH} (h1:0<=x.Op/\x.Op<6) (h2:0<=x.Loc/\x.Loc<3) (h3:0<=x.Reg/\x.Reg<3) (h4:0<=x.Val/\x.Val<4) (h:dZ (iQ x)=QX):bf (QP [[x]])=QX:=by
 have e:=Nr;have e:=Vn.1 e x.Op.toNat<|Vp.2 (by omega);have e:=Vn.1 e x.Loc.toNat<|Vp.2 (by omega);have e:=Vn.1 e x.Reg.toNat<|Vp.2 (by omega);have e:=Vn.1 e x.Val.toNat<|Vp.2 (by omega);rw [Vu h1.1,Vu h2.1,Vu h3.1,Vu h4.1] at e;have e':(!dZ (iQ x)||bf (QP [[x]]))=QX:=e;rw [h] at e';simpa using e'
theorem Qg {o l g:Int} (ho:o=1\/o=3) (h:0<=l/\l<=2) (h':0<=g/\g<=2):dZ ⟨o,l,g,0⟩=QX:=by
 unfold dZ QK
 grind
theorem ok2 {l v:Int} (h:0<=l/\l<=2) (h':0<=v/\v<=3):dZ ⟨2,l,0,v⟩=QX:=by
 unfold dZ QK
 grind
theorem ok5 {l g v:Int} (h:0<=l/\l<=2) (h':0<=g/\g<=2) (h'':0<=v/\v<=3):dZ ⟨5,l,g,v⟩=QX:=by
 unfold dZ QK
 grind
theorem Fh {k:Int} {r:ae} (h:Rd k r) (hk:k<=10000000):QM (fu r) λv=>Rd (k+4) v.1/\smI v.2=QX/\bf (QP [[v.2]])=QX:=by
 unfold fu;refine (aY h.mk' (by omega) 2).bind λv1 ⟨a1,a2,a3⟩=>(aY a1.mk' (by omega) 7).bind λv2 ⟨b1,b2,b3⟩ => ?_;refine .bif (λ_ => .pure ⟨b1.mono (by omega),by simp only [smI];exact decide_eq_true (by omega),vG (x:=⟨4,0,0,0⟩) (by decide) (by decide) (by decide) (by decide)<|by decide⟩) λ_=>?_;refine .bif (λ_=>(aY b1.mk' (by omega) 2).bind λv3 ⟨c1,c2,c3⟩ => .pure ⟨c1.mono (by omega),decide_eq_true (by simp only [];omega),vG (by simp only [];omega) (by simp only [];omega) (by simp only [];omega) (by simp only [];omega)<|Qg (.inr rfl) (by simp only [];omega)<|by simp only [];omega⟩) λ_=>?_;refine .bif (λ_=>(aY b1.mk' (by omega) 2).bind λv3 ⟨c1,c2,c3⟩=>(aY c1.mk' (by omega) 3).bind λv4 ⟨d1,d2,d3⟩ => .gdI (by omega)<|.pure ⟨d1.mono (by omega),decide_eq_true (by simp only [];omega),vG (by simp only [];omega) (by simp only [];omega) (by simp only [];omega) (by simp only [];omega)<|ok5 (by simp only [];omega) (by simp only [];omega)<|by simp only [];omega⟩) λ_=>?_;refine QM.bind (P:=λ_=>True) (.bif (λ_ => .pure trivial) λ_ => .pure trivial) λs _=>?_;refine .bif (λ_=>(aY b1.mk' (by omega) 3).bind λv3 ⟨c1,c2,c3⟩ => .gdI (by omega)<|.pure ⟨c1.mono (by omega),decide_eq_true (by simp only [];omega),vG (by simp only [];omega) (by simp only [];omega) (by simp only [];omega) (by simp only [];omega)<|ok2 (by simp only [];omega)<|by simp only [];omega⟩) λ_=>?_;exact (aY b1.mk' (by omega) 2).bind λv3 ⟨c1,c2,c3⟩ => .pure ⟨c1.mono (by omega),decide_eq_true (by simp only [];omega),vG (by simp only [];omega) (by simp only [];omega) (by simp only [];omega) (by simp only [];omega)<|Qg (.inl rfl) (by simp only [];omega)<|by simp only [];omega⟩
theorem Gs {k:Int} {r:ae} (h:Rd k r) (hk:k<=10000):QM (pR r) λv=>Rd (k+46) v.1/\smP v.2=QX/\bf (QP v.2)=QX:=by
 unfold pR J;have e1:∃ l,nN=QZ l/\0<l.length/\l.length<=100:=⟨_,rfl,by decide,by decide⟩;obtain ⟨l,e1,e2,e3⟩:=e1;have hp':=λt (ht:t∈l)=>Gq<|Vn.1 (Gp l e1) t ht;refine (QM.of (P:=λv=>v=l) e1 rfl).bind λv1 hv=>?_;subst hv;refine QM.sum (PS:=λs=>Rd (k+2) ⟨s.1,s.2⟩) (PW:=λv:ae×List (List QH)=>Rd (k+46) v.1/\smP v.2=QX/\bf (QP v.2)=QX) ?_ λs hs=>?_
 ·refine (aY h.mk' (by omega) 3).bind λv3 ⟨a1,a2,a3⟩ => .bif (λ_=>?_) λ_ => .pure<|a1.mk'.mono (by omega);refine (aY a1.mk' (by omega) _).bind λv5 ⟨b1,b2,b3⟩ => .gdD ⟨b2,by omega⟩ ?_;have hlt:v5.2.toNat<v1.length:=by omega
  refine QM.bind (hp' (v1.getD v5.2.toNat QW)<|by rw [gdq,geq hlt];exact Vv _) λv7 h7=>?_;exact .bif (λhb => .pure ⟨b1.mk'.mono (by omega),h7.1,h7.2 hb⟩) λ_ => .pure<|b1.mk'.mono (by omega)
 refine QM.bind (P:=λv=>Rd (k+42) ⟨v.1,v.2.1⟩/\smP v.2.2=QX) ?_ λv ⟨a1,a2⟩ => ?_
 ·exact (vF hs (by omega) _<|by simp).bind λv ⟨b1,b2⟩=>(Gm (n:=v.2) b1.mk' (by omega)<|by simp only [Vy,VN,or_false] at b2;omega).mono λu ⟨c1,c2⟩=>⟨c1.mono (by omega),c2⟩
 have hv:QM (aV v.2.2) (· = bf (QP v.2.2)) := .gdD (Md a2)<|.pure rfl;refine hv.bind λb hb => .bif (λe => .pure ⟨a1.mono (by omega),a2,by rw [<- hb];exact e⟩) λ_=>?_;exact (Fh a1<|by omega).bind λu ⟨c1,c2,c3⟩ => .pure ⟨c1.mk'.mono (by omega),Gi.2 ⟨by simp,by simp [c2]⟩,c3⟩
theorem Gt {α:Type}:∀ {cs:List (List α)},(∀ c∈cs,c≠[])->xk cs≠[]
 | [],_=>by simp [xk]
 | c::cs,h=>by
  have h1:=h c (by simp);have h2:=Gt (cs:=cs) λd hd=>h d<|VI _ hd;obtain ⟨a,l,rfl⟩:=VE h1;obtain ⟨b,m,e⟩:=VE h2;unfold xk;rw [e];simp
theorem Lr {p:List (List QH)} (hp:PV p):0<(Cg p).length:=by
 have h1:xk (chF p)≠[]:=Gt λc hc=>by
  obtain ⟨i,hi,rfl⟩:=List.mem_map.1 hc;have hi:=Vp.1 hi;unfold chE
  split
  ·rename_i hr;have hl:=tj hp (n:=(i:Int)) (by omega) (by omega);have h0:=xg (p:=p) (l:=(ev p (i:Int)).Loc.toNat) (by omega);rw [Vu hl.1] at h0;have hm:(ev p (i:Int)).Loc∈QO p (ev p (i:Int)).Loc:=by
    unfold QO;refine List.mem_filter.2 ⟨(uf _).2 ⟨hl.1,by omega⟩,?_⟩;unfold Wl;rw [h0.1];simp
   have hne : ¬ (ev p (i:Int)).Loc=(i:Int):=λe=>by
    have h1:=h0.1;rw [e] at h1;rw [h1] at hr
    cases hr
   exact List.ne_nil_of_mem<|List.mem_filter.2 ⟨hm,by simpa using hne⟩
  exact List.cons_ne_nil _ _
 have h2:xk (chO p)≠[]:=Gt λc hc=>by
  have key:∀ l:Nat,chL p l≠[]:=λl e=>by
   unfold chL at e;have := Cf (QO p (l:Int)).tail.length (QO p (l:Int)).tail rfl;rw [List.map_eq_nil_iff.1 e,VD] at this;have h3:=DY (QO p (l:Int)).tail.length;omega
  unfold chO at hc;simp only [Vy,VN,or_false] at hc;rcases hc with rfl | rfl | rfl <;> exact key _
 obtain ⟨a,l,ea⟩:=VE h1;obtain ⟨b,m,eb⟩:=VE h2;unfold Cg;rw [ea,eb];simp
def SmX (x:QI):Prop:=∀ r∈x.Order,r.length<=1048576
theorem Fj {k:Int} {r:ae} {p:List (List QH)} {x:QI} (h:Rd k r) (hk:k<=10000) (hp:PV p) (C:Cand p (x.From,x.Order)<|MW p):QM (iW r x) λv=>SmX v.2:=by
 have hel:=jT hp.vs;have h3:3<=(evs p).length:=by have := (xg (p:=p) (l:=2)<|by omega).2;omega
 have hf:x.From.length=(evs p).length:=C.flen;have ho:x.Order.length=3:=C.olen;have hr:∀ r∈x.Order,r.length<=24:=λr hr=>by
  obtain ⟨i,hi,rfl⟩:=Vq hr;have e:od (x.From,x.Order) (i:Int)=x.Order[i]:=by
   unfold od;rw [tnn,gdq,geq hi];rfl
  have hc:=C.ods (i:Int) (by omega);rw [e] at hc;have := List.Nodup.length_le_of_subset hc.nd (l₂:=MW p) λn hn=>((hc.mem n).1 hn).1;unfold MW at this;rw [llm,List.length_range] at this;omega
 have hfit:Ka x=QX:=by
  unfold Ka;simp only [bae,dte,Vn];exact ⟨⟨by omega,by omega⟩,λr h'=>by have := hr r h';omega⟩
 have hd:∀ r∈x.Order.drop 1,r.length<=1048576:=λr h'=>by have := hr r<|VW h';omega
 have h0:(x.Order.getD 0 []).length<=24:=by
  rw [gdq,geq (by omega)];exact hr _<|Vv _
 have hb:∀ r∈x.Order,r.length<=1048576:=λr h'=>by have := hr r h';omega
 unfold iW;refine .gd hfit<|(aY h (by omega) 24).bind λv ⟨a1,a2,a3⟩ => .bif (λ_=>?_) λ_ => .bif (λ_ => .pure hb) λ_ => .bif (λ_ => .gdD (by omega)<|.pure λr h'=>hd r<|VJ h') λ_ => .bif (λ_=>?_) λ_ => .bif (λ_ => .gdD (by omega)<|.pure λr h' => ?_) λ_ => .pure hb
 ·refine (aY a1 (by omega) _).bind λa ⟨b1,b2,b3⟩=>(vF b1 (by omega) _<|by simp).bind λb _ => .gdD ⟨b2,by omega⟩<|.pure hb
 ·refine .gdD (by omega)<|(vF a1 (by omega) _<|by simp).bind λb _ => .pure λr h' => ?_;rcases Vy.1 h' with rfl | h'
  ·rw [lla,VR];omega
  exact hd r h'
 rcases Vy.1 h' with rfl | h'
 ·exact VC _
 exact hd r h'
theorem O3 {k:Int} {r:ae} (h:Rd k r) (hk:k<=100000000) (l:List BA) (hl:l≠[]):QM (l4 r l) λv=>Rd (k+1) v.1/\v.2∈l:=by
 have hpos:0<l.length:=VV.2 hl;unfold l4 J;refine (aY h.mk' hk _).bind λv ⟨h1,h2,h3⟩ => ?_;refine .gdD ⟨h2,by omega⟩<|.pure ⟨h1,?_⟩;have : v.2.toNat<l.length:=by omega
 rw [gdq,geq this];exact Vv _
def l7 (rcf:ae->Int->Option (ae×aa)) (r_:ae) (depth:Int):Option (ae×aa):= Vm (dm) λv1=>bif Q3 (depth<(2:Int)) then Vm (au (⟨r_.b,r_.p⟩:ae) (v1.length:Int)) λv3=>gd (Q3<|0<=v3.2/\v3.2<(v1.length:Int)) <|QZ ((⟨v3.1.b,v3.1.p⟩:ae),(⟨(1:Int),(J v1 v3.2),([]:List ZTE)⟩:aa)) else Vm (au (⟨r_.b,r_.p⟩:ae) (3:Int)) λv5=>bif (v5.2==(0:Int)) then Vm (au (⟨v5.1.b,v5.1.p⟩:ae) (v1.length:Int)) λv7=>gd (Q3<|0<=v7.2/\v7.2<(v1.length:Int)) <|QZ ((⟨v7.1.b,v7.1.p⟩:ae),(⟨(1:Int),(J v1 v7.2),([]:List ZTE)⟩:aa)) else Vm (au (⟨v5.1.b,v5.1.p⟩:ae) (4:Int)) λv9=>bif (v9.2==(0:Int)) then Vm (aI (⟨v9.1.b,v9.1.p⟩:ae) ([(6:Int),(7:Int)]:LI)) λv11=>gd (QF .i64<|depth-(1:Int)) <|Vm (rcf (⟨v11.1.b,v11.1.p⟩:ae)<|depth-(1:Int)) λv13=>QZ ((⟨v13.1.b,v13.1.p⟩:ae),(⟨v11.2,(⟨#[]⟩:BA),([v13.2.inn]:List ZTE)⟩:aa)) else Vm (aI (⟨v9.1.b,v9.1.p⟩:ae) ([(2:Int),(3:Int),(4:Int),(5:Int)]:LI)) λv14=>gd (QF .i64<|depth-(1:Int)) <|Vm (rcf (⟨v14.1.b,v14.1.p⟩:ae)<|depth-(1:Int)) λv16=>Vm (rcf (⟨v16.1.b,v16.1.p⟩:ae)<|depth-(1:Int)) λv17=>QZ ((⟨v17.1.b,v17.1.p⟩:ae),(⟨v14.2,(⟨#[]⟩:BA),([v16.2.inn,v17.2.inn]:List ZTE)⟩:aa))
def iX:Nat->ae->Int->Option (ae×aa)
 | 0=>λ_ _=>Q0
 | n+1=>l7 (iX n)
def l8 (r_:ae) (depth:Int):Option (ae×aa):=DU λnf=>iX nf r_ depth
def KD (e:aa):Nat->aa
 | 0=>e
 | n+1=>⟨6,⟨#[]⟩,[(KD e n).inn]⟩
def iY (r_:ae) (e:aa):Option (ae×aa):= gd (Q3<|e.Kids.length<=1048576) <|Vm (au r_ (24:Int)) λv=>bif v.2==(0:Int) then Vm (aI v.1 ([(0:Int),(8:Int),(1:Int),(2:Int),(6:Int)]:LI)) λa=>QZ (a.1,⟨a.2,e.Name,e.Kids⟩) else bif v.2==(1:Int) then Vm (l4 v.1 ([(⟨#[]⟩:BA),(⟨#[102,111,111]⟩:BA),(⟨#[112,111]⟩:BA)]:List BA)) λa=>QZ (a.1,⟨e.Op,a.2,e.Kids⟩) else bif v.2==(2:Int) then Vm (l8 v.1 (1:Int)) λa=>QZ (a.1,⟨e.Op,e.Name,e.Kids++[a.2.inn]⟩) else bif v.2==(3:Int) then QZ (v.1,KD e 12) else QZ (v.1,e)
def l9:Option (List BA):= QZ ([(⟨#[97,99,121,99,108,105,99,32,112,111,124,114,102,124,99,111,124,102,114]⟩:BA),(⟨#[97,99,121,99,108,105,99,32,112,111,38,108,111,99,124,114,102,124,99,111,124,102,114,47,97,99,121,99,108,105,99,32,112,111,45,119,114,124,102,101,110,99,101,124,114,102,38,101,120,116,124,99,111,124,102,114,47,105,114,114,101,102,32,102,114,59,99,111]⟩:BA),(⟨#[97,99,121,99,108,105,99,32,112,111,38,108,111,99,124,114,102,124,99,111,124,102,114,47,97,99,121,99,108,105,99,32,112,111,45,40,119,114,124,119,119,41,124,102,101,110,99,101,124,114,102,38,101,120,116,124,99,111,124,102,114,47,105,114,114,101,102,32,102,114,59,99,111]⟩:BA),(⟨#[97,99,121,99,108,105,99,32,112,111,124,114,102,47,97,99,121,99,108,105,99,32,43,40,112,111,124,114,102,41,38,108,111,99,124,99,111,124,102,114,47,105,114,114,101,102,32,102,114,59,99,111]⟩:BA),(⟨#[97,99,121,99,108,105,99,32,112,111,38,108,111,99,124,114,102,124,99,111,124,102,114]⟩:BA),(⟨#[101,109,112,116,121,32,112,111]⟩:BA),(⟨#[105,114,114,101,102,32,126,114,102,59,99,111]⟩:BA)]:List BA)
def iw:Option (List BA):= QZ ([(⟨#[]⟩:BA),(⟨#[97,99,121,99,108,105,99]⟩:BA),(⟨#[105,114,114,101,102]⟩:BA),(⟨#[101,109,112,116,121]⟩:BA)]:List BA)
def qE (s:BA) (at_:Int) (c:Int):Option Bool:= Vm (bif Q3 ((0:Int)<=at_) then QZ (Q3<|at_<(s.size:Int)) else QZ QY) λs1=>Vm (bif s1 then gd (Q3<|0<=at_/\at_<(s.size:Int)) <|QZ (((s.data.getD at_.toNat 0).toNat:Int)==c) else QZ QY) λs3=>QZ s3
def gm (s:BA):LS Int Int:=λs24=>Vm (bif Q3 (s24<(s.size:Int)) then gd (Q3<|0<=s24/\s24<(s.size:Int)) <|QZ (Q3<|(97:Int)<=((s.data.getD s24.toNat 0).toNat:Int)) else QZ QY) λs26=>Vm (bif s26 then gd (Q3<|0<=s24/\s24<(s.size:Int)) <|QZ (Q3<|((s.data.getD s24.toNat 0).toNat:Int)<=(122:Int)) else QZ QY) λs29=>bif s29 then gd (QF .i64<|s24+(1:Int)) <|QZ (.inl<|s24+(1:Int)) else QZ (.inr s24)
def dJ (cQ:BA->Int->Int->Int->Option (aa×Int)) (rcf:BA->Int->Int->Option (aa×Int)) (s:BA) (at_:Int) (depth:Int):Option (aa×Int):= Vm (bif Q3 (depth<(1:Int)) then QZ QX else QZ (Q3<|at_<(0:Int))) λs1=>Vm (bif s1 then QZ QX else QZ (Q3<|(s.size:Int)<=at_)) λs3=>bif s3 then QZ ((⟨(0:Int),(⟨#[]⟩:BA),([]:List ZTE)⟩:aa),(-1:Int)) else gd (Q3<|0<=at_/\at_<(s.size:Int)) <|bif (((s.data.getD at_.toNat 0).toNat:Int)==(40:Int)) then gd (QF .i64<|at_+(1:Int)) <|Vm (cQ s (at_+(1:Int)) depth (3:Int)) λv9=>Vm (qE s v9.2 (41:Int)) λv10=>bif !v10 then QZ ((⟨(0:Int),(⟨#[]⟩:BA),([]:List ZTE)⟩:aa),(-1:Int)) else gd (QF .i64<|v9.2+(1:Int)) <|QZ ((⟨v9.1.Op,v9.1.Name,v9.1.Kids⟩:aa),(v9.2+(1:Int))) else Vm (bif (((s.data.getD at_.toNat 0).toNat:Int)==(126:Int)) then QZ (((s.data.getD at_.toNat 0).toNat:Int)==(126:Int)) else QZ (((s.data.getD at_.toNat 0).toNat:Int)==(43:Int))) λs13=>bif s13 then Vm (bif (((s.data.getD at_.toNat 0).toNat:Int)==(43:Int)) then QZ (7:Int) else QZ (6:Int)) λs16=>gd (QF .i64<|at_+(1:Int)) <|gd (QF .i64<|depth-(1:Int)) <|Vm (rcf s (at_+(1:Int))<|depth-(1:Int)) λv20=>QZ ((⟨s16,(⟨#[]⟩:BA),([(⟨v20.1.Op,v20.1.Name,v20.1.Kids⟩:aa).inn]:List ZTE)⟩:aa),v20.2) else Vm (aB (gm s) at_) λs21=>bif (s21==at_) then QZ ((⟨(0:Int),(⟨#[]⟩:BA),([]:List ZTE)⟩:aa),(-1:Int)) else gd (Q3<|0<=at_/\at_<=s21/\s21<=(s.size:Int)) <|QZ ((⟨(1:Int),(s.extract at_.toNat s21.toNat),([]:List ZTE)⟩:aa),s21)
def bV (cQ:BA->Int->Int->Int->Option (aa×Int)):Nat->BA->Int->Int->Option (aa×Int)
 | 0=>λ_ _ _=>Q0
 | n+1=>dJ cQ (bV cQ n)
def jZ (cQ:BA->Int->Int->Int->Option (aa×Int)) (s:BA) (at_:Int) (depth:Int):Option (aa×Int):=DU λnf=>bV cQ nf s at_ depth
def iy (op:Int):Option Int:= bif (op==(2:Int)) then QZ (3:Int) else Vm (bif (op==(3:Int)) then QZ (op==(3:Int)) else QZ (op==(4:Int))) λs2=>bif s2 then QZ (2:Int) else bif (op==(5:Int)) then QZ (1:Int) else QZ (0:Int)
def ju (op:Int):Option BA:= gd (Q3<|0<=op/\op<(([(⟨#[]⟩:BA),(⟨#[]⟩:BA),(⟨#[124]⟩:BA),(⟨#[38]⟩:BA),(⟨#[45]⟩:BA),(⟨#[59]⟩:BA),(⟨#[126]⟩:BA),(⟨#[43]⟩:BA)]:List BA).length:Int)) <|QZ<|J ([(⟨#[]⟩:BA),(⟨#[]⟩:BA),(⟨#[124]⟩:BA),(⟨#[38]⟩:BA),(⟨#[45]⟩:BA),(⟨#[59]⟩:BA),(⟨#[126]⟩:BA),(⟨#[43]⟩:BA)]:List BA) op
def rY (s:BA) (at_:Int) (level:Int):LS Int (Unit ⊕ Int):=λs4=>bif Q3 (s4<=(5:Int)) then Vm (iy s4) λv7=>Vm (bif (v7==level) then Vm (ju s4) λv10=>gd (Q3<|0<=(0:Int)/\(0:Int)<(v10.size:Int)) <|Vm (qE s at_ ((v10.data.getD (0:Int).toNat 0).toNat:Int)) λv12=>QZ v12 else QZ QY) λs8=>bif s8 then QZ (.inr<|.inr s4) else gd (QF .i64<|s4+(1:Int)) <|QZ (.inl<|s4+(1:Int)) else QZ (.inr<|.inl ())
def ui (s:BA) (at_:Int) (level:Int):Option Int:= sumK (aB (rY s at_ level) (2:Int)) λs1=>QZ (0:Int)
def m7 (rcf:BA->Int->Int->Int->Option (aa×Int)) (s:BA) (depth:Int) (level:Int):(Int×ByteArray×(List ZTE)×Int)->Option ((Int×ByteArray×(List ZTE)×Int) ⊕ ((Int×ByteArray×(List ZTE)) ⊕ (aa×Int))):=λs8=>bif Q3 ((0:Int)<=s8.2.2.2) then Vm (ui s s8.2.2.2 level) λv11=>bif (v11==(0:Int)) then QZ (.inr<|.inr ((⟨s8.1,s8.2.1,s8.2.2.1⟩:aa),s8.2.2.2)) else gd (QF .i64<|s8.2.2.2+(1:Int)) <|Vm (rcf s (s8.2.2.2+(1:Int)) depth<|level-(1:Int)) λv14=>QZ (.inl (v11,(⟨#[]⟩:BA),([(⟨s8.1,s8.2.1,s8.2.2.1⟩:aa).inn,(⟨v14.1.Op,v14.1.Name,v14.1.Kids⟩:aa).inn]:List ZTE),v14.2)) else QZ (.inr<|.inl (s8.1,s8.2.1,s8.2.2.1))
def kN (rcf:BA->Int->Int->Int->Option (aa×Int)) (s:BA) (at_:Int) (depth:Int) (level:Int):Option (aa×Int):= bif (level==(0:Int)) then Vm (jZ rcf s at_ depth) λv2=>QZ ((⟨v2.1.Op,v2.1.Name,v2.1.Kids⟩:aa),v2.2) else gd (QF .i64<|level-(1:Int)) <|Vm (rcf s at_ depth<|level-(1:Int)) λv4=>sumK (aB (m7 rcf s depth level) (v4.1.Op,v4.1.Name,v4.1.Kids,v4.2)) λs5=>QZ ((⟨(0:Int),(⟨#[]⟩:BA),([]:List ZTE)⟩:aa),(-1:Int))
def iq:Nat->BA->Int->Int->Int->Option (aa×Int)
 | 0=>λ_ _ _ _=>Q0
 | n+1=>kN (iq n)
def rZ (s:BA) (at_:Int) (depth:Int) (level:Int):Option (aa×Int):=DU λnf=>iq nf s at_ depth level
def cm (vW:aa->Option BA) (e_:aa) (level:Int):Option BA:= Vm (iy e_.Op) λv1=>bif Q3 (level<v1) then Vm (vW e_) λv3=>gd (Q3<|(⟨#[40]⟩:BA).size+v3.size<=9223372036854775807) <|gd (Q3<|((⟨#[40]⟩:BA)++v3).size+(⟨#[41]⟩:BA).size<=9223372036854775807) <|QZ (((⟨#[40]⟩:BA)++v3)++(⟨#[41]⟩:BA)) else Vm (vW e_) λv6=>QZ v6
def ma (rcf:aa->Option BA) (e_:aa):Option BA:= Vm (eD e_.Op) λv1=>bif (v1==(0:Int)) then QZ e_.Name else bif (v1==(1:Int)) then Vm (ju e_.Op) λv4=>gd (Q3<|0<=(0:Int)/\(0:Int)<(e_.Kids.length:Int)) <|Vm (cm rcf ((J e_.Kids (0:Int)).out) (0:Int)) λv6=>gd (Q3<|v4.size+v6.size<=9223372036854775807) <|QZ (v4++v6) else Vm (iy e_.Op) λv8=>gd (Q3<|0<=(0:Int)/\(0:Int)<(e_.Kids.length:Int)) <|Vm (cm rcf ((J e_.Kids (0:Int)).out) v8) λv10=>Vm (ju e_.Op) λv11=>gd (Q3<|v10.size+v11.size<=9223372036854775807) <|gd (Q3<|0<=(1:Int)/\(1:Int)<(e_.Kids.length:Int)) <|gd (QF .i64<|v8-(1:Int)) <|Vm (cm rcf ((J e_.Kids (1:Int)).out)<|v8-(1:Int)) λv15=>gd (Q3<|(v10++v11).size+v15.size<=9223372036854775807) <|QZ<|(v10++v11)++v15
def iZ:Nat->aa->Option BA
 | 0=>λ_=>Q0
 | n+1=>ma (iZ n)
def pW (e_:aa):Option BA:=DU λnf=>iZ nf e_
def fJ (e_:aa):Option BA:= Vm (bJ e_) λv1=>bif !v1 then QZ (⟨#[]⟩:BA) else Vm (pW e_) λv3=>QZ v3
def gV (text:BA):Option (aa×Bool):= bif Q3 ((300:Int)<(text.size:Int)) then QZ ((⟨(0:Int),(⟨#[]⟩:BA),([]:List ZTE)⟩:aa),QY) else Vm (rZ text (0:Int) (12:Int) (3:Int)) λv2=>Vm (bif (v2.2 != (text.size:Int)) then QZ QX else Vm (fJ (⟨v2.1.Op,v2.1.Name,v2.1.Kids⟩:aa)) λv5=>QZ<|!decide (v5=text)) λs3=>Vm (bif s3 then QZ QX else QZ (Q3<|text=(⟨#[]⟩:BA))) λs6=>bif s6 then QZ ((⟨(0:Int),(⟨#[]⟩:BA),([]:List ZTE)⟩:aa),QY) else QZ ((⟨v2.1.Op,v2.1.Name,v2.1.Kids⟩:aa),QX)
def m8 (m:List ah):LS (Int×BA) BA:=λs4=>bif Q3 (s4.1<(m.length:Int)) then Vm (bif Q3 ((0:Int)<s4.1) then gd (Q3<|s4.2.size+(⟨#[47]⟩:BA).size<=9223372036854775807) <|QZ (s4.2++(⟨#[47]⟩:BA)) else QZ s4.2) λs7=>Vm (iw) λv10=>gd (Q3<|0<=s4.1/\s4.1<(m.length:Int)) <|gd (Q3<|0<=(J m s4.1).Kind/\(J m s4.1).Kind<(v10.length:Int)) <|gd (Q3<|s7.size+(J v10<|(J m s4.1).Kind).size<=9223372036854775807) <|gd (Q3<|(s7++(J v10<|(J m s4.1).Kind)).size+(⟨#[32]⟩:BA).size<=9223372036854775807) <|Vm (pW<|(J m s4.1).Expr) λv15=>gd (Q3<|((s7++(J v10<|(J m s4.1).Kind))++(⟨#[32]⟩:BA)).size+v15.size<=9223372036854775807) <|gd (QF .i64<|s4.1+(1:Int)) <|QZ (.inl ((s4.1+(1:Int)),(((s7++(J v10<|(J m s4.1).Kind))++(⟨#[32]⟩:BA))++v15))) else QZ (.inr s4.2)
def nP (m:List ah):Option BA:= Vm (aB (m8 m) ((0:Int),(⟨#[]⟩:BA))) λs1=>QZ s1
def i9 (v14:(List BA)):LS (Int×Int) Int:=λs18=>Vm (iw) λv20=>bif Q3 (s18.2<(v20.length:Int)) then Vm (gd (Q3<|0<=(0:Int)/\(0:Int)<(v14.length:Int)) <|Vm (iw) λv24=>gd (Q3<|0<=s18.2/\s18.2<(v24.length:Int)) <|bif Q3 ((J v14 (0:Int))=(J v24 s18.2)) then QZ s18.2 else QZ s18.1) λs22=>gd (QF .i64<|s18.2+(1:Int)) <|QZ (.inl (s22,(s18.2+(1:Int)))) else QZ (.inr s18.1)
def fL (v1:(List BA)):LS ((List ah)×Int) ((List ah) ⊕ ((List ah)×Bool)):=λs6=>Vm (bif Q3 (s6.2<(v1.length:Int)) then QZ (Q3<|s6.2<=(5:Int)) else QZ QY) λs9=>bif s9 then sumK (gd (Q3<|0<=s6.2/\s6.2<(v1.length:Int)) <|Vm (dh (J v1 s6.2) (32:Int)) λv14=>Vm (aB (i9 v14) ((0:Int),(1:Int))) λs15=>Vm (bif ((v14.length:Int) != (2:Int)) then QZ QX else QZ (s15==(0:Int))) λs28=>bif s28 then QZ (.inr<|.inr<|.inr (([]:List ah),QY)) else gd (Q3<|0<=(1:Int)/\(1:Int)<(v14.length:Int)) <|Vm (gV<|J v14 (1:Int)) λv32=>bif !v32.2 then QZ (.inr<|.inr<|.inr (([]:List ah),QY)) else gd (bq (s6.1.length+1) 56) <|QZ<|.inl<|s6.1++[(⟨s15,(⟨v32.1.Op,v32.1.Name,v32.1.Kids⟩:aa)⟩:ah)]) λs12=>gd (QF .i64<|s6.2+(1:Int)) <|QZ (.inl (s12,(s6.2+(1:Int)))) else QZ (.inr<|.inl s6.1)
def gu (text:BA):Option ((List ah)×Bool):= Vm (dh text (47:Int)) λv1=>sumK (aB (fL v1) (([]:List ah),(0:Int))) λs2=>Vm (cg s2) λv38=>Vm (bif !v38 then QZ QX else Vm (nP s2) λv41=>QZ<|!decide (v41=text)) λs39=>bif s39 then QZ (([]:List ah),QY) else QZ (s2,QX)
def mb:LS ((LI)×Int×(List ah)×Int) ((LI)×Int×(List ah)):=λs13=>bif Q3 ((0:Int)<s13.2.2.2) then Vm (au (⟨s13.1,s13.2.1⟩:ae) (3:Int)) λv17=>gd (QF .i64<|(1:Int)+v17.2) <|Vm (l8 (⟨v17.1.b,v17.1.p⟩:ae) (3:Int)) λv19=>gd (bq (s13.2.2.1.length+1) 56) <|gd (QF .i64<|s13.2.2.2-(1:Int)) <|QZ (.inl (v19.1.b,v19.1.p,(s13.2.2.1++[(⟨((1:Int)+v17.2),(⟨v19.2.Op,v19.2.Name,v19.2.Kids⟩:aa)⟩:ah)]),(s13.2.2.2-(1:Int)))) else QZ (.inr (s13.1,s13.2.1,s13.2.2.1))
def nQ (r_:ae):Option (ae×(List ah)):= Vm (l9) λv1=>Vm (au (⟨r_.b,r_.p⟩:ae) (3:Int)) λv2=>bif Q3 ((0:Int)<v2.2) then Vm (au (⟨v2.1.b,v2.1.p⟩:ae) (v1.length:Int)) λv4=>gd (Q3<|0<=v4.2/\v4.2<(v1.length:Int)) <|Vm (gu<|J v1 v4.2) λv6=>QZ ((⟨v4.1.b,v4.1.p⟩:ae),v6.1) else Vm (Vm (au (⟨v2.1.b,v2.1.p⟩:ae) (2:Int)) λv8=>gd (QF .i64<|(1:Int)+v8.2) <|aB mb (v8.1.b,v8.1.p,([]:List ah),((1:Int)+v8.2))) λs7=>QZ ((⟨s7.1,s7.2.1⟩:ae),s7.2.2)
def iD (v3:ae×Int):LS (List ah) ((LI)×Int×(List ah)×(List ah)):=λs15=>bif Q3 ((s15.length:Int)<=(5:Int)) then gd (Q3<|0<=(0:Int)/\(0:Int)<(s15.length:Int)) <|gd (bq (s15.length+1) 56) <|QZ (.inl<|s15++[(s15.getD ((0:Int).toNat) QW)]) else QZ (.inr (v3.1.b,v3.1.p,s15,s15))
def iO (r_:ae) (m:List ah):Option (ae×(List ah)):= gd (bq (([]:List ah).length+m.length) 56) <|Vm (Vm (au (⟨r_.b,r_.p⟩:ae) (24:Int)) λv3=>bif (v3.2==(0:Int)) then Vm (aI (⟨v3.1.b,v3.1.p⟩:ae) ([(0:Int),(4:Int),(2:Int)]:LI)) λv5=>gd (Q3<|0<=(0:Int)/\(0:Int)<(((([]:List ah)++m).length):Int)) <|QZ (v5.1.b,v5.1.p,((([]:List ah)++m).set ((0:Int).toNat)<|{ ((([]:List ah)++m).getD ((0:Int).toNat) QW) with Kind:=v5.2 }),((([]:List ah)++m).set ((0:Int).toNat)<|{ ((([]:List ah)++m).getD ((0:Int).toNat) QW) with Kind:=v5.2 })) else bif (v3.2==(1:Int)) then gd (Q3<|0<=(0:Int)/\(0:Int)<(((([]:List ah)++m).length):Int)) <|Vm (iY (⟨v3.1.b,v3.1.p⟩:ae) (⟨(((([]:List ah)++m).getD ((0:Int).toNat) QW).Expr).Op,(((([]:List ah)++m).getD ((0:Int).toNat) QW).Expr).Name,(((([]:List ah)++m).getD ((0:Int).toNat) QW).Expr).Kids⟩:aa)) λv9=>QZ (v9.1.b,v9.1.p,((([]:List ah)++m).set ((0:Int).toNat)<|{ ((([]:List ah)++m).getD ((0:Int).toNat) QW) with Expr:=v9.2 }),((([]:List ah)++m).set ((0:Int).toNat)<|{ ((([]:List ah)++m).getD ((0:Int).toNat) QW) with Expr:=v9.2 })) else bif (v3.2==(2:Int)) then QZ (v3.1.b,v3.1.p,(([]:List ah)++m),([]:List ah)) else bif (v3.2==(3:Int)) then aB (iD v3) (([]:List ah)++m) else QZ (v3.1.b,v3.1.p,(([]:List ah)++m),(([]:List ah)++m))) λs2=>QZ ((⟨s2.1,s2.2.1⟩:ae),s2.2.2.2)
def ja (code:LI):Option ((List<|List QH)×QI×(List ah)):= Vm (kx code) λv1=>Vm (pV (⟨v1.b,v1.p⟩:ae)) λv2=>Vm (nQ (⟨v2.1.b,v2.1.p⟩:ae)) λv3=>Vm (iO (⟨v3.1.b,v3.1.p⟩:ae) v3.2) λv4=>Vm (iW (⟨v4.1.b,v4.1.p⟩:ae) (⟨v2.2.2.From,v2.2.2.Order⟩:QI)) λv5=>QZ (v2.2.1,(⟨v5.2.From,v5.2.Order⟩:QI),v4.2)
def dK (code:LI):Option ((List<|List QH)×QI×(List ah)):= Vm (ja code) λv1=>QZ (v1.1,(⟨v1.2.1.From,v1.2.1.Order⟩:QI),v1.2.2)
def db (code:LI):Option Bool:= bif Q3 ((1048576:Int)<(code.length:Int)) then QZ QX else Vm (dK code) λv2=>Vm (aN v2.1 (⟨v2.2.1.From,v2.2.1.Order⟩:QI) v2.2.2) λv3=>Vm (dw v2.1 (⟨v2.2.1.From,v2.2.1.Order⟩:QI) v2.2.2) λv4=>Vm (lY v2.1 (⟨v2.2.1.From,v2.2.1.Order⟩:QI)) λv5=>Vm (bv v2.1 (⟨v2.2.1.From,v2.2.1.Order⟩:QI) v2.2.2) λv6=>Vm (bif (!decide (v3=v6)) then QZ QX else QZ (!v4.2)) λs7=>bif s7 then Vm (bv v2.1 (⟨v2.2.1.From,v2.2.1.Order⟩:QI) v2.2.2) λv10=>Vm (bif Q3 (v3=v10) then QZ (Q3<|v3=(⟨#[]⟩:BA)) else QZ QY) λs11=>QZ s11 else Vm (bif v5.2 then QZ (v4.1==(-1:Int)) else QZ QY) λs13=>Vm (bif ((Q3<|v3=(⟨#[97,108,108,111,119,101,100]⟩:BA))==s13) then QZ ((Q3<|v3=(⟨#[118,97,108,117,101,115]⟩:BA))==(!v5.2)) else QZ QY) λs15=>QZ s15
def pX (op:Int):Option Int:=
 bif (op==(1:Int)) then
  QZ (0:Int)
 else
  Vm (
   bif (op==(2:Int)) then
    QZ (op==(2:Int))
   else
    bif (op==(3:Int)) then
     QZ (op==(3:Int))
    else
     bif (op==(4:Int)) then
      QZ (op==(4:Int))
     else
      QZ (op==(5:Int))
  ) λs2=>
  bif s2 then
   QZ (2:Int)
  else
   Vm (
    bif (op==(6:Int)) then
     QZ (op==(6:Int))
    else
     QZ (op==(7:Int))
   ) λs7=>
   bif s7 then
    QZ (1:Int)
   else
    QZ (-1:Int)
theorem uI (op:Int):Le (pX op) (eD op):=by
 unfold pX eD
 solve_by_elim (maxDepth:=9999) only [*,Le.gd,Le.bif,Le.bind,Le.sumK,Le.loop,Le.nilK,Le.ifc,Le.refl]
def r9:Option (List BA):=
 QZ ([(⟨#[112,111]⟩:BA),(⟨#[108,111,99]⟩:BA),(⟨#[101,120,116]⟩:BA),(⟨#[114,102]⟩:BA),(⟨#[99,111]⟩:BA),(⟨#[102,114]⟩:BA),(⟨#[102,101,110,99,101]⟩:BA),(⟨#[119,114]⟩:BA),(⟨#[119,119]⟩:BA),(⟨#[105,100]⟩:BA)]:List BA)
theorem zt:Le (r9 ) (dm ):=by
 unfold r9 dm
 solve_by_elim (maxDepth:=9999) only [*,Le.gd,Le.bif,Le.bind,Le.sumK,Le.loop,Le.nilK,Le.ifc,Le.refl]
def m9 (s:BA) (v1:(List BA)):Int->Option (Int ⊕ (Unit ⊕ Bool)):=λs5=>
 bif Q3 (s5<(v1.length:Int)) then
  gd (Q3<|0<=s5/\s5<(v1.length:Int)) <|
  bif Q3 ((v1.getD s5.toNat QW)=s) then
   QZ (.inr<|.inr QX)
  else
   gd (QF .i64<|s5+(1:Int)) <|
   QZ (.inl<|s5+(1:Int))
 else
  QZ (.inr<|.inl ())
theorem wE (s:BA) (v1:(List BA)) (sQ:_):Le (m9 s v1 sQ) (jo s v1 sQ):=by
 unfold m9 jo J
 solve_by_elim (maxDepth:=9999) only [*,Le.gd,Le.bif,Le.bind,Le.sumK,Le.loop,Le.nilK,Le.ifc,Le.refl]
def sj (s:BA):Option Bool:=
 Vm (r9 ) λv1=>
 sumK (
  mJ 200 (m9 s v1) (0:Int)
 ) λs2=>
 QZ QY
theorem zu (s:BA):Le (sj s) (fo s):=by
 unfold sj fo
 solve_by_elim (maxDepth:=9999) only [*,zt,wE,Le.gd,Le.bif,Le.bind,Le.sumK,Le.loop,Le.nilK,Le.ifc,Le.refl]
def mf (rcf:aa->Int->Option Bool) (e_:aa) (depth:Int):Int->Option (Int ⊕ (Unit ⊕ Bool)):=λs13=>
 bif Q3 (s13<(e_.Kids.length:Int)) then
  gd (Q3<|0<=s13/\s13<(e_.Kids.length:Int)) <|
  gd (QF .i64<|depth-(1:Int)) <|
  Vm (rcf ((e_.Kids.getD s13.toNat QW).out)<|depth-(1:Int)) λv18=>
  bif !v18 then
   QZ (.inr<|.inr QY)
  else
   gd (QF .i64<|s13+(1:Int)) <|
   QZ (.inl<|s13+(1:Int))
 else
  QZ (.inr<|.inl ())
theorem vH (rcf:aa->Int->Option Bool) (Ad:aa->Int->Option Bool) (hrcf:∀ x0 x1,Le (rcf x0 x1)<|Ad x0 x1) (e_:aa) (depth:Int) (sQ:_):Le (mf rcf e_ depth sQ) (iL Ad e_ depth sQ):=by
 unfold mf iL J
 solve_by_elim (maxDepth:=9999) only [*,hrcf,Le.gd,Le.bif,Le.bind,Le.sumK,Le.loop,Le.nilK,Le.ifc,Le.refl]
def oz (rcf:aa->Int->Option Bool) (e_:aa) (depth:Int):Option Bool:=
 sumK (
  Vm (
   bif Q3 (depth<(1:Int)) then
    QZ QX
   else
    Vm (pX e_.Op) λv4=>
    bif ((e_.Kids.length:Int) != v4) then
     QZ QX
    else
     Vm (sj e_.Name) λv6=>
     bif (!((e_.Op==(1:Int))==v6)) then
      QZ QX
     else
      bif (e_.Op != (1:Int)) then
       QZ (!decide (e_.Name=(⟨#[]⟩:BA)))
      else
       QZ QY
  ) λs2=>
  bif s2 then
   QZ (.inr QY)
  else
   QZ (.inl ())
 ) λs1=>
 sumK (
  mJ 200 (mf rcf e_ depth) (0:Int)
 ) λs10=>
 QZ QX
theorem xp (rcf:aa->Int->Option Bool) (Ad:aa->Int->Option Bool) (hrcf:∀ x0 x1,Le (rcf x0 x1)<|Ad x0 x1) (e_:aa) (depth:Int):Le (oz rcf e_ depth) (dQ Ad e_ depth):=by
 unfold oz dQ
 solve_by_elim (maxDepth:=9999) only [*,uI,zu,vH,hrcf,Le.gd,Le.bif,Le.bind,Le.sumK,Le.loop,Le.nilK,Le.ifc,Le.refl]
def oD:Nat->aa->Int->Option Bool
 | 0=>λ_ _=>Q0
 | n+1=>oz (oD n)
def wU (e_:aa) (depth:Int):Option Bool:=oD 40 e_ depth
theorem qF:∀ (n m:Nat),n<=m->∀ x0 x1,Le (oD n x0 x1) (cT m x0 x1)
 | 0,_,_=>λx0 x1 v h=>by cases h
 | n+1,0,h=>absurd h (VX _)
 | n+1,m+1,h=>λx0 x1=>xp _ _ (qF n m<|VY h) x0 x1
theorem zw (e_:aa) (depth:Int):Le (wU e_ depth) (rQ e_ depth):=λv h=>vp 40 λm hm=>qF 40 m hm e_ depth v h
def ng (rcf:aa->Int->Option Int) (e_:aa) (most:Int):(Int×Int)->Option ((Int×Int) ⊕ Int):=λs4=>
 Vm (bif Q3 (s4.1<(e_.Kids.length:Int)) then
  QZ (Q3<|s4.2<=most)
 else
  QZ QY
 ) λs6=>
 bif s6 then
  gd (Q3<|0<=s4.1/\s4.1<(e_.Kids.length:Int)) <|
  gd (QF .i64<|most-s4.2) <|
  Vm (rcf ((e_.Kids.getD s4.1.toNat QW).out)<|most-s4.2) λv11=>
  gd (QF .i64<|s4.2+v11) <|
  gd (QF .i64<|s4.1+(1:Int)) <|
  QZ (.inl ((s4.1+(1:Int)),(s4.2+v11)))
 else
  QZ (.inr s4.2)
theorem wF (rcf:aa->Int->Option Int) (Ad:aa->Int->Option Int) (hrcf:∀ x0 x1,Le (rcf x0 x1)<|Ad x0 x1) (e_:aa) (most:Int) (sQ:_):Le (ng rcf e_ most sQ) (jp Ad e_ most sQ):=by
 unfold ng jp J
 solve_by_elim (maxDepth:=9999) only [*,hrcf,Le.gd,Le.bif,Le.bind,Le.sumK,Le.loop,Le.nilK,Le.ifc,Le.refl]
def oF (rcf:aa->Int->Option Int) (e_:aa) (most:Int):Option Int:=
 Vm (
  mJ 200 (ng rcf e_ most) ((0:Int),(1:Int))
 ) λs1=>
 QZ s1
theorem xq (rcf:aa->Int->Option Int) (Ad:aa->Int->Option Int) (hrcf:∀ x0 x1,Le (rcf x0 x1)<|Ad x0 x1) (e_:aa) (most:Int):Le (oF rcf e_ most) (dR Ad e_ most):=by
 unfold oF dR
 solve_by_elim (maxDepth:=9999) only [*,wF,hrcf,Le.gd,Le.bif,Le.bind,Le.sumK,Le.loop,Le.nilK,Le.ifc,Le.refl]
def oH:Nat->aa->Int->Option Int
 | 0=>λ_ _=>Q0
 | n+1=>oF (oH n)
def wV (e_:aa) (most:Int):Option Int:=oH 40 e_ most
theorem qG:∀ (n m:Nat),n<=m->∀ x0 x1,Le (oH n x0 x1) (cV m x0 x1)
 | 0,_,_=>λx0 x1 v h=>by cases h
 | n+1,0,h=>absurd h (VX _)
 | n+1,m+1,h=>λx0 x1=>xq _ _ (qG n m<|VY h) x0 x1
theorem zx (e_:aa) (most:Int):Le (wV e_ most) (rR e_ most):=λv h=>vp 40 λm hm=>qG 40 m hm e_ most v h
def gW (e_:aa):Option Bool:=
 Vm (wU e_ (12:Int)) λv1=>
 Vm (bif v1 then
  Vm (wV e_ (40:Int)) λv4=>
  QZ (Q3<|v4<=(40:Int))
 else
  QZ QY
 ) λs2=>
 QZ s2
theorem mK (e_:aa):Le (gW e_) (bJ e_):=by
 unfold gW bJ
 solve_by_elim (maxDepth:=9999) only [*,zw,zx,Le.gd,Le.bif,Le.bind,Le.sumK,Le.loop,Le.nilK,Le.ifc,Le.refl]
def j5 (m:List ah):Int->Option (Int ⊕ (Unit ⊕ Bool)):=λs4=>
 Vm (bif Q3 (s4<(m.length:Int)) then
  QZ (Q3<|s4<=(5:Int))
 else
  QZ QY
 ) λs6=>
 bif s6 then
  gd (Q3<|0<=s4/\s4<(m.length:Int)) <|
  Vm (bif Q3 (((m.getD s4.toNat QW).Kind)<(1:Int)) then
   QZ QX
  else
   QZ (Q3<|(3:Int)<((m.getD s4.toNat QW).Kind))
  ) λs10=>
  Vm (bif s10 then
   QZ QX
  else
   Vm (gW<|(m.getD s4.toNat QW).Expr) λv14=>
   QZ (!v14)
  ) λs12=>
  bif s12 then
   QZ (.inr<|.inr QY)
  else
   gd (QF .i64<|s4+(1:Int)) <|
   QZ (.inl<|s4+(1:Int))
 else
  QZ (.inr<|.inl ())
theorem uj (m:List ah) (sQ:_):Le (j5 m sQ) (fI m sQ):=by
 unfold j5 fI J
 solve_by_elim (maxDepth:=9999) only [*,mK,Le.gd,Le.bif,Le.bind,Le.sumK,Le.loop,Le.nilK,Le.ifc,Le.refl]
def ni (m:List ah):Option Bool:=
 sumK (
  mJ 200 (j5 m) (0:Int)
 ) λs1=>
 Vm (bif Q3 ((0:Int)<(m.length:Int)) then
  QZ (Q3<|(m.length:Int)<=(5:Int))
 else
  QZ QY
 ) λs17=>
 QZ s17
theorem wG (m:List ah):Le (ni m) (cg m):=by
 unfold ni cg
 solve_by_elim (maxDepth:=9999) only [*,uj,Le.gd,Le.bif,Le.bind,Le.sumK,Le.loop,Le.nilK,Le.ifc,Le.refl]
def oJ (s:BA) (c:Int):((List BA)×Int×Int)->Option (((List BA)×Int×Int) ⊕ (List BA)):=λs5=>
 bif Q3 (s5.2.1<=(s.size:Int)) then
  Vm (
   Vm (bif (s5.2.1==(s.size:Int)) then
    QZ QX
   else
    gd (Q3<|0<=s5.2.1/\s5.2.1<(s.size:Int)) <|
    QZ (((s.data.getD s5.2.1.toNat 0).toNat:Int)==c)
   ) λs10=>
   bif s10 then
    gd (Q3<|0<=s5.2.2/\s5.2.2<=s5.2.1/\s5.2.1<=(s.size:Int)) <|
    gd (bq (s5.1.length+1) 16) <|
    gd (QF .i64<|s5.2.1+(1:Int)) <|
    QZ ((s5.1++[(s.extract s5.2.2.toNat s5.2.1.toNat)]),(s5.2.1+(1:Int)))
   else
    QZ (s5.1,s5.2.2)
  ) λs9=>
  gd (QF .i64<|s5.2.1+(1:Int)) <|
  QZ (.inl (s9.1,(s5.2.1+(1:Int)),s9.2))
 else
  QZ (.inr s5.1)
theorem xu (s:BA) (c:Int) (sQ:_):Le (oJ s c sQ) (il s c sQ):=by
 unfold oJ il
 solve_by_elim (maxDepth:=9999) only [*,Le.gd,Le.bif,Le.bind,Le.sumK,Le.loop,Le.nilK,Le.ifc,Le.refl]
def pY (s:BA) (c:Int):Option (List BA):=
 Vm (
  mJ 200 (oJ s c) (([]:List BA),(0:Int),(0:Int))
 ) λs1=>
 QZ s1
theorem uJ (s:BA) (c:Int):Le (pY s c) (dh s c):=by
 unfold pY dh
 solve_by_elim (maxDepth:=9999) only [*,xu,Le.gd,Le.bif,Le.bind,Le.sumK,Le.loop,Le.nilK,Le.ifc,Le.refl]
end
end Go.Proofs.YtabfkkjdfhbngaaGreatDoor
