/- Texts joined. No conditions. -/
import Derived.Test.YtabfkkjdfhbngaaGreatDoorV7
namespace Go.Proofs.YtabfkkjdfhbngaaGreatDoor
noncomputable section
open _root_.Inhabited renaming default -> QW
open _root_.Bool renaming true -> QX
open _root_.Bool renaming false -> QY
open _root_.Option renaming some -> QZ
open _root_.Decidable renaming decide -> Q3
open _root_.Option renaming bind -> UX
open _root_.Bool renaming true_and -> UY, false_and -> U9, eq_iff_iff -> Va
open _root_.List renaming mem_cons_self -> UZ, replicate -> U0, mem_singleton -> U1, length_take -> U3, range -> U4, getElem_of_mem -> U5, idxOf_lt_length_of_mem -> U8, length_drop -> Vb, mem_range -> Ve, mem_cons -> Vf, range_succ -> Vg, map_append -> Vh, countP_singleton -> Vl
open _root_.Nat renaming and_le_left -> U2, pow_lt_pow_right -> Vd
open _root_.Int renaming lt_irrefl -> U6, toNat_of_nonneg -> Vi
open _root_.BitVec renaming ofInt -> U7, ofInt_natCast -> Vj, toNat_ofNat -> Vk
open Go.RowKit
set_option maxRecDepth 100000
theorem JK {l:LI} (hl:l.length<=4000000) (n:Int):QM (aZ l n) (· = plc l n):=by
 unfold aZ;refine QM.sum (PS:=λ_=>n∉l) (PW:=(· = plc l n)) ?_ λ_ hn => .pure (by unfold plc;simp_all);refine QM.loop (λz=>∃ i:Nat,i<=l.length/\z=(i:Int)/\∀ j,j<i->l.getD j QW≠n) (λz=>((l.length:Int)-z).toNat) ⟨0,by omega,rfl,λj hj=>by omega⟩ λz ⟨i,h1,h2,h3⟩ => ?_;subst h2;unfold eZ J;refine .bifD (λhk => .gdD ⟨by omega,hk⟩<|.bif (λhe => .pure ?_) λhe => .gdI (by omega)<|.pure ⟨⟨i+1,by omega,rfl,λj hj=>?_⟩,by omega⟩) λhk => .pure ?_
 ·simp only [tnn,beq_iff_eq] at he;have hi:i<l.length:=by omega
  have hm:n∈l:=by rw [he];exact vB hi
  show (i:Int)=plc l n;unfold plc;rw [if_pos hm]
  congr 1
  have h4:=U8 hm;rcases Nat.lt_trichotomy i (l.idxOf n) with h5 | h5 | h5
  ·exfalso;have : l.idxOf n<=i:=by
    have e:l=l.take i++l.drop i:=(List.take_append_drop i l).symm;rw [e,List.idxOf_append]
    split
    ·have := U8 (by assumption:n∈l.take i);rw [U3] at this;omega
    rw [List.drop_eq_getElem_cons hi,show l[i]=n by rw [he,gdq,geq hi];rfl,List.idxOf_cons_self,U3];omega
   omega
  ·exact h5
  grind
 ·grind
 intro hm;have h4:=U8 hm
 grind
def mG (e:QJ) (w:Bool):Bool:=(e.aH==w) && !(e.Reads==w)
theorem G9 (e:QJ) (w:Bool):QM (bZ e w) (· = mG e w):=by
 unfold bZ;exact QM.bind (P:=(· = mG e w)) (.bif (λh => .pure<|by unfold mG;simp_all) λh => .pure<|by unfold mG;simp_all) λv hv => .pure hv
def Ik (l:List QH):Bool:=l.any λy=>y.Op==4
theorem OB {l:List QH} (hl:l.length<=4000000):QM (az l) (· = Ik l):=by
 unfold az aG;refine QM.bind (P:=λv:Int=>(0<=v↔Ik l=QX)) ?_ λv hv => .pure ?_
 ·refine QM.sum (PS:=λ_=>Ik l=QY) (PW:=λv:Int=>(0<=v↔Ik l=QX)) ?_ λ_ hn => .pure (by rw [hn];simp);refine QM.loop (λz=>∃ i:Nat,i<=l.length/\z=(i:Int)/\∀ j,j<i->((l.getD j QW).Op==4)=QY) (λz=>((l.length:Int)-z).toNat) ⟨0,by omega,rfl,λj hj=>by omega⟩ λz ⟨i,h1,h2,h3⟩ => ?_;subst h2;unfold aT qo J;simp only [tnn];refine .bifD (λhk => .gdD ⟨by omega,hk⟩ (QM.bind (P:=(· = ((l.getD i QW).Op==4))) (.pure rfl) λv hv => .bif (λhe => .pure ⟨λ_=>?_,λ_=>by omega⟩) λhe => .gdI (by omega)<|.pure ⟨⟨i+1,by omega,rfl,λj hj=>?_⟩,by omega⟩)) λhk => .pure ?_
  ·unfold Ik;rw [List.any_eq_true];exact ⟨l.getD i QW,getD_in (by omega),by rw [<- hv];exact he⟩
  ·by_cases e:j=i
   ·subst e;rw [<- hv];exact he
   exact h3 j (by omega)
  show Ik l=QY;unfold Ik;rw [List.any_eq_false];intro y hy;obtain ⟨j,hj,rfl⟩:=U5 hy;have := h3 j (by omega);rw [gdq,geq hj] at this;rw [show l[j]=(QZ l[j]).getD QW from rfl,this]
  decide
 simp_all
section
variable {p:List (List QH)} {x:XS} {F:LI}
def K9 (p:List<|List QH) (i k:Int):Bool:=poB p i k&&Ik (((p.getD (ev p i).Thread.toNat QW).drop (ev p i).Index.toNat).take<|(ev p k).Index.toNat-(ev p i).Index.toNat)
def Qd (p:List<|List QH) (i k:Int):Bool:=Q3<|(ev p i).Loc=(ev p k).Loc
def NP (p:List<|List QH) (i k:Int):Bool:=Q3 ((ev p i).Thread≠(ev p k).Thread)||Q3 ((ev p i).Thread<0)
def nmR (p:List<|List QH) (x:XS) (nm:BA):Int->Int->Bool:=
 if nm=⟨#[112,111]⟩ then poB p else if nm=⟨#[108,111,99]⟩ then Qd p else if nm=⟨#[101,120,116]⟩ then NP p else if nm=⟨#[114,102]⟩ then rfB p x else
 if nm=⟨#[99,111]⟩ then coB p x else if nm=⟨#[102,114]⟩ then frB p x else if nm=⟨#[102,101,110,99,101]⟩ then K9 p else
 if nm=⟨#[119,114]⟩ then (λi k=>mG (ev p i) QX&&mG (ev p k) QY) else if nm=⟨#[119,119]⟩ then (λi k=>mG (ev p i) QX&&mG (ev p k) QX) else λi k=>Q3 (i=k)
theorem JL {l:LI} {n:Int}:0<=plc l n↔n∈l:=by
 unfold plc
 grind
theorem Ha (hX:XOk p x) {l:Int} (hl:0<=l/\l<=2) (i k:Int):QM (cZ ⟨x.1,x.2⟩ l i k) (· = (Q3 (i∈od x l)&&Q3 (k∈od x l)&&Q3 (plc (od x l) i<plc (od x l) k))):=by
 unfold cZ J;refine .gdD ⟨hl.1,by simp only [];rw [hX.o];omega⟩ ((JK (hX.r _) i).bind λv hv=>(JK (hX.r _) k).bind λw hw=>?_);change v=plc (od x l) i at hv;change w=plc (od x l) k at hw;subst hv hw;refine QM.bind (P:=(· = (Q3 (i∈od x l)&&Q3 (k∈od x l)))) (.bifD (λh => .pure ?_) λh => .pure ?_) λv hv=>QM.bind (P:=(· = (Q3 (i∈od x l)&&Q3 (k∈od x l)&&Q3 (plc (od x l) i<plc (od x l) k)))) (.bif (λh => .pure ?_) λh => .pure ?_) λv hv => .pure hv
 ·rw [decide_eq_true (JL.1 h),UY];exact decide_eq_decide.2 JL
 ·rw [decide_eq_false λe=>h (JL.2 e)]
  rfl
 ·rw [<- hv,h,UY]
 simp_all
theorem OC (hp:PV p) (C:Cand p x F) {i k:Nat} (hi:i<(evs p).length) (hk:k<(evs p).length) (nm:BA) (hn:nm∈Bh):QM (pI p ⟨x.1,x.2⟩ (evs p) nm (i:Int) (k:Int)) (· = nmR p x nm i k):=by
 have ei:(evs p).getD i QW=ev p (i:Int):=by unfold ev;rw [tnn]
 have ek:(evs p).getD k QW=ev p (k:Int):=by unfold ev;rw [tnn]
 have hl:=tj hp (n:=(i:Int)) (by omega) (by omega);have hX:=Qc hp C;have hiF:(i:Int)∈F:=(C.mem _).2 ⟨by omega,by omega⟩;have hkF:(k:Int)∈F:=(C.mem _).2 ⟨by omega,by omega⟩;unfold pI J;simp only [tnn,ei,ek];refine .gdD ⟨by omega,by omega⟩ (.gdD ⟨by omega,by omega⟩ (QM.bind (P:=(· = (Q3 (0<=(ev p i).Thread)&&Q3 ((ev p i).Thread=(ev p k).Thread)))) (.bifD (λh => .pure ?_) λh => .pure ?_) λsame hs=>QM.bind (P:=(· = poB p i k)) (.bif (λh => .pure ?_) λh => .pure ?_) λpo hpo=>?_))
 ·rw [decide_eq_true h,UY];exact KC _ _
 ·rw [decide_eq_false h];rfl
 ·unfold poB;rw [Bool.and_comm (Q3<|(ev p i).Thread=(ev p k).Thread),<- hs,h,UY]
 ·unfold poB;rw [Bool.and_comm (Q3<|(ev p i).Thread=(ev p k).Thread),<- hs,h,U9]
 subst hpo;clear hs;have hn':nm=⟨#[112,111]⟩\/nm=⟨#[108,111,99]⟩\/nm=⟨#[101,120,116]⟩\/nm=⟨#[114,102]⟩\/nm=⟨#[99,111]⟩\/nm=⟨#[102,114]⟩\/nm=⟨#[102,101,110,99,101]⟩\/nm=⟨#[119,114]⟩\/nm=⟨#[119,119]⟩\/nm=⟨#[105,100]⟩:=by
  simpa [Bh] using hn
 rcases hn' with rfl | rfl | rfl | rfl | rfl | rfl | rfl | rfl | rfl | rfl
 ·exact QM.sumR<|.bif (λ_ => .pure rfl) λh=>absurd h (by decide)
 ·exact QM.sumR<|.bif (λh=>absurd h<|by decide) λ_ => .bif (λ_ => .pure<|congrArg Sum.inr<|KC _ _) λh=>absurd h (by decide)
 ·refine QM.sumR<|.bif (λh=>absurd h<|by decide) λ_ => .bif (λh=>absurd h<|by decide) λ_ => .bif (λ_=>?_) λh=>absurd h (by decide);refine QM.bind (P:=(· = NP p i k)) (.bif (λh => .pure ?_) λh => .pure ?_) λv hv => .pure<|congrArg Sum.inr hv
  ·unfold NP;rw [decide_eq_true (show (ev p i).Thread≠(ev p k).Thread by simpa using h)]
   rfl
  unfold NP;rw [decide_eq_false (show ¬ (ev p i).Thread≠(ev p k).Thread by simpa using h)]
  rfl
 ·refine QM.sumR<|.bif (λh=>absurd h<|by decide) λ_ => .bif (λh=>absurd h<|by decide) λ_ => .bif (λh=>absurd h<|by decide) λ_ => .bif (λ_=>?_) λh=>absurd h (by decide);refine .gdD ⟨by omega,by show _<((x.1.length:Nat):Int);rw [C.flen];omega⟩ (.pure<|congrArg Sum.inr ?_);show (x.1.getD k QW==(i:Int))=rfB p x i k;unfold rfB;rw [tnn,KC]
  cases hr:(ev p (k:Int)).Reads with
  | true=>rw [UY]
  | false=>
   have := C.frN _ hkF hr;rw [tnn] at this;rw [this,U9];exact decide_eq_false (by omega)
 ·refine QM.sumR<|.bif (λh=>absurd h<|by decide) λ_ => .bif (λh=>absurd h<|by decide) λ_ => .bif (λh=>absurd h<|by decide) λ_ => .bif (λh=>absurd h<|by decide) λ_ => .bif (λ_=>?_) λh=>absurd h (by decide);refine (Ha hX hl i k).bind λv hv => .pure<|congrArg Sum.inr ?_;show v=coB p x i k;rw [hv];unfold coB
  congr 1
  have O:=C.ods _ hl;rw [Va];simp only [bae,dte]
  constructor
  ·rintro ⟨h1,h2⟩;exact ⟨⟨((O.mem _).1 h1).2.1,((O.mem _).1 h2).2.1⟩,((O.mem _).1 h2).2.2.symm⟩
  rintro ⟨⟨h1,h2⟩,h3⟩;exact ⟨(O.mem _).2 ⟨hiF,h1,rfl⟩,(O.mem _).2 ⟨hkF,h2,h3.symm⟩⟩
 ·refine QM.sumR<|.bif (λh=>absurd h<|by decide) λ_ => .bif (λh=>absurd h<|by decide) λ_ => .bif (λh=>absurd h<|by decide) λ_ => .bif (λh=>absurd h<|by decide) λ_ => .bif (λh=>absurd h<|by decide) λ_ => .bif (λ_=>?_) λh=>absurd h (by decide);refine QM.bind (P:=(· = frB p x i k)) (.bif (λh1 => .bif (λh2 => .bif (λh3 => .gdD ⟨by omega,by show _<((x.1.length:Nat):Int);rw [C.flen];omega⟩<|(Ha hX hl _ _).bind λv hv => .pure ?_) λh3 => .pure ?_) λh2 => .pure ?_) λh1 => .pure ?_) λv hv => .pure (congrArg Sum.inr hv)
  ·have h3 : ¬ (i:Int)=(k:Int):=by simpa using h3
   have O:=C.ods _ hl;rw [hv];unfold frB;have hrd:=C.rdc _ hiF h1;rw [tnn] at hrd ⊢;rw [h1,h2,decide_eq_false h3,decide_eq_true hrd];simp only [Bool.and_self,UY,Bool.not_false,Bool.and_true]
   congr 1
   refine decide_eq_decide.2 ⟨λh=>((O.mem _).1 h).2.2.symm,λh=>(O.mem _).2 ⟨hkF,h2,h.symm⟩⟩
  ·have h3:(i:Int)=(k:Int):=by simpa using h3
   unfold frB;rw [decide_eq_true h3];simp
  ·unfold frB;rw [h2];simp
  unfold frB;rw [h1];simp
 ·refine QM.sumR<|.bif (λh=>absurd h<|by decide) λ_ => .bif (λh=>absurd h<|by decide) λ_ => .bif (λh=>absurd h<|by decide) λ_ => .bif (λh=>absurd h<|by decide) λ_ => .bif (λh=>absurd h<|by decide) λ_ => .bif (λh=>absurd h<|by decide) λ_ => .bif (λ_=>?_) λh=>absurd h (by decide);refine QM.bind (P:=(· = K9 p i k)) (.bif (λh=>?_) λh => .pure<|by unfold K9;rw [h];rfl) λv hv => .pure (congrArg Sum.inr hv);have hpo:=h;unfold poB at h;simp only [bae,dte] at h;obtain ⟨⟨h1,h2⟩,h3⟩:=h;rcases Bi (p:=p) (n:=(k:Int)) (by omega) (by omega) with hc | ⟨t,q,hI,e⟩
  ·exfalso;have : (ev p (k:Int)).Thread = -1:=by
    rw [show (k:Int)=((k:Nat):Int) from rfl,(xg (p:=p) (l:=k)<|by omega).1]
   omega
  rcases Bi (p:=p) (n:=(i:Int)) (by omega) (by omega) with hc | ⟨t',q',hI',e'⟩
  ·exfalso;have : (ev p (i:Int)).Thread = -1:=by
    rw [(xg (p:=p) (l:=i)<|by omega).1]
   omega
  have a1:=(hI.ev (p:=p)).1;have a2:=(hI'.ev (p:=p)).1;rw [<- e] at a1;rw [<- e'] at a2;rw [a1,a2] at h1 h3;simp only at h1 h3;have ht:t'=t:=by omega
  subst ht;have hlen:=hI.k;refine .gdD ⟨by rw [a2];simp only [];omega,by rw [a2];simp only [];have := hI'.t;omega⟩ (.gdD ⟨by rw [a2];simp only [];omega,by rw [a1,a2];simp only [];omega,by rw [a1,a2];simp only [];rw [tnn];omega⟩<|(OB ?_).bind λv hv => .pure ?_)
  ·have := hp.vs.2 t';rw [a2];simp only [U3,Vb,tnn];omega
  rw [hv];unfold K9;rw [hpo,UY]
 ·refine QM.sumR<|.bif (λh=>absurd h<|by decide) λ_ => .bif (λh=>absurd h<|by decide) λ_ => .bif (λh=>absurd h<|by decide) λ_ => .bif (λh=>absurd h<|by decide) λ_ => .bif (λh=>absurd h<|by decide) λ_ => .bif (λh=>absurd h<|by decide) λ_ => .bif (λh=>absurd h<|by decide) λ_ => .bif (λ_=>?_) λh=>absurd h (by decide);refine (G9 _ _).bind λv hv=>QM.bind (P:=(· = (mG (ev p i) QX&&mG (ev p k) QY))) (.bif (λh=>(G9 _ _).bind λw hw => .pure ?_) λh => .pure ?_) λv hv => .pure<|congrArg Sum.inr hv
  ·have e:mG (ev p i) QX=QX:=hv.symm.trans h;show w=(mG (ev p i) QX&&mG (ev p k) QY);rw [e];exact hw
  have e:mG (ev p i) QX=QY:=hv.symm.trans h;show QY=(mG (ev p i) QX&&mG (ev p k) QY);rw [e]
  rfl
 ·refine QM.sumR<|.bif (λh=>absurd h<|by decide) λ_ => .bif (λh=>absurd h<|by decide) λ_ => .bif (λh=>absurd h<|by decide) λ_ => .bif (λh=>absurd h<|by decide) λ_ => .bif (λh=>absurd h<|by decide) λ_ => .bif (λh=>absurd h<|by decide) λ_ => .bif (λh=>absurd h<|by decide) λ_ => .bif (λh=>absurd h<|by decide) λ_ => .bif (λ_=>?_) λh=>absurd h (by decide);refine (G9 _ _).bind λv hv=>QM.bind (P:=(· = (mG (ev p i) QX&&mG (ev p k) QX))) (.bif (λh=>(G9 _ _).bind λw hw => .pure ?_) λh => .pure ?_) λv hv => .pure<|congrArg Sum.inr hv
  ·have e:mG (ev p i) QX=QX:=hv.symm.trans h;show w=(mG (ev p i) QX&&mG (ev p k) QX);rw [e];exact hw
  have e:mG (ev p i) QX=QY:=hv.symm.trans h;show QY=(mG (ev p i) QX&&mG (ev p k) QX);rw [e]
  rfl
 refine QM.sum (PS:=λ_=>True) (PW:=(· = nmR p x ⟨#[105,100]⟩ i k)) (.bif (λh=>absurd h<|by decide) λ_ => .bif (λh=>absurd h<|by decide) λ_ => .bif (λh=>absurd h<|by decide) λ_ => .bif (λh=>absurd h<|by decide) λ_ => .bif (λh=>absurd h<|by decide) λ_ => .bif (λh=>absurd h<|by decide) λ_ => .bif (λh=>absurd h<|by decide) λ_ => .bif (λh=>absurd h<|by decide) λ_ => .bif (λh=>absurd h<|by decide) λ_ => .pure trivial) λ_ _ => .pure<|KC _ _
theorem OD (hp:PV p) (C:Cand p x F) {nm:BA} (hn:nm∈Bh):QM (gG p ⟨x.1,x.2⟩ nm) (· = QQ (evs p).length (nmR p x nm)):=by
 have hel:=jT hp.vs;unfold gG;refine (D5 hp.vs).bind λv1 h1=>?_;subst h1;exact QM.bind (P:=(· = QQ (evs p).length (nmR p x nm))) (E5 (by omega) (is:=λi k=>rO i k p ⟨x.1,x.2⟩ (evs p) nm) λi k hi hk=>(OC hp C hi hk nm hn).bind λv hv => .pure hv) λv hv => .pure hv
theorem LW (hv:bf (QP p)=QX):(evs p).length<=15:=by
 have h1:=Ch (p:=p) (λe=>Q3 (0<=e.Thread)||QX) wC (λt k x ho=>by simp [wC,iQ,ho]) (λx ho=>by simp [wC,iQ,ho]);rw [show (ev0.filter λe=>Q3 (0<=e.Thread)||QX).length=3 from rfl,List.filter_eq_self.2 (λa _=>by simp)] at h1;simp only [bf,sN,bae,dte] at hv;omega
end
section
variable {N:Nat} {f g:Int->Int->Bool}
theorem Il (hN:N<=60) {i k:Nat} (hi:i<N) (hk:k<N):QM (eu (QQ N f) (i:Int) (k:Int)) (· = f i k):=kY (f:=f) hN hi hk
theorem Bs {q:Nat->Int} {step:List Int×Int->Option ((List Int×Int) ⊕ LI)} (hs:∀ i:Nat,i<N->QM (step (tab i q,(i:Int))) (· = .inl (tab (i+1) q,((i+1:Nat):Int))))
  (he:QM (step (tab N q,(N:Int))) (· = .inr (tab N q))):QM (aB step (([]:LI),(0:Int))) (· = tab N q):=by
 refine QM.loop (λz=>∃ i:Nat,i<=N/\z=(tab i q,(i:Int))) (λz=>((N:Int)-z.2).toNat) ⟨0,by omega,rfl⟩ λz ⟨i,h1,h2⟩ => ?_;subst h2
 by_cases h:i<N
 ·refine (hs i h).mono λv hv=>?_;subst hv;exact ⟨⟨i+1,by omega,rfl⟩,by simp only [];omega⟩
 obtain rfl:i=N:=by omega
 exact he.mono λv hv=>by subst hv;rfl
theorem M4 (hN:N<=16):QM (nD (QQ N f)<|QQ N g) (· = QQ N λi k=>f i k||g i k):=by
 unfold nD;refine QM.bind (P:=(· = QQ N λi k=>f i k||g i k)) (Bs (λi hi=>?_) ?_) λv hv => .pure hv
 ·unfold mR J;simp only [aS,tnn];refine .bifD (λ_ => .gdD ⟨by omega,by omega⟩<|.gdD ⟨by omega,by omega⟩<|.gd (aU (by rw [vD];omega) rfl)<|.gdI (by omega)<|.pure ?_) λh=>absurd (show (i:Int)<(N:Int) by omega) h;rw [iA hi,iA hi,rU (aX<|by omega) (aX<|by omega),Dm,Bp]
  rfl
 unfold mR J;simp only [aS];exact .bifD (λh=>absurd h<|U6 _) λ_ => .pure rfl
theorem OE (hN:N<=16):QM (pJ (QQ N f)<|QQ N g) (· = QQ N λi k=>f i k&&g i k):=by
 unfold pJ;refine QM.bind (P:=(· = QQ N λi k=>f i k&&g i k)) (Bs (λi hi=>?_) ?_) λv hv => .pure hv
 ·unfold ol J;simp only [aS,tnn];refine .bifD (λ_ => .gdD ⟨by omega,by omega⟩<|.gdD ⟨by omega,by omega⟩<|.gd (aU (by rw [vD];omega) rfl)<|.gdI (by omega)<|.pure ?_) λh=>absurd (show (i:Int)<(N:Int) by omega) h;rw [iA hi,iA hi,D9 (aX<|by omega) (aX<|by omega),Jy,Bp]
  rfl
 unfold ol J;simp only [aS];exact .bifD (λh=>absurd h<|U6 _) λ_ => .pure rfl
theorem M5 (hN:N<=16):QM (nI (QQ N f)<|QQ N g) (· = QQ N λi k=>f i k && !g i k):=by
 unfold nI;refine QM.bind (P:=(· = QQ N λi k=>f i k && !g i k)) (Bs (λi hi=>?_) ?_) λv hv => .pure hv
 ·unfold jq J;simp only [aS,tnn];refine .bifD (λ_ => .gdD ⟨by omega,by omega⟩<|.gdD ⟨by omega,by omega⟩<|.gd (aU (by rw [vD];omega) rfl)<|.gdI (by omega)<|.pure ?_) λh=>absurd (show (i:Int)<(N:Int) by omega) h;rw [iA hi,iA hi,E8 _ _ (by omega),Bp]
  rfl
 unfold jq J;simp only [aS];exact .bifD (λh=>absurd h<|U6 _) λ_ => .pure rfl
theorem JM (hN:N<=16):QM (kK (QQ N f)<|QQ N g) (· = QQ N (CL f g N)):=by
 unfold kK;refine QM.bind (P:=(· = QQ N (CL f g N))) (Bs (λi hi=>?_) ?_) λv hv => .pure hv
 ·unfold kX;simp only [aS];refine .bifD (λ_=>QM.bind (P:=(· = tab (i+1) λi=>((QN (λk=>CL f g N (i:Int) (k:Int)) N:Nat):Int))) (QM.bind (P:=(· = ((QN (λk=>CL f g N (i:Int) (k:Int)) N:Nat):Int))) ?_ λv hv => .gd (aU (by rw [vD];omega) rfl)<|.pure<|by rw [Bp,hv]) λv hv => .gdI (by omega)<|.pure<|by rw [hv];rfl) λh=>absurd (show (i:Int)<(N:Int) by omega) h;refine QM.loop (λz=>∃ m:Nat,m<=N/\z=((m:Int),((QN (λk=>CL f g m (i:Int) (k:Int)) N:Nat):Int))) (λz=>((N:Int)-z.1).toNat) ⟨0,by omega,?_⟩ λz ⟨m,m1,m2⟩ => ?_
  ·exact congrArg (λn:Nat=>((0:Int),(n:Int))) ((cK (g:=λ_=>QY) λk hk=>rfl).trans<|Bq N).symm
  subst m2;unfold pg J;simp only [aS];refine .bifD (λhk=>?_) λhk => .pure (by rw [show m=N by omega]);refine QM.bind (P:=(· = ((QN (λk=>CL f g (m+1) (i:Int) (k:Int)) N:Nat):Int))) ((Il (by omega) hi<|show m<N by omega).bind λv hv => .bif (λhb => .gdD ⟨by omega,by omega⟩<|.pure ?_) λhb => .pure ?_) λv hv => .gdI (by omega)<|.pure ⟨⟨m+1,by omega,by rw [hv];rfl⟩,by simp only [];omega⟩
  ·rw [tnn,iA (by omega),rU (aX<|by omega) (aX<|by omega),Dm];refine congrArg (λn:Nat=>(n:Int))<|cK λk _=>?_;rw [yn,<- hv,hb,UY]
  refine congrArg (λn:Nat=>(n:Int))<|cK λk _=>?_;rw [yn,<- hv,hb,U9,Bool.or_false]
 unfold kX;simp only [aS];exact .bifD (λh=>absurd h<|U6 _) λ_ => .pure rfl
theorem JN (hN:N<=16):QM (kJ<|QQ N f) (· = QQ N λi k=>f k i):=by
 unfold kJ;rw [aS];refine .gdD ⟨by omega,by omega,by omega,by omega⟩ (QM.bind (P:=(· = QQ N λi k=>f k i)) ?_ λv hv => .pure hv);rw [tnn,Bn];refine QM.loop (λz=>∃ i:Nat,i<=N/\z=(tab N λj=>((QN (λm=>f (m:Int) (j:Int)) i:Nat):Int),(i:Int))) (λz=>((N:Int)-z.2).toNat) ⟨0,by omega,rfl⟩ λz ⟨i,h1,h2⟩ => ?_;subst h2;unfold qz;simp only [aS];refine .bifD (λhk=>?_) λhk => .pure (by rw [show i=N by omega];rfl);refine QM.bind (P:=(· = tab N (λj=>((QN (λm=>f (m:Int) (j:Int)) (i+1):Nat):Int)))) ?_ λv hv => .gdI (by omega)<|.pure ⟨⟨i+1,by omega,by rw [hv];rfl⟩,by simp only [];omega⟩;refine QM.loop (λz=>∃ k:Nat,k<=N/\z=(tab N λj=>((QN (λm=>f (m:Int) (j:Int)) (if j<k then i+1 else i):Nat):Int),(k:Int))) (λz=>((N:Int)-z.2).toNat) ⟨0,by omega,congrArg (λl=>(l,(0:Int)))<|f9 λj _=>by rw [if_neg (by omega)]⟩ λz ⟨k,k1,k2⟩ => ?_;subst k2;unfold o9 J;simp only [aS,vD];refine .bifD (λhkk=>?_) λhkk => .pure (f9 λj hj=>by rw [if_pos (by omega)]);refine QM.bind (P:=(· = tab N (λj=>((QN (λm=>f (m:Int) (j:Int)) (if j<k+1 then i+1 else i):Nat):Int)))) ((Il (by omega) (show i<N by omega)<|show k<N by omega).bind λv hv => .bif (λhb => .gdD ⟨by omega,by omega⟩<|.gdD (by omega)<|.pure ?_) λhb => .pure ?_) λv hv => .gdI (by omega)<|.pure ⟨⟨k+1,by omega,by rw [hv];rfl⟩,by simp only [];omega⟩
 ·rw [tnn,F9 (by omega),if_neg (by omega),Bj (by omega),rU (aX<|by omega) (by have := Vd (a:=2) (by omega) (show i<63 by omega);omega),D8];refine f9 λj _=>?_
  by_cases e:j=k
  ·subst e;rw [if_pos rfl,if_pos (by omega),QN,if_pos (by rw [<- hv];exact hb)]
  rw [if_neg e]
  by_cases e2:j<k
  ·rw [if_pos e2,if_pos (by omega)]
  rw [if_neg e2,if_neg (by omega)]
 refine f9 λj _=>?_
 by_cases e:j=k
 ·subst e;rw [if_neg (by omega),if_pos (by omega),QN,if_neg (by rw [<- hv,hb];decide)]
 by_cases e2:j<k
 ·rw [if_pos e2,if_pos (by omega)]
 rw [if_neg e2,if_neg (by omega)]
theorem JO (hN:N<=16) {m:Nat} (hk:m<N):QM (aB (jS (QQ N<|QR f m,(m:Int))) (QQ N<|QR f m,(0:Int))) (· = QQ N (QR f<|m+1)):=by
 refine QM.loop (λz=>∃ i:Nat,i<=N/\z=(QQ N (λj k=>if j<(i:Int) then QR f (m+1) j k else QR f m j k),(i:Int))) (λz=>((N:Int)-z.2).toNat) ⟨0,by omega,congrArg (λl=>(l,(0:Int)))<|kv (g:=λj k=>if j<((0:Nat):Int) then QR f (m+1) j k else QR f m j k) λj k _ _=>(if_neg<|by omega).symm⟩ λz ⟨i,i1,i2⟩ => ?_;subst i2;unfold jS J;simp only [aS];refine .bifD (λhkk=>?_) λhkk => .pure (kv λj k hj _=>by rw [if_pos (by omega)]);refine QM.bind (P:=(· = QQ N (λj k=>if j<((i+1:Nat):Int) then QR f (m+1) j k else QR f m j k))) ?_ λv hv => .gdI (by omega)<|.pure ⟨⟨i+1,by omega,by rw [hv];rfl⟩,by simp only [];omega⟩;refine (Il (by omega) (i:=i) (k:=m) (by omega)<|by omega).bind λv hv=>?_;rw [if_neg (by omega)] at hv;refine .bif (λhb=>?_) λhb => .pure<|kv λj k hj hk=>?_
 ·simp only [tnn];refine .gdD ⟨by omega,by omega⟩<|.gdD ⟨by omega,by omega⟩<|.pure ?_;rw [iA (by omega),iA (by omega),rU (aX<|by omega) (aX<|by omega),Dm];have e1:QN (λj=>(if (i:Int)<(i:Int) then QR f (m+1) (i:Int) (j:Int) else QR f m (i:Int) (j:Int))||(if (m:Int)<(i:Int) then QR f (m+1) (m:Int) (j:Int) else QR f m (m:Int) (j:Int))) N=QN (λk=>QR f (m+1) (i:Int) (k:Int)) N:=cK λk hk=>by
   rw [if_neg (by omega),JI];rw [hv] at hb;show _=(QR f m (i:Int) (k:Int)||(QR f m (i:Int) (m:Int)&&QR f m (m:Int) (k:Int)));rw [hb];simp
  rw [e1];refine Ga (g:=QR f<|m+1) i _ λj k hj hk=>?_
  by_cases e:j=i
  ·subst e;rw [if_pos (by omega),if_pos rfl]
  rw [if_neg e]
  by_cases e2:(j:Int)<(i:Int)
  ·rw [if_pos e2,if_pos (by omega)]
  rw [if_neg e2,if_neg (by omega)]
 by_cases e:(j:Int)<(i:Int)
 ·rw [if_pos e,if_pos (by omega)]
 rw [if_neg e]
 by_cases e2:j=i
 ·subst e2;rw [if_pos (by omega)];rw [hv] at hb;show _=(QR f m (j:Int) (k:Int)||(QR f m (j:Int) (m:Int)&&QR f m (m:Int) (k:Int)));rw [hb];simp
 rw [if_neg (by omega)]
theorem Fb (hN:N<=16):QM (ic<|QQ N f) (· = QQ N (QR f N)):=by
 unfold ic;refine .gd (aU (by rw [aS];simp;omega) rfl) (QM.bind (P:=(· = QQ N (QR f N))) ?_ λv hv => .pure hv);rw [List.nil_append];refine QM.loop (λz=>∃ m:Nat,m<=N/\z=(QQ N<|QR f m,(m:Int))) (λz=>((N:Int)-z.2).toNat) ⟨0,by omega,rfl⟩ λz ⟨m,h1,h2⟩ => ?_;subst h2;unfold qA;simp only [aS];refine .bifD (λhk=>?_) λhk => .pure (by rw [show m=N by omega]);refine QM.bind (P:=(· = QQ N (QR f<|m+1))) (JO hN<|by omega) λv hv => .gdI (by omega)<|.pure ⟨⟨m+1,by omega,by rw [hv];rfl⟩,by simp only [];omega⟩
theorem JP (hN:N<=16):QM (nJ<|QQ N f) (· = wT N f):=Gb hN
theorem JQ (hN:N<=16):QM (kL<|QQ N f) (· = wT N (QR f N)):=by
 unfold kL;exact (Fb hN).bind λv hv=>by subst hv;exact (JP hN).bind λw hw => .pure hw
def JR (N:Nat) (f:Int->Int->Bool):Bool:=(U4 N).all λi=>(U4 N).all λk => !f (i:Int) (k:Int)
theorem Hd:JR N f=QX↔∀ i:Nat,i<N->∀ k:Nat,k<N->f i k=QY:=by
 unfold JR;simp only [List.all_eq_true,Ve,Bool.not_eq_true']
theorem M6 (hN:N<=16):QM (nK<|QQ N f) λn=>(n==0)=JR N f:=by
 unfold nK;refine QM.bind (P:=λn:Int=>n=0↔∀ i:Nat,i<N->∀ k:Nat,k<N->f i k=QY) ?_ λv hv => .pure (by rw [Va,Hd,beq_iff_eq];exact hv);refine QM.loop (λz=>∃ i:Nat,i<=N/\z.1=(i:Int)/\0<=z.2/\z.2<=(i:Int)*16/\(z.2=0↔∀ j:Nat,j<i->∀ k:Nat,k<N->f j k=QY)) (λz=>((N:Int)-z.1).toNat) ⟨0,by omega,rfl,by simp,by simp,by simp⟩ λz ⟨i,h1,h2,h3,h4,h5⟩ => ?_;obtain ⟨zi,zn⟩:=z;simp only at h2 h3 h4 h5;subst h2;unfold sV;simp only [aS];refine .bifD (λhk=>?_) λhk => .pure (show (zn=0↔_) from (show i=N by omega) ▸ h5);refine QM.bind (P:=λn:Int=>0<=n/\n<=((i:Int)+1)*16/\(n=0↔(zn=0/\∀ k:Nat,k<N->f i k=QY))) ?_ λv ⟨v1,v2,v3⟩ => .gdI (by omega)<|.pure ⟨⟨i+1,by omega,by simp,v1,by simp only [];omega,?_⟩,by simp only [];omega⟩
 ·refine QM.loop (λz=>∃ k:Nat,k<=N/\z.1=(k:Int)/\zn<=z.2/\z.2<=zn+(k:Int)/\(z.2=0↔(zn=0/\∀ q:Nat,q<k->f i q=QY))) (λz=>((N:Int)-z.1).toNat) ⟨0,by omega,rfl,by simp,by simp,by simp⟩ λz ⟨k,k1,k2,k3,k4,k5⟩ => ?_;obtain ⟨zk,zm⟩:=z;simp only at k2 k3 k4 k5;subst k2;unfold rz;simp only [aS];refine .bifD (λhkk=>?_) λhkk => .pure ⟨by omega,by omega,show (zm=0↔_) from (show k=N by omega) ▸ k5⟩;refine QM.bind (P:=λm:Int=>zn<=m/\m<=zn+(k:Int)+1/\(m=0↔(zn=0/\∀ q:Nat,q<k+1->f i q=QY))) ((Il (by omega) (show i<N by omega)<|show k<N by omega).bind λv hv => .bif (λhb => .gdI (by omega)<|.pure ⟨by omega,by omega,λh=>by omega,λ⟨_,h⟩ => ?_⟩) λhb => .pure ⟨by omega,by omega,λh=>⟨(k5.1 h).1,λq hq=>?_⟩,λ⟨g1,g2⟩=>k5.2 ⟨g1,λq hq=>g2 q<|by omega⟩⟩) λv ⟨v1,v2,v3⟩ => .gdI (by omega)<|.pure ⟨⟨k+1,by omega,by simp,v1,by simp only [];omega,v3⟩,by simp only [];omega⟩
  ·have := h k (by omega);rw [<- hv,hb] at this
   cases this
  by_cases e:q=k
  ·subst e;rw [<- hv];exact hb
  exact (k5.1 h).2 q (by omega)
 simp only [];rw [v3,h5]
 constructor
 ·rintro ⟨g1,g2⟩ j hj k hkn
  by_cases e:j=i
  ·subst e;exact g2 k hkn
  exact g1 j (by omega) k hkn
 exact λg=>⟨λj hj=>g j (by omega),λk hk=>g i (by omega) k hk⟩
end
theorem Fc {a b:Nat} (ha:a<4294967296) (hb:b<18446744073709551616):fH .u64 (a:Int) (b:Int)=((a&&&b:Nat):Int):=by
 have hle:(a&&&b)<=a:=U2;show IntKind.wrap .u64 (((U7 64 (a:Int)&&&U7 64 (b:Int)).toNat:Nat):Int)=_;have h1:(U7 64 (a:Int)).toNat=a:=by rw [Vj,Vk];omega
 have h2:(U7 64 (b:Int)).toNat=b:=by rw [Vj,Vk];omega
 rw [BitVec.toNat_and,h1,h2];show ((a&&&b:Nat):Int) % 18446744073709551616=_;omega
theorem Dv (a k:Nat) (hk:k<=64):jw .u64 (a:Int) (k:Int)=((a / 2 ^ k:Nat):Int):=by
 show (a:Int).fdiv (2 ^ (min (k:Int).toNat 64))=_
 grind
def pcA (x:Nat):Nat:=(x / 2&&&6148914691236517205)+(x&&&6148914691236517205)
def pcB (a:Nat):Nat:=(a / 4&&&3689348814741910323)+(a&&&3689348814741910323)
def pcC (b:Nat):Nat:=b / 16+b&&&1085102592571150095
def pcD (c:Nat):Nat:=let d:=c+c / 256;let e:=d+d / 65536;e+e / 4294967296&&&127
def pc (x:Nat):Nat:=pcD<|pcC<|pcB<|pcA x
def Pz (x:Nat):Bool:=Nat.ble (pc x) 16&&((pc x==0)==(x==0))
def OG:Nat->Nat->Bool
 | 0,b=>Pz b
 | n+1,b=>OG n b&&OG n (b+2 ^ n)
theorem Cj:∀ (n b:Nat),OG n b=QX->∀ x,b<=x->x<b+2 ^ n->Pz x=QX
 | 0,b,h,x,h1,h2=>by
  rw [show x=b by omega];exact h
 | n+1,b,h,x,h1,h2=>by
  rw [OG,bae] at h;rw [Nat.pow_succ] at h2
  by_cases e:x<b+2 ^ n
  ·exact Cj n b h.1 x h1 e
  exact Cj n _ h.2 x (by omega) (by omega)
theorem La:OG 16 0=QX:=by decide +kernel
theorem PD {x:Nat} (h:x<65536):pc x<=16/\(pc x=0↔x=0):=by
 have := Cj 16 0 La x (Nat.zero_le _) (by omega);unfold Pz at this;rw [bae] at this;refine ⟨nlb this.1,?_⟩
 grind
theorem inU {n:Nat} (h:n<4294967296):QF .u64 (n:Int)=QX:=Oa ⟨by omega,by omega⟩
theorem Lb {x:Nat} (h:x<65536):QM (eB (x:Int)) (· = (pc x:Int)):=by
 unfold eB gK;refine QM.bind (P:=(· = (pc x:Int))) ?_ λv hv => .pure hv;have a1:fH .u64 (jw .u64 (x:Int) (1:Int)) (6148914691236517205:Int)+fH .u64 (x:Int) (6148914691236517205:Int)=((pcA x:Nat):Int):=by
  rw [show jw .u64 (x:Int) (1:Int)=((x / 2:Nat):Int) from Dv x 1 (by omega),show (6148914691236517205:Int)=((6148914691236517205:Nat):Int) from rfl,Fc (by omega) (by omega),Fc (by omega) (by omega)]
  rfl
 have a2:pcA x<131072:=by
  have h1:(x / 2&&&6148914691236517205)<=x / 2:=U2;have h2:(x&&&6148914691236517205)<=x:=U2;unfold pcA;omega
 generalize hA:pcA x=A at a1 a2;have b1:fH .u64 (jw .u64 (A:Int) (2:Int)) (3689348814741910323:Int)+fH .u64 (A:Int) (3689348814741910323:Int)=((pcB A:Nat):Int):=by
  rw [show jw .u64 (A:Int) (2:Int)=((A / 4:Nat):Int) from Dv A 2 (by omega),show (3689348814741910323:Int)=((3689348814741910323:Nat):Int) from rfl,Fc (by omega) (by omega),Fc (by omega) (by omega)]
  rfl
 have b2:pcB A<262144:=by
  have h1:(A / 4&&&3689348814741910323)<=A / 4:=U2;have h2:(A&&&3689348814741910323)<=A:=U2;unfold pcB;omega
 generalize hB:pcB A=B at b1 b2;have c1:jw .u64 (B:Int) (4:Int)+(B:Int)=((B / 16+B:Nat):Int):=by
  rw [show jw .u64 (B:Int) (4:Int)=((B / 16:Nat):Int) from Dv B 4 (by omega)];omega
 have c2:fH .u64 ((B / 16+B:Nat):Int) (1085102592571150095:Int)=((pcC B:Nat):Int):=by
  rw [show (1085102592571150095:Int)=((1085102592571150095:Nat):Int) from rfl,Fc (by omega) (by omega)]
  rfl
 have c3:pcC B<524288:=by
  have h1:(B / 16+B&&&1085102592571150095)<=B / 16+B:=U2;unfold pcC;omega
 generalize hC:pcC B=C at c2 c3;have d1:(C:Int)+jw .u64 (C:Int) (8:Int)=((C+C / 256:Nat):Int):=by
  rw [show jw .u64 (C:Int) (8:Int)=((C / 256:Nat):Int) from Dv C 8 (by omega)];omega
 have hp:pc x=pcD C:=by unfold pc;simp_all
 have e0:∀ D:Nat,(D:Int)+jw .u64 (D:Int) (16:Int)=((D+D / 65536:Nat):Int):=λD=>by
  rw [show jw .u64 (D:Int) (16:Int)=((D / 65536:Nat):Int) from Dv D 16 (by omega)];omega
 have e1:∀ D:Nat,(D:Int)+jw .u64 (D:Int) (32:Int)=((D+D / 4294967296:Nat):Int):=λD=>by
  rw [show jw .u64 (D:Int) (32:Int)=((D / 4294967296:Nat):Int) from Dv D 32 (by omega)];omega
 rw [a1,b1,c1];refine .gdD (by omega) (.gd (inU<|by omega) (.gdD (by omega) (.gd (inU<|by omega) (.gdD (by omega) (.gd (inU<|by omega) (QM.bind (P:=(· = ((B / 16+B:Nat):Int))) (.pure rfl) λw hw=>?_))))));subst hw;rw [c2,d1,e0,e1];refine .gdD (by omega)<|.gd (inU<|by omega)<|.gdD (by omega)<|.gd (inU<|by omega)<|.gdD (by omega)<|.gd (inU<|by omega)<|.gdI (by omega)<|.pure ?_;rw [show (127:Int)=((127:Nat):Int) from rfl,D9 (by omega) (by omega),hp]
 rfl
section
variable {N:Nat} {f g:Int->Int->Bool}
theorem Lc {q:Nat->Bool} {n:Nat}:QN q n=0↔∀ k,k<n->q k=QY:=by
 constructor
 ·intro h k hk;have := jV q n k
  simp_all
 intro h;rw [cK (g:=λ_=>QY) h,Bq]
theorem M7 (hN:N<=16):QM (lN<|QQ N f) λn=>(n==0)=JR N f:=by
 unfold lN;refine (mZ hN).bind λv hv=>?_;subst hv;refine .bif (λh=>by cases h) λ_=>?_;refine QM.bind (P:=λn:Int=>n=0↔∀ i:Nat,i<N->∀ k:Nat,k<N->f i k=QY) ?_ λv hv => .pure (by rw [Va,Hd,beq_iff_eq];exact hv);refine QM.loop (λz=>∃ i:Nat,i<=N/\z.1=(i:Int)/\0<=z.2/\z.2<=(i:Int)*16/\(z.2=0↔∀ j:Nat,j<i->∀ k:Nat,k<N->f j k=QY)) (λz=>((N:Int)-z.1).toNat) ⟨0,by omega,rfl,by simp,by simp,by simp⟩ λz ⟨i,h1,h2,h3,h4,h5⟩ => ?_;obtain ⟨zi,zn⟩:=z;simp only at h2 h3 h4 h5;subst h2;unfold rq J;simp only [aS,tnn];refine .bifD (λhk=>?_) λhk => .pure (show (zn=0↔_) from (show i=N by omega) ▸ h5);rw [iA (by omega)];have hlt:QN (λk=>f (i:Int) (k:Int)) N<65536:=Nat.lt_of_lt_of_le (G3 _ _) (by have := Nat.pow_le_pow_right (n:=2) (by omega) hN;omega);obtain ⟨p1,p2⟩:=PD hlt;refine .gdD ⟨by omega,hk⟩<|.gd (inU<|by omega)<|(Lb hlt).bind λv hv=>?_;subst hv;refine .gdI (by omega)<|.gdI (by omega)<|.pure ⟨⟨i+1,by omega,by simp,by simp only [];omega,by simp only [];omega,?_⟩,by simp only [];omega⟩;simp only [];have e:zn+(pc (QN (λk=>f (i:Int) (k:Int)) N):Int)=0↔zn=0/\QN (λk=>f (i:Int) (k:Int)) N=0:=by rw [<- p2];omega
 rw [e,h5,Lc]
 grind
def okK (kind:Int) (N:Nat) (f:Int->Int->Bool):Bool:=if kind=1 then wT N (QR f N) else if kind=2 then wT N f else JR N f
theorem Qr (hN:N<=16) (kind:Int):QM (kG kind<|QQ N f) (· = okK kind N f):=by
 unfold kG okK;refine .bif (λh=>(JJ hN).bind λv hv => .pure<|by simp_all) λh=>?_;rw [if_neg (λe=>by simp_all)];refine .bif (λh=>(Gb hN).bind λv hv => .pure<|by simp_all) λh=>?_;rw [if_neg (λe=>by simp_all)];exact (M7 hN).bind λv hv => .pure hv
theorem Qs (hN:N<=16) (kind:Int):QM (nL kind<|QQ N f) (· = okK kind N f):=by
 unfold nL okK;refine .bif (λh=>(JQ hN).bind λv hv => .pure<|by simp_all) λh=>?_;rw [if_neg (λe=>by simp_all)];refine .bif (λh=>(JP hN).bind λv hv => .pure<|by simp_all) λh=>?_;rw [if_neg (λe=>by simp_all)];exact (M6 hN).bind λv hv => .pure hv
end
section
variable {p:List (List QH)} {x:QI} {N:Nat} {base:BA->Int->Int->Bool}
def Qe (p:List<|List QH) (x:QI) (N:Nat) (base:BA->Int->Int->Bool) (d:Nat) (t:ZTE):Prop:=∀ m,d<m->QM (cJ m p x t.out) (· = QQ N (z8 base N t))
mutual
theorem LX (hN:N<=16) (hb:∀ nm∈Bh,QM (d9 p x nm) (· = QQ N (base nm))):∀ t:ZTE,VT t->∃ d,Qe p x N base d t
 | .mk op nm ks,h=>by
  rw [VT] at h;rcases h with ⟨h1,h2⟩ | ⟨h1,h2,h3⟩ | ⟨h1,h2,h3⟩
  ·refine ⟨0,λm hm=>?_⟩;obtain ⟨m,rfl⟩:∃ q,m=q+1:=⟨m-1,by omega⟩;show QM (cH (cJ m) p x ⟨op,nm,ks⟩) _;unfold cH J;simp only [];subst h1;refine .bif (λ_=>(hb nm h2).bind λv hv => .pure ?_) λh=>absurd h (by decide);rw [hv,z8,Gc,if_pos rfl]
  ·obtain ⟨d,hd⟩:=JS hN hb ks h3;obtain ⟨a,rfl⟩:=LU h2;refine ⟨d+1,λm hm=>?_⟩;obtain ⟨m,rfl⟩:∃ q,m=q+1:=⟨m-1,by omega⟩;have ha:=hd a (by simp) m (by omega);show QM (cH (cJ m) p x ⟨op,nm,[a]⟩) _;unfold cH J;simp only [];refine .bif (λh=>absurd (eq_of_beq h)<|by omega) λ_ => .gdD ⟨by decide,by simp⟩<|ha.bind λv hv=>?_;subst hv;rcases h1 with rfl | rfl
   ·refine .bif (λ_=>(JN hN).bind λv hv => .pure ?_) λh=>absurd h (by decide);rw [hv,z8,ww,ww,Gc,if_neg (by decide),if_pos rfl]
    rfl
   refine .bif (λh=>absurd h<|by decide) λ_ => .bif (λ_=>(Fb hN).bind λv hv => .pure ?_) λh=>absurd h (by decide);rw [hv,z8,ww,ww,Gc,if_neg (by decide),if_neg (by decide),if_pos rfl]
   rfl
  obtain ⟨d,hd⟩:=JS hN hb ks h3;obtain ⟨a,b,rfl⟩:=LV h2;refine ⟨d+1,λm hm=>?_⟩;obtain ⟨m,rfl⟩:∃ q,m=q+1:=⟨m-1,by omega⟩;have ha:=hd a (by simp) m (by omega);have hbb:=hd b (by simp) m (by omega);show QM (cH (cJ m) p x ⟨op,nm,[a,b]⟩) _;unfold cH J;simp only [];refine .bif (λh=>absurd (eq_of_beq h)<|by omega) λ_ => .gdD ⟨by decide,by simp⟩<|ha.bind λv hv=>?_;subst hv;refine .bif (λh=>absurd (eq_of_beq h)<|by omega) λ_ => .bif (λh=>absurd (eq_of_beq h)<|by omega) λ_ => .gdD ⟨by decide,by simp⟩<|hbb.bind λw hw=>?_;subst hw;rcases h1 with rfl | rfl | rfl | rfl
  ·refine .bif (λ_=>(M4 hN).bind λv hv => .pure ?_) λh=>absurd h (by decide);rw [hv,z8,ww,ww,ww,Gc,if_neg (by decide),if_neg (by decide),if_neg (by decide),if_pos rfl]
   rfl
  ·refine .bif (λh=>absurd h<|by decide) λ_ => .bif (λ_=>(OE hN).bind λv hv => .pure ?_) λh=>absurd h (by decide);rw [hv,z8,ww,ww,ww,Gc,if_neg (by decide),if_neg (by decide),if_neg (by decide),if_neg (by decide),if_pos rfl]
   rfl
  ·refine .bif (λh=>absurd h<|by decide) λ_ => .bif (λh=>absurd h<|by decide) λ_ => .bif (λ_=>(M5 hN).bind λv hv => .pure ?_) λh=>absurd h (by decide);rw [hv,z8,ww,ww,ww,Gc,if_neg (by decide),if_neg (by decide),if_neg (by decide),if_neg (by decide),if_neg (by decide),if_pos rfl]
   rfl
  refine .bif (λh=>absurd h<|by decide) λ_ => .bif (λh=>absurd h<|by decide) λ_ => .bif (λh=>absurd h<|by decide) λ_=>(JM hN).bind λv hv => .pure ?_;rw [hv,z8,ww,ww,ww,Gc,if_neg (by decide),if_neg (by decide),if_neg (by decide),if_neg (by decide),if_neg (by decide),if_neg (by decide)]
  rfl
theorem JS (hN:N<=16) (hb:∀ nm∈Bh,QM (d9 p x nm) (· = QQ N (base nm))):∀ l:List ZTE,VL l->∃ d,∀ t∈l,Qe p x N base d t
 | [],_=>⟨0,λt h=>by cases h⟩
 | t::l,h=>by
  rw [VL] at h;obtain ⟨d1,h1⟩:=LX hN hb t h.1;obtain ⟨d2,h2⟩:=JS hN hb l h.2;refine ⟨max d1 d2,λu hu=>?_⟩;rcases Vf.1 hu with rfl | hu
  ·exact λm hm=>h1 m (by omega)
  exact λm hm=>h2 u hu m (by omega)
end
theorem LY (hN:N<=16) (hb:∀ nm∈Bh,QM (d9 p x nm) (· = QQ N (base nm))) {t:ZTE} (h:VT t):QM (pK p x t.out) (· = QQ N (z8 base N t)):=by
 obtain ⟨d,hd⟩:=LX hN hb t h;exact pQ d hd
def okM (base:BA->Int->Int->Bool) (N:Nat) (r:ah):Bool:=okK r.Kind N<|z8 base N r.Expr.inn
def Gd (base:BA->Int->Int->Bool) (N:Nat) (m:List ah) (k:Int):Prop:=
 (k = -1/\∀ r∈m,okM base N r=QX)\/∃ i:Nat,k=(i:Int)/\i<m.length/\okM base N (m.getD i QW)=QY/\∀ j:Nat,j<i->okM base N (m.getD j QW)=QX
theorem Gd.uniq {m:List ah} {k l:Int} (h:Gd base N m k) (h':Gd base N m l):k=l:=by
 rcases h with ⟨h1,h2⟩ | ⟨i,h1,h2,h3,h4⟩ <;> rcases h' with ⟨g1,g2⟩ | ⟨j,g1,g2,g3,g4⟩
 ·omega
 ·rw [h2 _ (getD_in g2)] at g3;cases g3
 ·rw [g2 _ (getD_in h2)] at h3;cases h3
 grind
theorem OH (hN:N<=16) (hb:∀ nm∈Bh,QM (gG p x nm) (· = QQ N (base nm))) {m:List ah} (hm:∀ r∈m,VT r.Expr.inn) (hl:m.length<=1000):QM (cf p x m) λv=>Gd base N m v.1/\(0<=v.1->v.2=QQ N (z8 base N (m.getD v.1.toNat QW).Expr.inn)):=by
 unfold cf;refine QM.sum (PS:=λ_=>∀ r∈m,okM base N r=QX) (PW:=λv:Int×LI=>Gd base N m v.1/\(0<=v.1->v.2=QQ N (z8 base N (m.getD v.1.toNat QW).Expr.inn))) ?_ λ_ h => .pure ⟨.inl ⟨rfl,h⟩,λh=>absurd h<|by decide⟩;refine QM.loop (λz=>∃ i:Nat,i<=m.length/\z=(i:Int)/\∀ j:Nat,j<i->okM base N (m.getD j QW)=QX) (λz=>((m.length:Int)-z).toNat) ⟨0,by omega,rfl,λj hj=>absurd hj<|by omega⟩ λz ⟨i,h1,h2,h3⟩ => ?_;subst h2;unfold o8 J;simp only [tnn];refine .bifD (λhk=>?_) λhk => .pure λr hr=>?_
 ·refine .gdD ⟨by omega,hk⟩<|(OA hN hb (t:=(m.getD i QW).Expr.inn)<|hm _<|getD_in<|by omega).bind λv hv=>?_;subst hv;refine (Qr hN _).bind λw hw => .bif (λhf => .pure ⟨.inr ⟨i,rfl,by omega,?_,h3⟩,λ_=>by simp only [];rw [tnn]⟩) λh => .gdI (by omega) (.pure ⟨⟨i+1,by omega,rfl,λj hj=>?_⟩,by omega⟩)
  ·show okK _ _ _=QY;rw [<- hw];simpa using hf
  by_cases e:j=i
  ·subst e;show okK _ _ _=QX;rw [<- hw];simpa using h
  exact h3 j (by omega)
 obtain ⟨j,hj,rfl⟩:=U5 hr;have := h3 j (by omega);rw [gdq,geq hj] at this;exact this
theorem PE (hN:N<=16) (hb:∀ nm∈Bh,QM (d9 p x nm) (· = QQ N (base nm))) {m:List ah} (hm:∀ r∈m,VT r.Expr.inn) (hl:m.length<=1000):QM (lT p x m) (Gd base N m):=by
 unfold lT;refine QM.sum (PS:=λ_=>∀ r∈m,okM base N r=QX) (PW:=Gd base N m) ?_ λ_ h => .pure<|.inl ⟨rfl,h⟩;refine QM.loop (λz=>∃ i:Nat,i<=m.length/\z=(i:Int)/\∀ j:Nat,j<i->okM base N (m.getD j QW)=QX) (λz=>((m.length:Int)-z).toNat) ⟨0,by omega,rfl,λj hj=>absurd hj<|by omega⟩ λz ⟨i,h1,h2,h3⟩ => ?_;subst h2;unfold rA J;simp only [tnn];refine .bifD (λhk=>?_) λhk => .pure λr hr=>?_
 ·refine .gdD ⟨by omega,hk⟩<|(LY hN hb (t:=(m.getD i QW).Expr.inn)<|hm _<|getD_in<|by omega).bind λv hv=>?_;subst hv;refine (Qs hN _).bind λw hw => .bif (λhf => .pure<|.inr ⟨i,rfl,by omega,?_,h3⟩) λh => .gdI (by omega)<|.pure ⟨⟨i+1,by omega,rfl,λj hj=>?_⟩,by omega⟩
  ·show okK _ _ _=QY;rw [<- hw];simpa using hf
  by_cases e:j=i
  ·subst e;show okK _ _ _=QX;rw [<- hw];simpa using h
  exact h3 j (by omega)
 obtain ⟨j,hj,rfl⟩:=U5 hr;have := h3 j (by omega);rw [gdq,geq hj] at this;exact this
end
section
variable {N:Nat} {f:Int->Int->Bool}
def xJ (f:Int->Int->Bool) (at_:Int) (sn:Nat->Bool) (M:Nat):LI:=((U4 M).filter λ(k:Nat)=>f at_ (k:Int) && !sn k).map λ(k:Nat)=>(k:Int)
def snK (f:Int->Int->Bool) (at_:Int) (sn:Nat->Bool) (M:Nat):Nat->Bool:=λk=>sn k||(Q3 (k<M)&&f at_ (k:Int))
def rV (l:LI):Int:=l.getD (l.length-1) QW
def bfs (N:Nat) (f:Int->Int->Bool) (start:Int):Nat->LL->(Nat->Bool)->LI
 | 0,_,_=>[]
 | _+1,[],_=>[]
 | n+1,a::q,sn=>if f (rV a) start=QX then a else bfs N f start n (q++(xJ f (rV a) sn N).map λk=>a++[k]) (snK f (rV a) sn N)
theorem vE (at_:Int) (sn:Nat->Bool) (M:Nat):xJ f at_ sn (M+1)=xJ f at_ sn M++if (f at_ (M:Int) && !sn M)=QX then [(M:Int)] else []:=by
 unfold xJ;rw [Vg,List.filter_append,Vh]
 grind
def uns (N:Nat) (sn:Nat->Bool):Nat:=(U4 N).countP λk => !sn k
theorem Eb (at_:Int) (sn:Nat->Bool):∀ M:Nat,uns M (snK f at_ sn M)+(xJ f at_ sn M).length=uns M sn
 | 0=>rfl
 | M+1=>by
  have ih:=Eb at_ sn M;have e1:uns (M+1) (snK f at_ sn<|M+1)=uns M (snK f at_ sn M)+if (!(sn M||f at_ (M:Int)))=QX then 1 else 0:=by
   unfold uns;rw [Vg,List.countP_append]
   congr 1
   ·refine List.countP_congr λk hk=>?_;have hk:=Ve.1 hk;unfold snK;rw [decide_eq_true (show k<M+1 by omega),decide_eq_true hk]
   rw [Vl];unfold snK;rw [decide_eq_true (Nat.lt_succ_self M),UY]
  have e2:uns (M+1) sn=uns M sn+if (!sn M)=QX then 1 else 0:=by
   unfold uns;rw [Vg,List.countP_append,Vl]
  rw [e1,e2,vE,lla]
  grind
def wD (N:Nat) (u:Nat) (a:LI):Prop:=0<a.length/\a.length+u<=N+1/\∀ j∈a,0<=j/\j<(N:Int)
theorem wD.lst {u:Nat} {a:LI} (h:wD N u a):∃ k:Nat,k<N/\rV a=(k:Int):=by
 have hm:rV a∈a:=vB (by have := h.1;omega);obtain ⟨h0,h1⟩:=h.2.2 _ hm;exact ⟨(rV a).toNat,by omega,by omega⟩
theorem wD.ext {u v:Nat} {a:LI} (h:wD N u a) (hv:v+1<=u) {k:Nat} (hk:k<N):wD N v (a++[(k:Int)]):=by
 refine ⟨by simp,by rw [lla,List.length_singleton];have := h.2.1;omega,λj hj=>?_⟩;rcases List.mem_append.1 hj with hj | hj
 ·exact h.2.2 j hj
 simp_all
theorem Ld {at_:Int} {sn:Nat->Bool} {M:Nat} {k:Int} (h:k∈xJ f at_ sn M):∃ j:Nat,j<M/\k=(j:Int):=by
 unfold xJ at h
 grind
theorem Ec {a:LI} {q:LL} {sn:Nat->Bool} (h:∀ b∈a::q,wD N (uns N sn) b):∀ b∈q++(xJ f (rV a) sn N).map (λk=>a++[k]),wD N (uns N<|snK f (rV a) sn N) b:=by
 have hu:=Eb (f:=f) (rV a) sn N;intro b hb;rcases List.mem_append.1 hb with hb | hb
 ·have := h b<|List.mem_cons_of_mem _ hb;exact ⟨this.1,by have := this.2.1;omega,this.2.2⟩
 obtain ⟨k,hk,rfl⟩:=List.mem_map.1 hb;obtain ⟨j,hj,rfl⟩:=Ld hk;have : 0<(xJ f (rV a) sn N).length:=List.length_pos_of_mem hk;exact (h a UZ).ext (by omega) hj
theorem LZ {start:Int}:∀ (n:Nat) (q:LL) (sn:Nat->Bool),(∀ b∈q,wD N (uns N sn) b)->bfs N f start n q sn=[]\/wD N 0 (bfs N f start n q sn)
 | 0,_,_,_ => .inl rfl
 | _+1,[],_,_ => .inl rfl
 | n+1,a::q,sn,h=>by
  rw [bfs]
  split
  ·have := h a UZ;exact .inr ⟨this.1,by have := this.2.1;omega,this.2.2⟩
  exact LZ n _ _<|Ec h
theorem He {sn:Nat->Bool} (hN:N<=16) {k:Nat} (hk:k<N):(fH .i64 (jw .i64 ((QN sn N:Nat):Int) (k:Int)) (1:Int)==(0:Int)) = !sn k:=by
 rw [LO (aX<|by omega) (by omega),jV,decide_eq_true hk,UY]
 grind
theorem Hf {sn:Nat->Bool} (hN:N<=16) {k:Nat} (hk:k<N):bOr .i64 ((QN sn N:Nat):Int) (De .i64 (1:Int) (k:Int))=((QN (λj=>sn j||Q3 (j=k)) N:Nat):Int):=by
 have h2:2 ^ k<9223372036854775808:=by have := Vd (a:=2) (by omega) (show k<63 by omega);omega
 rw [Bj (by omega),rU (aX<|by omega) h2];refine congrArg (λn:Nat=>(n:Int))<|Nat.eq_of_testBit_eq λj=>?_;rw [Nat.testBit_or,jV,jV,Nat.testBit_two_pow]
 grind
theorem Hg (a:LI) (h:0<a.length):a.getD ((a.length:Int)-1).toNat QW=rV a:=by
 unfold rV
 simp_all
theorem M8 (hN:N<=16) {a:LI} {q:LL} {sn:Nat->Bool} (h:∀ b∈a::q,wD N (uns N sn) b) (hq:q.length<=1000) (z0:Int) :
  QM (aB (jJ (QQ N f) (a::q,z0)) (a::q,(0:Int),((QN sn N:Nat):Int))) (· = .inl (a::(q++(xJ f (rV a) sn N).map λk=>a++[k]),((QN (snK f (rV a) sn N) N:Nat):Int))):=by
 obtain ⟨t,ht,hlt⟩:=(h a UZ).lst;have ha0:=(h a UZ).1;have ha1:=(h a UZ).2.1;have hnl:∀ M,(xJ f (rV a) sn M).length<=M:=λM=>by
  unfold xJ
  grind
 refine QM.loop (λz=>∃ k:Nat,k<=N/\z=(a::(q++(xJ f (rV a) sn k).map λk=>a++[k]),(k:Int),((QN (snK f (rV a) sn k) N:Nat):Int))) (λz=>((N:Int)-z.2.1).toNat) ⟨0,by omega,?_⟩ λz ⟨k,k1,k2⟩ => ?_
 ·refine Prod.ext (by grind)<|Prod.ext rfl<|congrArg (λn:Nat=>(n:Int))<|cK λj _=>?_;unfold snK;simp
 subst k2;unfold jJ J;have e0:(a::q).getD ((0:Int).toNat) QW=a:=rfl;simp only [aS,e0,Hg a ha0];refine .bifD (λhk=>?_) λhk => .pure (by grind);have hkN:k<N:=by omega
 refine QM.bind (P:=λv=>v.1=a::(q++(xJ f (rV a) sn<|k+1).map λk=>a++[k])/\v.2=((QN (snK f (rV a) sn<|k+1) N:Nat):Int)) ?_ λv ⟨v1,v2⟩ => .gdI (by omega)<|.pure ⟨⟨k+1,by omega,by simp_all⟩,by grind⟩;rw [hlt];refine (kY (by omega) ht hkN).bind λv hv=>QM.bind (P:=(· = (f (t:Int) (k:Int) && !sn k))) (.bif (λhb => .gdD (by omega)<|.pure ?_) λhb => .pure ?_) λw hw => .bif (λhb=>?_) λhb => .pure ?_
 ·have e1:snK f (t:Int) sn k k=sn k:=by unfold snK;rw [decide_eq_false (Nat.lt_irrefl k)];simp
  rw [He hN hkN,e1,<- hv,hb,UY]
 ·simp_all
 ·refine .gdD (by omega)<|(zg<|by omega).bind λv29 h29=>?_;subst h29;refine .gd (aU (by omega) rfl)<|.gd (aU (by grind) rfl)<|.pure ⟨?_,?_⟩
  ·simp only [];rw [vE,if_pos (by simp_all),Vh];simp
  simp only [];rw [Hf hN hkN];refine congrArg (λn:Nat=>(n:Int))<|cK λj hj=>?_;have hf:f (t:Int) (k:Int)=QX:=by
   rw [hw,bae] at hb;exact hb.1
  unfold snK
  grind
 refine ⟨?_,?_⟩
 ·simp only [];rw [vE,if_neg (by simp_all),List.append_nil]
 simp only [];refine congrArg (λn:Nat=>(n:Int))<|cK λj hj=>?_;rw [hb] at hw;unfold snK
 grind
theorem M9 (hN:N<=16) {a:LI} {q:LL} {sn:Nat->Bool} (h:∀ b∈a::q,wD N (uns N sn) b) (hq:q.length<=1000) (z0:Int) (d:LL) (hd:d.length<=1000) :
  QM (aB (mX (QQ N f) (d++a::q,(d.length:Int),z0)) (d++a::q,(0:Int),((QN sn N:Nat):Int))) (· = .inl (d++a::(q++(xJ f (rV a) sn N).map λk=>a++[k]),((QN (snK f (rV a) sn N) N:Nat):Int))):=by
 obtain ⟨t,ht,hlt⟩:=(h a UZ).lst;have ha0:=(h a UZ).1;have ha1:=(h a UZ).2.1;have hnl:∀ M,(xJ f (rV a) sn M).length<=M:=λM=>by
  unfold xJ
  grind
 refine QM.loop (λz=>∃ k:Nat,k<=N/\z=(d++a::(q++(xJ f (rV a) sn k).map λk=>a++[k]),(k:Int),((QN (snK f (rV a) sn k) N:Nat):Int))) (λz=>((N:Int)-z.2.1).toNat) ⟨0,by omega,?_⟩ λz ⟨k,k1,k2⟩ => ?_
 ·refine Prod.ext (by grind)<|Prod.ext rfl<|congrArg (λn:Nat=>(n:Int))<|cK λj _=>?_;unfold snK;simp
 subst k2;unfold mX J;have e0:∀ l:LL,(d++a::l).getD d.length QW=a:=λl=>by simp_all
 simp only [aS,tnn,e0,Hg a ha0,List.nil_append];refine .bifD (λhk=>?_) λhk => .pure (by grind);have hkN:k<N:=by omega
 refine QM.bind (P:=λv=>v.1=d++a::(q++(xJ f (rV a) sn<|k+1).map λk=>a++[k])/\v.2=((QN (snK f (rV a) sn<|k+1) N:Nat):Int)) ?_ λv ⟨v1,v2⟩ => .gdI (by omega)<|.pure ⟨⟨k+1,by omega,by simp_all⟩,by grind⟩;rw [hlt];refine (Il (by omega) ht hkN).bind λv hv=>QM.bind (P:=(· = (f (t:Int) (k:Int) && !sn k))) (.bif (λhb => .gdD (by omega)<|.pure ?_) λhb => .pure ?_) λw hw => .bif (λhb=>?_) λhb => .pure ?_
 ·have e1:snK f (t:Int) sn k k=sn k:=by unfold snK;rw [decide_eq_false (Nat.lt_irrefl k)];simp
  rw [He hN hkN,e1,<- hv,hb,UY]
 ·simp_all
 ·refine .gdD (by omega)<|.gdD ⟨by omega,by grind⟩<|.gd (aU (by grind) rfl)<|.gd (aU (by omega) rfl)<|.gd (aU (by grind) rfl)<|.pure ⟨?_,?_⟩
  ·simp only [];rw [vE,if_pos (by simp_all),Vh];simp
  simp only [];rw [Hf hN hkN];refine congrArg (λn:Nat=>(n:Int))<|cK λj hj=>?_;have hf:f (t:Int) (k:Int)=QX:=by
   rw [hw,bae] at hb;exact hb.1
  unfold snK
  grind
 refine ⟨?_,?_⟩
 ·simp only [];rw [vE,if_neg (by simp_all),List.append_nil]
 simp only [];refine congrArg (λn:Nat=>(n:Int))<|cK λj hj=>?_;rw [hb] at hw;unfold snK
 grind
end
section
variable {N:Nat} {f:Int->Int->Bool}
def unM (N:Nat) (m:Int):Nat:=(U4 N).countP λk => !m.toNat.testBit k
theorem JU (sn:Nat->Bool):unM N ((QN sn N:Nat):Int)=uns N sn:=by
 unfold unM uns;refine List.countP_congr λk hk=>?_;rw [tnn,jV,decide_eq_true (Ve.1 hk),UY]
theorem JV (sn:Nat->Bool):uns N sn<=N:=by
 unfold uns;exact Nat.le_trans List.countP_le_length (by simp)
def Fe (N:Nat) (f:Int->Int->Bool) (st:Int):LI:=bfs N f st (N+2) [[st]] λ_=>QY
theorem Ed {st:Nat} (hs:st<N):∀ b∈[[(st:Int)]],wD N (uns N λ_=>QY) b:=λb hb=>by
 rw [U1.1 hb];have := JV (N:=N) λ_=>QY;exact ⟨by simp,by grind,λj hj=>by simp_all⟩
theorem JW {st:Nat} (hs:st<N):Fe N f st=[]\/wD N 0 (Fe N f st):=LZ _ _ _<|Ed hs
theorem Hh:(0:Int)=((QN (λ_=>QY) N:Nat):Int):=by rw [Bq];rfl
theorem Na (hN:N<=16) {st:Nat} (hs:st<N):QM (kH (QQ N f) (st:Int)) (· = Fe N f st):=by
 unfold kH;refine QM.sum (PS:=λ_=>Fe N f st=[]) (PW:=(· = Fe N f st)) ?_ λ_ h => .pure h.symm;refine QM.loop (λz=>∃ (q:LL) (sn:Nat->Bool) (n:Nat),z=(q,((QN sn N:Nat):Int))/\(∀ b∈q,wD N (uns N sn) b)/\q.length+uns N sn<=n/\n<=N+2/\bfs N f st n q sn=Fe N f st) (λz=>z.1.length+unM N z.2)
  ⟨[[(st:Int)]],λ_=>QY,N+2,by rw [<- Hh],Ed hs,by have := JV (N:=N) λ_=>QY;grind,Nat.le_refl _,rfl⟩ λz ⟨q,sn,n,e,hok,hn,hn2,hb⟩ => ?_
 subst e;unfold qq J;simp only []
 cases q with
 | nil=>
  refine .bifD (λh=>absurd h<|by simp) λ_ => .pure ?_;show Fe N f st=[];rw [<- hb]
  cases n <;> rfl
 | cons a q=>
  obtain ⟨n,rfl⟩:∃ m,n=m+1:=⟨n-1,by grind⟩;obtain ⟨t,ht,hlt⟩:=(hok a UZ).lst;have ha0:=(hok a UZ).1;have ha1:=(hok a UZ).2.1;simp only [llc] at hn;have e0:(a::q).getD ((0:Int).toNat) QW=a:=rfl;simp only [e0,Hg a ha0];rw [bfs] at hb;refine .bifD (λ_=>?_) λh=>absurd (show (0:Int)<((a::q).length:Int) by simp_all) h;refine QM.sum (PS:=λs=>s=(a::(q++(xJ f (rV a) sn N).map λk=>a++[k]),((QN (snK f (rV a) sn N) N:Nat):Int))/\bfs N f st n (q++(xJ f (rV a) sn N).map λk=>a++[k]) (snK f (rV a) sn N)=Fe N f st) ?_ λs ⟨s1,s2⟩ => ?_
  ·refine .gdD ⟨by omega,by omega⟩<|.gdI (by omega)<|.gdD ⟨by omega,by omega⟩ ?_;have hrel:=kY (f:=f) (by omega) ht hs;rw [<- hlt] at hrel;refine hrel.bind λv hv => .bif (λh => .gdD (by omega)<|.pure ?_) λh=>?_
   ·simp_all
   rw [if_neg (by simp_all)] at hb;exact (M8 hN hok (by omega) _).mono λv hv=>by simp_all
  subst s1;have hu:=Eb (f:=f) (rV a) sn N;have hl:(q++(xJ f (rV a) sn N).map λk=>a++[k]).length=q.length+(xJ f (rV a) sn N).length:=by simp
  have hcut:(((a::(q++(xJ f (rV a) sn N).map λk=>a++[k])).drop (1:Int).toNat).take<|((a::(q++(xJ f (rV a) sn N).map λk=>a++[k])).length:Int).toNat-(1:Int).toNat)=q++(xJ f (rV a) sn N).map λk=>a++[k]:=by
   show List.take _ (q++_)=_;rw [List.take_of_length_le];rw [llc,hl];omega
  simp only [hcut];refine .gdD ⟨by omega,by grind,by omega⟩<|.pure ⟨⟨_,_,n,rfl,Ec hok,by omega,by omega,s2⟩,?_⟩;simp only [JU,hl,llc];omega
theorem Nb (hN:N<=16) {st:Nat} (hs:st<N):QM (pO (QQ N f) (st:Int)) (· = Fe N f st):=by
 unfold pO;refine QM.sum (PS:=λ_=>Fe N f st=[]) (PW:=(· = Fe N f st)) ?_ λ_ h => .pure h.symm;refine QM.loop (λz=>∃ (d q:LL) (sn:Nat->Bool) (n:Nat),z=(d++q,(d.length:Int),((QN sn N:Nat):Int))/\d.length+n<=N+2/\(∀ b∈q,wD N (uns N sn) b)/\q.length+uns N sn<=n/\bfs N f st n q sn=Fe N f st) (λz=>(z.1.length-z.2.1.toNat)+unM N z.2.2)
  ⟨[],[[(st:Int)]],λ_=>QY,N+2,by rw [<- Hh];rfl,by simp,Ed hs,by have := JV (N:=N) λ_=>QY;grind,rfl⟩ λz ⟨d,q,sn,n,e,hd,hok,hn,hb⟩ => ?_
 subst e;unfold uF J;simp only [tnn]
 cases q with
 | nil=>
  refine .bifD (λh=>absurd h<|by simp) λ_ => .pure ?_;show Fe N f st=[];rw [<- hb]
  cases n <;> rfl
 | cons a q=>
  obtain ⟨n,rfl⟩:∃ m,n=m+1:=⟨n-1,by grind⟩;obtain ⟨t,ht,hlt⟩:=(hok a UZ).lst;have ha0:=(hok a UZ).1;have ha1:=(hok a UZ).2.1;simp only [llc] at hn;have e0:∀ l:LL,(d++a::l).getD d.length QW=a:=λl=>by simp_all
  simp only [e0,Hg a ha0];rw [bfs] at hb;refine .bifD (λ_=>?_) λh=>absurd (show (d.length:Int)<((d++a::q).length:Int) by grind) h;refine QM.sum (PS:=λs=>s=(d++a::(q++(xJ f (rV a) sn N).map λk=>a++[k]),((QN (snK f (rV a) sn N) N:Nat):Int))/\bfs N f st n (q++(xJ f (rV a) sn N).map λk=>a++[k]) (snK f (rV a) sn N)=Fe N f st) ?_ λs ⟨s1,s2⟩ => ?_
  ·refine .gdD ⟨by omega,by omega⟩<|.gdI (by omega)<|.gdD ⟨by omega,by omega⟩ ?_;have hrel:=Il (f:=f) (by omega) ht hs;rw [<- hlt] at hrel;refine hrel.bind λv hv => .bif (λh => .pure ?_) λh=>?_
   ·simp_all
   rw [if_neg (by simp_all)] at hb;exact (M9 hN hok (by omega) _ d<|by omega).mono λv hv=>by simp_all
  subst s1;have hu:=Eb (f:=f) (rV a) sn N;have hl:(q++(xJ f (rV a) sn N).map λk=>a++[k]).length=q.length+(xJ f (rV a) sn N).length:=by simp
  refine .gdI (by omega)<|.pure ⟨⟨d++[a],_,_,n,?_,by grind,Ec hok,by omega,s2⟩,?_⟩
  ·simp
  simp only [JU,lla,llc,llm];omega
def bst (b v:LI):LI:=if v=[] then b else if b=[] then v else if v.length<b.length then v else b
def Ff (N:Nat) (f:Int->Int->Bool):Nat->LI
 | 0=>[]
 | n+1=>bst (Ff N f n) (Fe N f n)
theorem Gf:∀ n:Nat,n<=N->Ff N f n=[]\/wD N 0 (Ff N f n)
 | 0,_ => .inl rfl
 | n+1,h=>by
  rw [Ff,bst]
  split
  ·exact Gf n (by omega)
  split
  ·exact JW (by omega)
  split
  ·exact JW (by omega)
  exact Gf n (by omega)
theorem OI (hN:N<=16):QM (kI<|QQ N f) (· = Ff N f N):=by
 unfold kI;refine (mZ hN).bind λv hv=>?_;subst hv;refine .bif (λh=>by cases h) λ_=>QM.bind (P:=(· = Ff N f N)) ?_ λv hv => .pure hv;refine QM.loop (λz=>∃ n:Nat,n<=N/\z=((n:Int),Ff N f n)) (λz=>((N:Int)-z.1).toNat) ⟨0,by omega,rfl⟩ λz ⟨n,n1,n2⟩ => ?_;subst n2;unfold qw;simp only [aS];refine .bifD (λhk=>QM.bind (P:=(· = Ff N f (n+1))) ?_ λv hv => .gdI (by omega)<|.pure ⟨⟨n+1,by omega,by simp_all⟩,by omega⟩) λhk => .pure (by grind);refine (Na hN<|show n<N by omega).bind λv hv=>?_;subst hv;rw [Ff,bst];generalize Fe N f (n:Int)=v;generalize Ff N f n=b
 cases v with
 | nil=>exact QM.bind (P:=(· = QY)) (.bif (λh=>by cases h) λ_ => .pure rfl) λw hw => .bif (λh=>by simp_all) λ_ => .pure (by simp_all)
 | cons c v=>
  rw [if_neg (by simp)]
  cases b with
  | nil=>exact QM.bind (P:=(· = QX)) (.bif (λ_=>QM.bind (P:=(· = QX)) (.bif (λ_ => .pure rfl) λh=>by cases h) λw hw => .pure hw) λh=>by cases h) λw hw => .bif (λ_ => .pure<|by simp_all) λh=>by simp_all
  | cons d b=>
   rw [if_neg (by simp)];refine QM.bind (P:=(· = Q3 ((c::v).length<(d::b).length))) (.bif (λ_=>QM.bind (P:=(· = Q3 ((c::v).length<(d::b).length))) (.bif (λh=>by cases h) λ_ => .pure<|decide_eq_decide.2<|by omega) λw hw => .pure hw) λh=>by cases h) λw hw => .bif (λh => .pure ?_) λh => .pure ?_
   ·rw [if_pos (of_decide_eq_true<|by rw [<- hw];exact h)]
   grind
theorem OJ (hN:N<=16):QM (nM<|QQ N f) (· = Ff N f N):=by
 unfold nM;refine QM.bind (P:=(· = Ff N f N)) ?_ λv hv => .pure hv;refine QM.loop (λz=>∃ n:Nat,n<=N/\z=((n:Int),Ff N f n)) (λz=>((N:Int)-z.1).toNat) ⟨0,by omega,rfl⟩ λz ⟨n,n1,n2⟩ => ?_;subst n2;unfold sZ;simp only [aS];refine .bifD (λhk=>QM.bind (P:=(· = Ff N f (n+1))) ?_ λv hv => .gdI (by omega)<|.pure ⟨⟨n+1,by omega,by simp_all⟩,by omega⟩) λhk => .pure (by grind);refine (Nb hN<|show n<N by omega).bind λv hv=>?_;subst hv;rw [Ff,bst];generalize Fe N f (n:Int)=v;generalize Ff N f n=b
 cases v with
 | nil=>exact QM.bind (P:=(· = QY)) (.bifD (λh=>absurd h<|by simp) λ_ => .pure rfl) λw hw => .bif (λh=>by simp_all) λ_ => .pure (by simp_all)
 | cons c v=>
  rw [if_neg (by simp)]
  cases b with
  | nil=>exact QM.bind (P:=(· = QX)) (.bifD (λ_=>QM.bind (P:=(· = QX)) (.bif (λ_ => .pure rfl) λh=>by cases h) λw hw => .pure hw) λh=>absurd (show (0:Int)<((c::v).length:Int) by simp_all) h) λw hw => .bif (λ_ => .pure<|by simp_all) λh=>by simp_all
  | cons d b=>
   rw [if_neg (by simp)];refine QM.bind (P:=(· = Q3 ((c::v).length<(d::b).length))) (.bifD (λ_=>QM.bind (P:=(· = Q3 ((c::v).length<(d::b).length))) (.bif (λh=>absurd (eq_of_beq h)<|by simp;omega) λ_ => .pure<|decide_eq_decide.2<|by omega) λw hw => .pure hw) λh=>absurd (show (0:Int)<((c::v).length:Int) by rw [llc];omega) h) λw hw => .bif (λh => .pure ?_) λh => .pure ?_
   ·rw [if_pos (of_decide_eq_true<|by rw [<- hw];exact h)]
   grind
end
section
variable {p:List (List QH)} {x:XS} {F:LI}
def lrC (p:List<|List QH) (t idx reg:Int) (e:QJ):Bool:=Q3 (e.Thread=t)&&Q3 (e.Index<idx)&&e.Reads&&(((p.getD t.toNat QW).getD e.Index.toNat QW).Reg==reg)
def lrN (p:List<|List QH) (t idx reg:Int):Nat->Int
 | 0 => -1
 | n+1=>if lrC p t idx reg (ev p (n:Int))=QX then (n:Int) else lrN p t idx reg n
def lrd (p:List<|List QH) (t idx reg:Int):Int:=lrN p t idx reg (evs p).length
theorem L6 {t idx reg:Int}:∀ (n:Nat),(lrN p t idx reg n = -1/\∀ i:Nat,i<n->lrC p t idx reg (ev p (i:Int))=QY)\/∃ r:Nat,r<n/\lrN p t idx reg n=(r:Int)/\lrC p t idx reg (ev p (r:Int))=QX/\∀ i:Nat,i<n->r<i->lrC p t idx reg (ev p (i:Int))=QY
 | 0 => .inl ⟨rfl,λi h=>absurd h<|Nat.not_lt_zero _⟩
 | n+1=>by
  by_cases h:lrC p t idx reg (ev p (n:Int))=QX
  ·exact .inr ⟨n,by omega,if_pos h,h,λi h1 h2=>by omega⟩
  have e:lrN p t idx reg (n+1)=lrN p t idx reg n:=if_neg h;have hf:lrC p t idx reg (ev p (n:Int))=QY:=by simpa using h
  rcases L6 n with ⟨h1,h2⟩ | ⟨r,h1,h2,h3,h4⟩
  ·refine .inl ⟨e.trans h1,λi hi=>?_⟩
   by_cases ei:i=n
   ·subst ei;exact hf
   exact h2 i (by omega)
  grind
theorem JX (t idx reg:Int):(lrd p t idx reg = -1/\∀ i:Nat,i<(evs p).length->lrC p t idx reg (ev p (i:Int))=QY)\/∃ r:Nat,r<(evs p).length/\lrd p t idx reg=(r:Int)/\lrC p t idx reg (ev p (r:Int))=QX/\∀ i:Nat,i<(evs p).length->r<i->lrC p t idx reg (ev p (i:Int))=QY:=L6 _
theorem JY {t idx reg:Int} {e:QJ}:lrC p t idx reg e=QX↔e.Thread=t/\e.Index<idx/\e.Reads=QX/\((p.getD t.toNat QW).getD e.Index.toNat QW).Reg=reg:=by
 unfold lrC
 grind
theorem Aa (hp:PV p) {n:Int} (h0:0<=n) (h:n<((evs p).length:Int)) (ht : ¬ (ev p n).Thread<0):∃ t k:Nat,Isn p t k/\n=(base p t k:Int)/\(ev p n).Thread=(t:Int)/\(ev p n).Index=(k:Int):=by
 rcases Bi h0 h with hc | ⟨t,k,hI,rfl⟩
 ·exfalso;have := (xg (p:=p) (l:=n.toNat)<|by omega).1
  grind
 exact ⟨t,k,hI,rfl,by rw [hI.ev.1],by rw [hI.ev.1]⟩
def VB (p:List<|List QH) (x:XS) (vals:LI) (B:List Bool):aA:=⟨p,⟨x.1,x.2⟩,evs p,vals,B⟩
theorem Im (hp:PV p) {vals:LI} {B:List Bool} {t:Nat} (ht:t<p.length) (idx reg:Int):QM (dI (VB p x vals B) (t:Int) idx reg) (· = (VB p x vals B,lrd p (t:Int) idx reg)):=by
 have hel:=jT hp.vs;unfold dI;refine QM.bind (P:=(· = lrd p (t:Int) idx reg)) ?_ λv hv => .pure (by rw [hv]);refine QM.loop (λz=>∃ n:Nat,n<=(evs p).length/\z=((n:Int),lrN p (t:Int) idx reg n)) (λz=>(((evs p).length:Int)-z.1).toNat) ⟨0,by omega,rfl⟩ λz ⟨n,h1,h2⟩ => ?_;subst h2;unfold ku J;have en:(evs p).getD n QW=ev p (n:Int):=by unfold ev;simp_all
 simp only [VB,tnn,en];refine .bifD (λhk=>?_) λhk => .pure (by rw [show n=(evs p).length by omega];rfl);refine QM.bind (P:=(· = lrN p (t:Int) idx reg (n+1))) (.gdD ⟨by omega,hk⟩ (QM.bind (P:=(· = lrC p (t:Int) idx reg (ev p (n:Int)))) (.bif (λh1 => .bifD (λh2 => .bif (λh3=>?_) λh3 => .pure ?_) λh2 => .pure ?_) λh1 => .pure ?_) λv hv => .bif (λh => .pure ?_) λh => .pure ?_)) λv hv => .gdI (by omega)<|.pure ⟨⟨n+1,by omega,by simp_all⟩,by omega⟩
 ·have h1:(ev p (n:Int)).Thread=(t:Int):=eq_of_beq h1;obtain ⟨t',k,hI,e,e1,e2⟩:=Aa hp (n:=(n:Int)) (by omega) (by omega) (by omega);have : t'=t:=by omega
  subst this;have := hI.k;refine .gdD ⟨by omega,by omega⟩<|.gdD ⟨by omega,by rw [e2];omega⟩<|.pure ?_;unfold lrC
  simp_all
 ·unfold lrC;simp_all
 ·unfold lrC;grind
 ·unfold lrC
  simp_all
 ·show (n:Int)=lrN p (t:Int) idx reg (n+1);rw [lrN,if_pos (by simp_all)]
 show lrN p (t:Int) idx reg n=lrN p (t:Int) idx reg (n+1);rw [lrN,if_neg (by simp_all)]
def Bt (p:List<|List QH) (i:Int):QH:=(p.getD (ev p i).Thread.toNat QW).getD (ev p i).Index.toNat QW
def lrE (p:List<|List QH) (i:Int):Int:=lrd p (ev p i).Thread (ev p i).Index (Bt p i).Reg
def Stp (p:List<|List QH) (x:XS) (i j:Int):Prop := ¬ (ev p i).Thread<0/\(Bt p i).Op=3 /\ ¬ lrE p i<0/\j=x.1.getD (lrE p i).toNat QW
inductive Chn (p:List (List QH)) (x:XS):Int->Int->Prop
 | ini {i:Int} (h:(ev p i).Thread<0):Chn p x i 0
 | val {i:Int} (h : ¬ (ev p i).Thread<0) (h3:(Bt p i).Op≠3):Chn p x i (Bt p i).Val
 | zer {i:Int} (h : ¬ (ev p i).Thread<0) (h3:(Bt p i).Op=3) (hr:lrE p i<0):Chn p x i 0
 | nxt {i j v:Int} (h:Stp p x i j) (c:Chn p x j v):Chn p x i v
inductive Rc (p:List (List QH)) (x:XS):Int->Int->Prop
 | refl (i:Int):Rc p x i i
 | step {i j k:Int} (h:Stp p x i j) (c:Rc p x j k):Rc p x i k
def Cyc (p:List<|List QH) (x:XS) (i:Int):Prop:=∃ j k,Rc p x i j/\Stp p x j k/\Rc p x k j
theorem Stp.det {i j k:Int} (h:Stp p x i j) (h':Stp p x i k):j=k:=h.2.2.2.trans h'.2.2.2.symm
theorem Chn.det {i v w:Int} (h:Chn p x i v):Chn p x i w->v=w:=by
 induction h with
 | ini h=>intro h';cases h' with
  | ini _=>rfl
  | val h1 _=>omega
  | zer h1 _ _=>omega
  | nxt h1 _=>exact absurd h h1.1
 | val h h3=>intro h';cases h' with
  | ini h1=>omega
  | val _ _=>rfl
  | zer _ h1 _=>omega
  | nxt h1 _=>exact absurd h1.2.1 h3
 | zer h h3 hr=>intro h';cases h' with
  | ini h1=>omega
  | val _ h1=>omega
  | zer _ _ _=>rfl
  | nxt h1 _=>exact absurd hr h1.2.2.1
 | nxt h c ih=>intro h';cases h' with
  | ini h1=>exact absurd h1 h.1
  | val _ h1=>exact absurd h.2.1 h1
  | zer _ _ h1=>exact absurd h1 h.2.2.1
  | nxt h1 c1=>obtain rfl:=h.det h1;simp_all
theorem Chn.not_cyc {i v:Int} (h:Chn p x i v) : ¬ Cyc p x i:=by
 have nost:∀ {i},(∀ j,¬ Stp p x i j) -> ¬ Cyc p x i:=λ{i} hn ⟨j,k,h1,h2,h3⟩=>by
  cases h1 with
  | refl _=>simp_all
  | step h _=>simp_all
 induction h with
 | ini h=>exact nost λj hj=>hj.1 h
 | val h h3=>exact nost λj hj=>h3 hj.2.1
 | zer h h3 hr=>exact nost λj hj=>hj.2.2.1 hr
 | nxt h c ih=>
  rintro ⟨j,k,h1,h2,h3⟩
  cases h1 with
  | refl _=>
   obtain rfl:=h.det h2;exact ih ⟨_,_,h3,h2,h3⟩
  | step h' c'=>
   obtain rfl:=h.det h';exact ih ⟨j,k,c',h2,h3⟩
theorem Cyc.step {i j:Int} (h:Stp p x i j) (c:Cyc p x j):Cyc p x i:=by
 obtain ⟨a,b,h1,h2,h3⟩:=c;exact ⟨a,b,.step h h1,h2,h3⟩
theorem CM {B:List Bool} {i:Nat} (hi:i<B.length) (hb:B.getD i QW=QY):(B.set i QX).count QY+1=B.count QY:=by
 grind
theorem Lf {B:List Bool} {i:Nat} (hi:i<B.length) (hb:B.getD i QW=QY):(B.set i QX).set i QY=B:=by
 rw [List.set_set];apply List.ext_getElem
 ·simp
 grind
def PF (p:List<|List QH) (x:XS) (vals:LI) (B:List Bool) (i:Int) (q:aA×Int×Bool):Prop:=
 q.1=VB p x vals B/\(q.2.2=QX->Chn p x i q.2.1)/\(q.2.2=QY->q.2.1=0/\((∃ j:Nat,B.getD j QW=QX/\Rc p x i (j:Int))\/Cyc p x i))
theorem JZ (hp:PV p) (C:Cand p x F):∀ (m:Nat) (vals:LI) (B:List Bool) (i:Nat),B.count QY<m->B.length=(evs p).length->i<(evs p).length->QM (bg m (VB p x vals B) (i:Int)) (PF p x vals B (i:Int))
 | 0,_,_,_,h,_,_=>absurd h (Nat.not_lt_zero _)
 | m+1,vals,B,i,hm,hB,hi=>by
  have hel:=jT hp.vs;have ei:(evs p).getD i QW=ev p (i:Int):=by unfold ev;simp_all
  show QM (eC (bg m) (VB p x vals B) (i:Int)) _;unfold eC J;simp only [VB,tnn,ei];refine .gdD ⟨by omega,by omega⟩<|.bifD (λh0 => .pure ⟨rfl,λ_ => .ini h0,λe=>(by cases e)⟩) λh0=>?_;obtain ⟨t,k,hI,e,e1,e2⟩:=Aa hp (n:=(i:Int)) (by omega) (by omega) h0;have hins:((p.getD (ev p (i:Int)).Thread.toNat QW).getD (ev p (i:Int)).Index.toNat QW)=Bt p (i:Int):=rfl;simp only [hins];have ht:=hI.t;have hk:=hI.k;refine .gdD ⟨by omega,by omega⟩<|.gdD ⟨by omega,by simp_all⟩<|.bif (λh3 => .pure ⟨rfl,λ_ => .val h0 (by simp_all),λe=>(by cases e)⟩) λh3=>?_;have h3:(Bt p (i:Int)).Op=3:=by simpa using h3
  refine .gdD ⟨by omega,by omega⟩<|.bif (λhb => .pure ⟨rfl,λe=>(by cases e),λ_=>⟨rfl,.inl ⟨i,hb,.refl _⟩⟩⟩) λhb=>?_;have hlr:=Im (x:=x) (vals:=vals) (B:=B) hp ht (ev p (i:Int)).Index (Bt p (i:Int)).Reg;rw [<- e1] at hlr;refine hlr.bind λv8 h8=>?_;subst h8;have hlE:lrd p (ev p (i:Int)).Thread (ev p (i:Int)).Index (Bt p (i:Int)).Reg=lrE p (i:Int):=rfl;simp only [VB,hlE];refine .bifD (λhr => .pure ⟨rfl,λ_ => .zer h0 h3 hr,λe=>(by cases e)⟩) λhr=>?_;rcases JX (p:=p) (ev p (i:Int)).Thread (ev p (i:Int)).Index (Bt p (i:Int)).Reg with ⟨g1,_⟩ | ⟨r,g1,g2,g3,_⟩
  ·omega
  rw [hlE] at g2;have hrd:=(JY.1 g3).2.2.1;have hrF:(r:Int)∈F:=(C.mem _).2 ⟨by omega,by omega⟩;have hfr:=C.rdc _ hrF hrd;rw [tnn] at hfr;obtain ⟨j0,j1⟩:=(C.mem _).1 (((C.ods _<|tj hp (n:=(r:Int)) (by omega)<|by omega).mem _).1 hfr).1;generalize hj:x.1.getD r QW=j at hfr j0 j1;have hst:Stp p x (i:Int) j:=⟨h0,h3,hr,by simp_all⟩;refine .gdD ⟨by omega,by omega⟩<|.gdD ⟨by omega,by rw [g2,C.flen];omega⟩ ?_;rw [g2,tnn,hj];have hc:=CM (show i<B.length by omega) hb;have hrec:=JZ hp C m vals (B.set i QX) j.toNat (by omega) (by simp_all) (by omega);rw [Vi j0] at hrec;refine hrec.bind λq ⟨q1,q2,q3⟩ => ?_;rw [q1];simp only [VB,List.length_set];refine .gdD ⟨by omega,by omega⟩<|.pure ⟨?_,λh => .nxt hst<|q2 h,λh=>?_⟩
  ·simp only [VB,Lf (show i<B.length by omega) hb]
  obtain ⟨q4,q3⟩:=q3 h;refine ⟨q4,?_⟩;rcases q3 with ⟨a,a1,a2⟩ | hcy
  ·by_cases ea:a=i
   ·subst ea;exact .inr ⟨_,_,.refl _,hst,a2⟩
   refine .inl ⟨a,?_,.step hst a2⟩
   grind
  exact .inr<|.step hst hcy
theorem J0 (hp:PV p) (C:Cand p x F) (vals:LI) {i:Nat} (hi:i<(evs p).length):QM (kV (VB p x vals<|U0 (evs p).length QY) (i:Int)) λq=>q.1=VB p x vals (U0 (evs p).length QY)/\(q.2.2=QX->Chn p x (i:Int) q.2.1)/\(q.2.2=QY->Cyc p x (i:Int)):=by
 have nob:∀ {q:aA×Int×Bool},PF p x vals (U0 (evs p).length QY) (i:Int) q->q.1=VB p x vals (U0 (evs p).length QY)/\(q.2.2=QX->Chn p x (i:Int) q.2.1)/\(q.2.2=QY->q.2.1=0/\Cyc p x (i:Int)):=λ{q} ⟨h1,h2,h3⟩=>⟨h1,h2,λh=>⟨(h3 h).1,by
  rcases (h3 h).2 with ⟨j,hj,_⟩ | hc
  ·exfalso;rw [gdq,List.getElem?_replicate] at hj
   split at hj <;> cases hj
  omega⟩⟩
 have key:∀ m,(evs p).length<m->QM (bg m (VB p x vals<|U0 (evs p).length QY) (i:Int)) (PF p x vals (U0 (evs p).length QY) (i:Int)):=λm hm=>JZ hp C m vals _ i (by simp_all) (by simp) hi;obtain ⟨q,hq,hP⟩:=key ((evs p).length+1) (by omega);obtain ⟨p1,p2,p3⟩:=nob hP;refine .of (pQ (v:=q) (evs p).length λm hm=>?_).eq ⟨p1,p2,λh=>(p3 h).2⟩;obtain ⟨q',hq',hP'⟩:=key m hm;obtain ⟨r1,r2,r3⟩:=nob hP';refine .of hq' ?_;obtain ⟨qa,qb,qc⟩:=q;obtain ⟨ra,rb,rc⟩:=q';simp only at p1 p2 p3 r1 r2 r3;subst p1 r1
 cases qc <;> cases rc
 ·simp_all
 ·exact absurd (p3 rfl).2 (r2 rfl).not_cyc
 ·exact absurd (r3 rfl).2 (p2 rfl).not_cyc
 rw [(p2 rfl).det (r2 rfl)]
theorem Lg (hp:PV p) (C:Cand p x F):QM (cG p ⟨x.1,x.2⟩) λq=>(q.2=QX->q.1.length=(evs p).length/\∀ i:Nat,i<(evs p).length->(ev p (i:Int)).aH=QX->Chn p x (i:Int) (q.1.getD i QW))/\(q.2=QY->∃ i:Nat,i<(evs p).length/\(ev p (i:Int)).aH=QX/\Cyc p x (i:Int)):=by
 have hel:=jT hp.vs;unfold cG;refine (D5 hp.vs).bind λv1 h1=>?_;subst h1;refine .gdD ⟨by omega,by omega,by omega,by omega⟩ ?_;refine QM.sum (PS:=λz=>z.1.length=(evs p).length/\∀ i:Nat,i<(evs p).length->(ev p (i:Int)).aH=QX->Chn p x (i:Int) (z.1.getD i QW)) (PW:=λq:List Int×Bool=>(q.2=QX->q.1.length=(evs p).length/\∀ i:Nat,i<(evs p).length->(ev p (i:Int)).aH=QX->Chn p x (i:Int) (q.1.getD i QW))/\(q.2=QY->∃ i:Nat,i<(evs p).length/\(ev p (i:Int)).aH=QX/\Cyc p x (i:Int))) ?_ λz hz => .pure ⟨λ_=>hz,λe=>(by cases e)⟩;have e0:U0 ((evs p).length:Int).toNat (QW:Bool)=U0 (evs p).length QY:=by rw [tnn];rfl
 rw [e0];refine QM.loop (λz=>∃ n:Nat,n<=(evs p).length/\z.2=(p,x.1,x.2,evs p,U0 (evs p).length QY,(n:Int))/\z.1.length=n/\∀ i:Nat,i<n->(ev p (i:Int)).aH=QX->Chn p x (i:Int) (z.1.getD i QW)) (λz=>(((evs p).length:Int)-z.2.2.2.2.2.2).toNat) ⟨0,by omega,rfl,rfl,λi hi=>absurd hi<|by omega⟩ λz ⟨n,n1,n2,n3,n4⟩ => ?_;obtain ⟨vals,z2⟩:=z;simp only at n2 n3 n4;subst n2;unfold qp J;have en:(evs p).getD n QW=ev p (n:Int):=by unfold ev;rw [tnn]
 simp only [tnn,en];refine .bifD (λhk => .gdD ⟨by omega,hk⟩ ?_) λhk => .pure ⟨by simp only [];omega,λi hi=>n4 i<|by omega⟩;refine QM.sum (PS:=λs=>s.1=p/\s.2.1=x.1/\s.2.2.1=x.2/\s.2.2.2.1=evs p/\s.2.2.2.2.1=U0 (evs p).length QY/\((ev p (n:Int)).aH=QX->Chn p x (n:Int) s.2.2.2.2.2)) ?_ λs ⟨s1,s2,s3,s4,s5,s6⟩ => .gd (aU (by omega) rfl)<|.gdI (by omega)<|.pure ⟨⟨n+1,by omega,?_,by simp [n3],λi hi hw=>?_⟩,by simp only [];omega⟩
 ·refine .bif (λhw=>?_) λhw => .pure ⟨rfl,rfl,rfl,rfl,rfl,λh=>by rw [hw] at h;cases h⟩;refine (J0 hp C vals (i:=n)<|by omega).bind λq ⟨q1,q2,q3⟩ => .bif (λhq => .pure ?_) λhq => .pure ⟨by rw [q1];rfl,by rw [q1];rfl,by rw [q1];rfl,by rw [q1];rfl,by rw [q1];rfl,λ_=>q2<|by simpa using hq⟩;exact ⟨λe=>(by cases e),λ_=>⟨n,by omega,hw,q3<|by simpa using hq⟩⟩
 ·rw [s1,s2,s3,s4,s5]
  rfl
 grind
end
section
variable {p:List (List QH)} {x:XS} {F:LI}
inductive HC (p:List (List QH)) (x:XS):Int->Int->Nat->Prop
 | ini {i:Int} (h:(ev p i).Thread<0):HC p x i 0 0
 | val {i:Int} (h : ¬ (ev p i).Thread<0) (h3:(Bt p i).Op≠3):HC p x i (Bt p i).Val 0
 | zer {i:Int} (h : ¬ (ev p i).Thread<0) (h3:(Bt p i).Op=3) (hr:lrE p i<0):HC p x i 0 0
 | nxt {i j v:Int} {n:Nat} (h:Stp p x i j) (c:HC p x j v n):HC p x i v (n+1)
theorem Stp.dom (hp:PV p) (C:Cand p x F) {i j:Int} (hi:0<=i/\i<((evs p).length:Int)) (h:Stp p x i j):(0<=j/\j<((evs p).length:Int))/\(ev p j).aH=QX:=by
 obtain ⟨_,_,hr,e⟩:=h;rcases JX (p:=p) (ev p i).Thread (ev p i).Index (Bt p i).Reg with ⟨g1,_⟩ | ⟨r,g1,g2,g3,_⟩
 ·exact absurd (show lrE p i<0 by unfold lrE;omega) hr
 have hrd:=(JY.1 g3).2.2.1;have hrF:(r:Int)∈F:=(C.mem _).2 ⟨by omega,by omega⟩;have hfr:=((C.ods _<|tj hp (n:=(r:Int)) (by omega)<|by omega).mem _).1<|C.rdc _ hrF hrd;rw [show (r:Int)=lrE p i from g2.symm,<- e] at hfr;exact ⟨(C.mem _).1 hfr.1,hfr.2.1⟩
theorem Chn.hc (hp:PV p) (C:Cand p x F) {i v:Int} (h:Chn p x i v):0<=i/\i<((evs p).length:Int)->∃ n:Nat,n<(evs p).length/\HC p x i v n:=by
 have key:∀ {i v:Int},Chn p x i v->0<=i/\i<((evs p).length:Int)->∃ (n:Nat) (l:LI),HC p x i v n/\l.length=n+1/\l.Nodup/\(∀ j∈l,Rc p x i j)/\∀ j∈l,0<=j/\j<((evs p).length:Int):=by
  intro i v h
  induction h with
  | @ini i h=>exact λhi=>⟨0,[i],.ini h,rfl,by simp,λj hj=>by rw [U1.1 hj];exact .refl _,λj hj=>by rw [U1.1 hj];exact hi⟩
  | @val i h h3=>exact λhi=>⟨0,[i],.val h h3,rfl,by simp,λj hj=>by rw [U1.1 hj];exact .refl _,λj hj=>by rw [U1.1 hj];exact hi⟩
  | @zer i h h3 hr=>exact λhi=>⟨0,[i],.zer h h3 hr,rfl,by simp,λj hj=>by rw [U1.1 hj];exact .refl _,λj hj=>by rw [U1.1 hj];exact hi⟩
  | @nxt i j v h c ih=>
   intro hi;obtain ⟨n,l,k1,k2,k3,k4,k5⟩:=ih (h.dom hp C hi).1;refine ⟨n+1,i::l,.nxt h k1,by rw [llc,k2],List.nodup_cons.2 ⟨λhm=>?_,k3⟩,λq hq=>?_,λq hq=>?_⟩
   ·exact (Chn.nxt h c).not_cyc ⟨i,j,.refl _,h,k4 i hm⟩
   ·rcases Vf.1 hq with rfl | hq
    ·exact .refl _
    exact .step h<|k4 q hq
   rcases Vf.1 hq with rfl | hq
   ·exact hi
   exact k5 q hq
 intro hi;obtain ⟨n,l,k1,k2,k3,_,k5⟩:=key h hi;have := KX Int.toNat (evs p).length l k3 (λj hj=>by have := k5 j hj;omega) λa ha b hb e=>by have := k5 a ha;have := k5 b hb;omega
 exact ⟨n,by omega,k1⟩
theorem Chn.rng (hp:PV p) (C:Cand p x F) {i v:Int} (h:Chn p x i v):(0<=i/\i<((evs p).length:Int))->0<=v/\v<=3:=by
 induction h with
 | ini h=>intro _;omega
 | @val i h h3=>
  intro hi;obtain ⟨t,k,hI,_,e1,e2⟩:=Aa hp hi.1 hi.2 h;have hR:InR (Bt p i):=by
   unfold Bt;rw [e1,e2];exact hp.ins t k hI.t hI.k
  obtain ⟨_,_,_,_,a,b⟩:=hR;exact ⟨a,b⟩
 | zer h h3 hr=>intro _;omega
 | nxt h c ih=>intro hi;exact ih (h.dom hp C hi).1
end
theorem Nc {l:List QH} (hl:l.length<=1000) {a b:Nat} (hab:a<b) (hb:b<l.length) (ha : ¬ (l.getD a QW).Op=4):QM (ko l (a:Int) (b:Int)) (· = Ik ((l.drop a).take<|b-a)):=by
 have key:Ik ((l.drop a).take<|b-a)=QX↔∃ j,a<j/\j<b/\(l.getD j QW).Op=4:=by
  unfold Ik;rw [List.any_eq_true]
  constructor
  ·rintro ⟨y,hy,h4⟩;obtain ⟨i,hi,rfl⟩:=U5 hy;rw [U3,Vb] at hi;have e:((l.drop a).take<|b-a)[i]=l.getD (a+i) QW:=by
    rw [List.getElem_take,List.getElem_drop,gdq,geq (by omega)]
    rfl
   rw [e,beq_iff_eq] at h4
   by_cases h0:i=0
   ·subst h0;exact absurd h4 ha
   exact ⟨a+i,by omega,by omega,h4⟩
  rintro ⟨j,h1,h2,h3⟩;refine ⟨l.getD j QW,?_,by rw [h3];rfl⟩;have : j-a<((l.drop a).take<|b-a).length:=by rw [U3,Vb];omega
  have e:((l.drop a).take<|b-a)[j-a]=l.getD j QW:=by
   rw [List.getElem_take,List.getElem_drop,gdq,geq (by omega)];simp only [show a+(j-a)=j by omega]
   rfl
  rw [<- e];exact List.getElem_mem _
 unfold ko;refine QM.sum (PS:=λ_=>Ik ((l.drop a).take<|b-a)=QY) (PW:=(· = Ik ((l.drop a).take<|b-a))) (.gdI (by omega) ?_) λ_ hn => .pure hn.symm;refine QM.loop (λz=>∃ i:Nat,a<i/\i<=b/\z=(i:Int)/\∀ j,a<j->j<i -> ¬ (l.getD j QW).Op=4) (λz=>((b:Int)-z).toNat) ⟨a+1,by omega,by omega,by simp,λj _ _=>by omega⟩ λz ⟨i,h0,h1,h2,h3⟩ => ?_;subst h2;unfold sU J;simp only [tnn];refine .bifD (λhk => .gdD ⟨by omega,by omega⟩<|.bif (λhe => .pure ?_) λhe => .gdI (by omega)<|.pure ⟨⟨i+1,by omega,by omega,rfl,λj j1 j2=>?_⟩,by omega⟩) λhk => .pure ?_
 ·exact (key.2 ⟨i,by omega,by omega,eq_of_beq he⟩).symm
 ·by_cases e:j=i
  ·subst e;exact λh=>by rw [h] at he;simp at he
  exact h3 j j1 (by omega)
 grind
section
variable {p:List (List QH)} {x:XS} {F:LI}
theorem OL (hp:PV p) (C:Cand p x F) {i k:Nat} (hi:i<(evs p).length) (hk:k<(evs p).length) (nm:BA) (hn:nm∈Bh):QM (df p ⟨x.1,x.2⟩ (evs p) nm (i:Int) (k:Int)) (· = nmR p x nm i k):=by
 have hX:=Qc hp C;have hn':nm=⟨#[112,111]⟩\/nm=⟨#[108,111,99]⟩\/nm=⟨#[101,120,116]⟩\/nm=⟨#[114,102]⟩\/nm=⟨#[99,111]⟩\/nm=⟨#[102,114]⟩\/nm=⟨#[102,101,110,99,101]⟩\/nm=⟨#[119,114]⟩\/nm=⟨#[119,119]⟩\/nm=⟨#[105,100]⟩:=by
  simpa [Bh] using hn
 have four:∀ f,((nm=⟨#[112,111]⟩/\f=poB p)\/(nm=⟨#[114,102]⟩/\f=rfB p x)\/(nm=⟨#[99,111]⟩/\f=coB p x)\/(nm=⟨#[102,114]⟩/\f=frB p x))->nmR p x nm=f->QM (df p ⟨x.1,x.2⟩ (evs p) nm (i:Int) (k:Int)) (· = nmR p x nm i k):=λf h e=>by
  rw [e];exact K4 hp hX hi hk nm f h
 have ei:(evs p).getD i QW=ev p (i:Int):=by unfold ev;rw [tnn]
 have ek:(evs p).getD k QW=ev p (k:Int):=by unfold ev;rw [tnn]
 have go:∀ {f:Int->Int->Bool},nmR p x nm=f->(∀ same:Bool,same=(Q3 ((ev p i).Thread=(ev p k).Thread)&&Q3 (0<=(ev p i).Thread))->QM ( sumK (
  bif Q3 (nm=(⟨#[112,111]⟩:BA)) then
   UX (bif same then
    QZ (Q3<|((ev p (i:Int)).Index)<((ev p (k:Int)).Index))
   else
    QZ QY
   ) λs7=>
   QZ (.inr s7)
  else
   bif Q3 (nm=(⟨#[108,111,99]⟩:BA)) then
    QZ (.inr<|((ev p (i:Int)).Loc)==((ev p (k:Int)).Loc))
   else
    bif Q3 (nm=(⟨#[101,120,116]⟩:BA)) then
     QZ (.inr<|!same)
    else
     bif Q3 (nm=(⟨#[114,102]⟩:BA)) then
      UX (bif (ev p (k:Int)).Reads then
       gd (Q3<|0<=(k:Int)/\(k:Int)<(x.1.length:Int)) <|
       QZ ((x.1.getD k QW)==(i:Int))
      else
       QZ QY
      ) λs12=>
      QZ (.inr s12)
     else
      bif Q3 (nm=(⟨#[99,111]⟩:BA)) then
       UX (bif (ev p (i:Int)).aH then
        QZ ((ev p (k:Int)).aH)
       else
        QZ QY
       ) λs16=>
       UX (bif s16 then
        QZ (((ev p (i:Int)).Loc)==((ev p (k:Int)).Loc))
       else
        QZ QY
       ) λs18=>
       UX (bif s18 then
        UX (dB ⟨x.1,x.2⟩ ((ev p (i:Int)).Loc) (i:Int) (k:Int)) λv22=>
        QZ v22
       else
        QZ QY
       ) λs20=>
       QZ (.inr s20)
      else
       bif Q3 (nm=(⟨#[102,114]⟩:BA)) then
        UX (
         bif (ev p (i:Int)).Reads then
          bif (ev p (k:Int)).aH then
           bif (((ev p (i:Int)).Loc)==((ev p (k:Int)).Loc)) then
            bif ((i:Int) != (k:Int)) then
             gd (Q3<|0<=(i:Int)/\(i:Int)<(x.1.length:Int)) <|
             UX (dB ⟨x.1,x.2⟩ ((ev p (i:Int)).Loc) (x.1.getD i QW) (k:Int)) λv30=>
             QZ v30
            else
             QZ QY
           else
            QZ QY
          else
           QZ QY
         else
          QZ QY
        ) λs24=>
        QZ (.inr s24)
       else
        bif Q3 (nm=(⟨#[102,101,110,99,101]⟩:BA)) then
         UX (
          bif same then
           bif Q3 (((ev p (i:Int)).Index)<((ev p (k:Int)).Index)) then
            gd (Q3<|0<=(ev p (i:Int)).Thread/\(ev p (i:Int)).Thread<(p.length:Int)) <|
            UX (ko (p.getD ((ev p (i:Int)).Thread).toNat QW) ((ev p (i:Int)).Index)<|(ev p (k:Int)).Index) λv36=>
            QZ v36
           else
            QZ QY
          else
           QZ QY
         ) λsame2=>
         QZ (.inr same2)
        else
         bif Q3 (nm=(⟨#[119,114]⟩:BA)) then
          UX (bif (ev p (i:Int)).aH then
           QZ (!((ev p (i:Int)).Reads))
          else
           QZ QY
          ) λsame8=>
          UX (bif same8 then
           QZ ((ev p (k:Int)).Reads)
          else
           QZ QY
          ) λs40=>
          UX (bif s40 then
           QZ (!((ev p (k:Int)).aH))
          else
           QZ QY
          ) λs42=>
          QZ (.inr s42)
         else
          bif Q3 (nm=(⟨#[119,119]⟩:BA)) then
           UX (bif (ev p (i:Int)).aH then
            QZ (!((ev p (i:Int)).Reads))
           else
            QZ QY
           ) λs45=>
           UX (bif s45 then
            QZ ((ev p (k:Int)).aH)
           else
            QZ QY
           ) λs47=>
           UX (bif s47 then
            QZ (!((ev p (k:Int)).Reads))
           else
            QZ QY
           ) λs49=>
           QZ (.inr s49)
          else
           QZ (.inl ())
 ) λs5=>
 UX (bif Q3 (nm=(⟨#[105,100]⟩:BA)) then
  QZ ((i:Int)==(k:Int))
 else
  QZ QY
 ) λs51=>
 QZ s51) (· = f i k))->QM (df p ⟨x.1,x.2⟩ (evs p) nm (i:Int) (k:Int)) (· = nmR p x nm i k):=λ{f} e h=>by
  rw [e];unfold df J;simp only [tnn,ei,ek];refine .gdD ⟨by omega,by omega⟩ (.gdD ⟨by omega,by omega⟩ (QM.bind (P:=(· = (Q3 ((ev p i).Thread=(ev p k).Thread)&&Q3 (0<=(ev p i).Thread)))) (.bif (λh => .pure ?_) λh => .pure ?_) h))
  ·rw [eq_of_beq h];simp
  rw [decide_eq_false (λe=>by rw [e] at h;simp at h)];rfl
 rcases hn' with rfl | rfl | rfl | rfl | rfl | rfl | rfl | rfl | rfl | rfl
 ·exact four _ (.inl ⟨rfl,rfl⟩) rfl
 ·refine go (f:=Qd p) rfl λsame hs=>QM.sumR<|.bif (λh=>absurd h<|by decide) λ_ => .bif (λ_ => .pure<|congrArg Sum.inr<|KC _ _) λh=>absurd h (by decide)
 ·refine go (f:=NP p) rfl λsame hs=>QM.sumR<|.bif (λh=>absurd h<|by decide) λ_ => .bif (λh=>absurd h<|by decide) λ_ => .bif (λ_ => .pure<|congrArg Sum.inr ?_) λh=>absurd h (by decide);subst hs;unfold NP
  by_cases h1:(ev p i).Thread=(ev p k).Thread <;> by_cases h2:0<=(ev p i).Thread
  ·rw [decide_eq_true h1,decide_eq_true h2,decide_eq_false (λh=>h h1),decide_eq_false (show ¬ (ev p i).Thread<0 by omega)];rfl
  ·rw [decide_eq_true h1,decide_eq_false h2,decide_eq_false (λh=>h h1),decide_eq_true (show (ev p i).Thread<0 by omega)];rfl
  ·rw [decide_eq_false h1,decide_eq_true (show (ev p i).Thread≠(ev p k).Thread from h1)];rfl
  rw [decide_eq_false h1,decide_eq_true (show (ev p i).Thread≠(ev p k).Thread from h1)];rfl
 ·exact four _ (.inr<|.inl ⟨rfl,rfl⟩) rfl
 ·exact four _ (.inr<|.inr<|.inl ⟨rfl,rfl⟩) rfl
 ·exact four _ (.inr<|.inr<|.inr ⟨rfl,rfl⟩) rfl
 ·refine go (f:=K9 p) rfl λsame hs=>QM.sumR<|.bif (λh=>absurd h<|by decide) λ_ => .bif (λh=>absurd h<|by decide) λ_ => .bif (λh=>absurd h<|by decide) λ_ => .bif (λh=>absurd h<|by decide) λ_ => .bif (λh=>absurd h<|by decide) λ_ => .bif (λh=>absurd h<|by decide) λ_ => .bif (λ_=>?_) λh=>absurd h (by decide);refine QM.bind (P:=(· = K9 p i k)) (.bif (λh1 => .bifD (λh2=>?_) λh2 => .pure ?_) λh1 => .pure ?_) λv hv => .pure<|congrArg Sum.inr hv
  ·rw [hs,bae,dte,dte] at h1;obtain ⟨t',q',hI',e',ht',hq'⟩:=Aa hp (n:=(i:Int)) (by omega) (by omega) (by omega);obtain ⟨t,q,hI,e,ht,hq⟩:=Aa hp (n:=(k:Int)) (by omega) (by omega) (by omega);have htt:t'=t:=by omega
   subst htt;have hlen:=hI.k;have hlt:=hI.t;have hr:=hp.vs.2 t';have hnf:=hI'.o;have hpo:poB p i k=QX:=by unfold poB;rw [decide_eq_true h1.1,decide_eq_true h1.2,decide_eq_true h2];rfl
   unfold K9;rw [hpo,UY,ht',hq',hq,tnn,tnn,tnn];exact .gdD ⟨by omega,by omega⟩<|(Nc (by omega) (by omega) hlen hnf).bind λv hv => .pure hv
  ·unfold K9 poB;rw [decide_eq_false h2,Bool.and_false]
   rfl
  unfold K9 poB;rw [<- hs,h1]
  rfl
 ·refine go (f:=λi k=>mG (ev p i) QX&&mG (ev p k) QY) rfl λsame hs=>QM.sumR<|.bif (λh=>absurd h<|by decide) λ_ => .bif (λh=>absurd h<|by decide) λ_ => .bif (λh=>absurd h<|by decide) λ_ => .bif (λh=>absurd h<|by decide) λ_ => .bif (λh=>absurd h<|by decide) λ_ => .bif (λh=>absurd h<|by decide) λ_ => .bif (λh=>absurd h<|by decide) λ_ => .bif (λ_=>?_) λh=>absurd h (by decide);generalize ev p (i:Int)=a;generalize ev p (k:Int)=b;obtain ⟨_,_,_,r,w⟩:=a;obtain ⟨_,_,_,r',w'⟩:=b
  cases r <;> cases w <;> cases r' <;> cases w' <;> exact .pure rfl
 ·refine go (f:=λi k=>mG (ev p i) QX&&mG (ev p k) QX) rfl λsame hs=>QM.sumR<|.bif (λh=>absurd h<|by decide) λ_ => .bif (λh=>absurd h<|by decide) λ_ => .bif (λh=>absurd h<|by decide) λ_ => .bif (λh=>absurd h<|by decide) λ_ => .bif (λh=>absurd h<|by decide) λ_ => .bif (λh=>absurd h<|by decide) λ_ => .bif (λh=>absurd h<|by decide) λ_ => .bif (λh=>absurd h<|by decide) λ_ => .bif (λ_=>?_) λh=>absurd h (by decide);generalize ev p (i:Int)=a;generalize ev p (k:Int)=b;obtain ⟨_,_,_,r,w⟩:=a;obtain ⟨_,_,_,r',w'⟩:=b
  cases r <;> cases w <;> cases r' <;> cases w' <;> exact .pure rfl
 refine go (f:=λi k=>Q3<|i=k) rfl λsame hs=>QM.sum (PS:=λ_=>True) (PW:=(· = Q3 ((i:Int)=(k:Int)))) (.bif (λh=>absurd h<|by decide) λ_ => .bif (λh=>absurd h<|by decide) λ_ => .bif (λh=>absurd h<|by decide) λ_ => .bif (λh=>absurd h<|by decide) λ_ => .bif (λh=>absurd h<|by decide) λ_ => .bif (λh=>absurd h<|by decide) λ_ => .bif (λh=>absurd h<|by decide) λ_ => .bif (λh=>absurd h<|by decide) λ_ => .bif (λh=>absurd h<|by decide) λ_ => .pure trivial) λ_ _=>QM.bind (P:=(· = Q3 ((i:Int)=(k:Int)))) (.bif (λ_ => .pure<|KC _ _) λh=>absurd h<|by decide) λv hv => .pure hv
theorem OM (hp:PV p) (name:BA) (f:Int->Int->Bool) (h:∀ i k:Nat,i<(evs p).length->k<(evs p).length->QM (df p ⟨x.1,x.2⟩ (evs p) name (i:Int) (k:Int)) (· = f i k)):QM (d9 p ⟨x.1,x.2⟩ name) (· = D7 p f (evs p).length):=by
 have hel:=jT hp.vs;unfold d9;refine (Cc hp.vs).bind λv1 h1=>?_;subst h1;refine QM.bind (P:=(· = D7 p f (evs p).length)) ?_ λv hv => .pure hv;refine QM.loop (λz=>∃ n:Nat,n<=(evs p).length/\z=(D7 p f n,(n:Int))) (λz=>(((evs p).length:Int)-z.2).toNat) ⟨0,by omega,rfl⟩ λz ⟨n,h1,h2⟩ => ?_;subst h2;unfold vz;refine .bifD (λhk=>?_) λhk => .pure ?_
 ·simp only [] at hk;refine QM.bind (P:=(· = D7 p f (n+1))) (QM.bind (P:=(· = ((QN (λk=>f n k) (evs p).length:Nat):Int))) ?_ λv hv => .gd (aU (by simp only [];rw [Jr];omega) rfl)<|.pure<|by simp only [];rw [hv,Ic]) λv hv => .gdI (by simp only [];omega) (.pure ⟨⟨n+1,by omega,by rw [hv];rfl⟩,by simp only [];omega⟩);refine QM.loop (λz=>∃ k:Nat,k<=(evs p).length/\z=((k:Int),((QN (λk=>f n k) k:Nat):Int))) (λz=>(((evs p).length:Int)-z.1).toNat) ⟨0,by omega,rfl⟩ λz ⟨k,k1,k2⟩ => ?_;subst k2;unfold uE;refine .bifD (λhkk=>?_) λhkk => .pure ?_
  ·simp only [] at hkk;refine QM.bind (P:=(· = ((QN (λk=>f n k) (k+1):Nat):Int))) ((h n k (by omega)<|by omega).bind λv hv => .bif (λhb => .gdD (by simp only [];omega)<|.pure ?_) λhb => .pure ?_) λv hv => .gdI (by simp only [];omega) (.pure ⟨⟨k+1,by omega,by rw [hv];rfl⟩,by simp only [];omega⟩)
   ·simp only [];rw [Bj (by omega),rU (aX<|by omega) (by have := Vd (a:=2) (by omega) (show k<63 by omega);omega)];rw [hv] at hb;simp only [QN,hb,if_true]
   rw [hv] at hb;simp only [QN,hb]
   rfl
  have : k=(evs p).length:=by simp only [] at hkk;omega
  rw [<- this]
 grind
theorem OP (hp:PV p) (C:Cand p x F) {nm:BA} (hn:nm∈Bh):QM (d9 p ⟨x.1,x.2⟩ nm) (· = QQ (evs p).length (nmR p x nm)):=OM hp nm _ λi k hi hk=>OL hp C hi hk nm hn
end
section
variable {p:List (List QH)} {x:XS} {F:LI}
theorem PG (hp:PV p) {t:Nat} (ht:t<p.length) (idx reg:Int):QM (ru p (evs p) (t:Int) idx reg) (· = lrd p (t:Int) idx reg):=by
 have hel:=jT hp.vs;unfold ru;refine QM.bind (P:=(· = lrd p (t:Int) idx reg)) ?_ λv hv => .pure hv;refine QM.loop (λz=>∃ n:Nat,n<=(evs p).length/\z=((n:Int),lrN p (t:Int) idx reg n)) (λz=>(((evs p).length:Int)-z.1).toNat) ⟨0,by omega,rfl⟩ λz ⟨n,h1,h2⟩ => ?_;subst h2;unfold vA J;have en:(evs p).getD n QW=ev p (n:Int):=by unfold ev;simp_all
 simp only [tnn,en];refine .bifD (λhk=>?_) λhk => .pure (by rw [show n=(evs p).length by omega];rfl);refine QM.bind (P:=(· = lrN p (t:Int) idx reg (n+1))) (.gdD ⟨by omega,hk⟩ (QM.bind (P:=(· = lrC p (t:Int) idx reg (ev p (n:Int)))) (.bif (λh1 => .bifD (λh2 => .bif (λh3=>?_) λh3 => .pure ?_) λh2 => .pure ?_) λh1 => .pure ?_) λv hv => .bif (λh => .pure ?_) λh => .pure ?_)) λv hv => .gdI (by omega)<|.pure ⟨⟨n+1,by omega,by simp_all⟩,by omega⟩
 ·have h1:(ev p (n:Int)).Thread=(t:Int):=eq_of_beq h1;obtain ⟨t',k,hI,e,e1,e2⟩:=Aa hp (n:=(n:Int)) (by omega) (by omega) (by omega);have : t'=t:=by omega
  subst this;have := hI.k;refine .gdD ⟨by omega,by omega⟩<|.gdD ⟨by omega,by rw [e2];omega⟩<|.pure ?_;unfold lrC
  simp_all
 ·unfold lrC;simp_all
 ·unfold lrC;grind
 ·unfold lrC
  simp_all
 ·show (n:Int)=lrN p (t:Int) idx reg (n+1);rw [lrN,if_pos (by simp_all)]
 show lrN p (t:Int) idx reg n=lrN p (t:Int) idx reg (n+1);rw [lrN,if_neg (by simp_all)]
def wv (p:List<|List QH) (x:XS) (K:LI) (i:Int):Int:=
 if (ev p i).Thread<0 then 0 else if (Bt p i).Op≠3 then (Bt p i).Val else if lrE p i<0 then 0 else K.getD (x.1.getD (lrE p i).toNat QW).toNat QW
theorem Nf (hp:PV p) (C:Cand p x F) {K:LI} (hK:K.length=(evs p).length) {i:Nat} (hi:i<(evs p).length):QM (nH p (evs p) ⟨x.1,x.2⟩ (i:Int) K) (· = wv p x K (i:Int)):=by
 have ei:(evs p).getD i QW=ev p (i:Int):=by unfold ev;simp_all
 unfold nH wv J;simp only [tnn,ei];refine .gdD ⟨by omega,by omega⟩<|.bifD (λh0 => .pure<|by omega) λh0=>?_;rw [if_neg h0];obtain ⟨t,k,hI,e,e1,e2⟩:=Aa hp (n:=(i:Int)) (by omega) (by omega) h0;have hins:((p.getD (ev p (i:Int)).Thread.toNat QW).getD (ev p (i:Int)).Index.toNat QW)=Bt p (i:Int):=rfl;simp only [hins];have ht:=hI.t;have hk:=hI.k;refine .gdD ⟨by omega,by omega⟩<|.gdD ⟨by omega,by simp_all⟩<|.bif (λh3 => .pure<|by simp_all) λh3=>?_;have h3:(Bt p (i:Int)).Op=3:=by simpa using h3
 rw [if_neg (λh=>h h3)];have hlr:=PG (p:=p) hp ht (ev p (i:Int)).Index (Bt p (i:Int)).Reg;rw [<- e1] at hlr;refine hlr.bind λv6 h6=>?_;have hlE:lrd p (ev p (i:Int)).Thread (ev p (i:Int)).Index (Bt p (i:Int)).Reg=lrE p (i:Int):=rfl;rw [hlE] at h6;subst h6;refine .bifD (λhr => .pure<|by omega) λhr=>?_;rw [if_neg hr];have hst:Stp p x (i:Int) (x.1.getD (lrE p (i:Int)).toNat QW):=⟨h0,h3,hr,rfl⟩;have hd:=(hst.dom hp C ⟨by omega,by omega⟩).1;rcases JX (p:=p) (ev p (i:Int)).Thread (ev p (i:Int)).Index (Bt p (i:Int)).Reg with ⟨g1,_⟩ | ⟨r,g1,g2,_,_⟩
 ·omega
 rw [hlE] at g2;exact .gdD ⟨by omega,by rw [C.flen];omega⟩ (.gdD ⟨hd.1,by omega⟩<|.pure rfl)
def Kn (p:List<|List QH) (x:XS) (K:LI):Prop:=K.length=(evs p).length/\∀ i:Nat,i<(evs p).length->K.getD i QW = -1\/Chn p x (i:Int) (K.getD i QW)
def Dn (p:List<|List QH) (x:XS) (K:LI) (n:Nat):Prop:=∀ (i:Nat) (v:Int) (h:Nat),i<(evs p).length->(ev p (i:Int)).aH=QX->HC p x (i:Int) v h->h<n->K.getD i QW=v
theorem OQ (hp:PV p) (C:Cand p x F) {K:LI} (hK:Kn p x K) {i:Nat} (hi:i<(evs p).length):wv p x K (i:Int) = -1\/Chn p x (i:Int) (wv p x K (i:Int)):=by
 unfold wv
 split
 ·rename_i h;exact .inr<|.ini h
 rename_i h
 split
 ·rename_i h3;exact .inr<|.val h h3
 rename_i h3;have h3:(Bt p (i:Int)).Op=3:=Decidable.not_not.1 h3
 split
 ·rename_i hr;exact .inr<|.zer h h3 hr
 rename_i hr;have hst:Stp p x (i:Int) (x.1.getD (lrE p (i:Int)).toNat QW):=⟨h,h3,hr,rfl⟩;have hd:=(hst.dom hp C ⟨by omega,by omega⟩).1;rcases hK.2 (x.1.getD (lrE p (i:Int)).toNat QW).toNat (by omega) with e | e
 ·omega
 rw [Vi hd.1] at e;exact .inr<|.nxt hst e
theorem J1 (hp:PV p) (C:Cand p x F) {K:LI} {n:Nat} (hD:Dn p x K n) {i:Nat} (hi:i<(evs p).length) {v:Int} {h:Nat} (hc:HC p x (i:Int) v h) (hn:h<n+1):wv p x K (i:Int)=v:=by
 unfold wv
 cases hc with
 | ini h=>omega
 | val h h3=>omega
 | zer h h3 hr=>omega
 | @nxt _ j v m h c=>
  have hd:=h.dom hp C ⟨by omega,by omega⟩;obtain ⟨g1,g2,g3,g4⟩:=h;rw [if_neg g1,if_neg (λe=>e g2),if_neg g3,<- g4];refine hD _ _ m (by omega) ?_ (show HC p x _ v m from ?_) (by omega)
  ·rw [Vi hd.1.1];exact hd.2
  grind
theorem OT (hp:PV p) (C:Cand p x F) {K:LI} {n:Nat} (hK:Kn p x K) (hD:Dn p x K n):QM (aB (kW p ⟨x.1,x.2⟩<|evs p) (K,(0:Int))) λq=>Kn p x q/\Dn p x q (n+1):=by
 have hel:=jT hp.vs;refine QM.loop (λz=>∃ k:Nat,k<=(evs p).length/\z.2=(k:Int)/\Kn p x z.1/\Dn p x z.1 n/\∀ (i:Nat) (v:Int) (h:Nat),i<k->(ev p (i:Int)).aH=QX->HC p x (i:Int) v h->h<n+1->z.1.getD i QW=v) (λz=>(((evs p).length:Int)-z.2).toNat) ⟨0,by omega,rfl,hK,hD,λi v h hi=>absurd hi<|by omega⟩ λz ⟨k,k1,k2,k3,k4,k5⟩ => ?_;obtain ⟨L,zk⟩:=z;simp only at k2 k3 k4 k5;subst k2;unfold kW J;have ek:(evs p).getD k QW=ev p (k:Int):=by unfold ev;rw [tnn]
 simp only [tnn,ek];refine .bifD (λhk=>?_) λhk => .pure ⟨k3,λi v h hi hw hc hn=>k5 i v h (by omega) hw hc hn⟩;refine QM.bind (P:=λq=>Kn p x q/\Dn p x q n/\∀ (i:Nat) (v:Int) (h:Nat),i<k+1->(ev p (i:Int)).aH=QX->HC p x (i:Int) v h->h<n+1->q.getD i QW=v) (.gdD ⟨by omega,hk⟩<|.bif (λhw=>?_) λhw => .pure ⟨k3,k4,λi v h hi hwi hc hn=>?_⟩) λq ⟨q1,q2,q3⟩ => .gdI (by omega)<|.pure ⟨⟨k+1,by omega,rfl,q1,q2,q3⟩,by simp only [];omega⟩
 ·refine (Nf hp C k3.1 (i:=k)<|by omega).bind λw hw' => .gdD ⟨by omega,by rw [k3.1];exact hk⟩<|.pure ?_;subst hw';have hget:∀ i:Nat,(L.set k<|wv p x L (k:Int)).getD i QW=if i=k then wv p x L (k:Int) else L.getD i QW:=λi=>by
   rw [gdq,List.getElem?_set,gdq]
   by_cases e:i=k
   ·subst e;rw [if_pos rfl,if_pos (by rw [k3.1];omega),if_pos rfl]
    rfl
   rw [if_neg (Ne.symm e),if_neg e]
  refine ⟨⟨by rw [List.length_set];exact k3.1,λi hi=>?_⟩,λi v h hi hwi hc hn=>?_,λi v h hi hwi hc hn=>?_⟩
  ·rw [hget]
   split
   ·rename_i e;subst e;exact OQ hp C k3 hi
   exact k3.2 i hi
  ·rw [hget]
   split
   ·rename_i e;subst e;exact J1 hp C k4 hi hc (by omega)
   exact k4 i v h hi hwi hc hn
  rw [hget]
  split
  ·rename_i e;subst e;exact J1 hp C k4 (by omega) hc hn
  exact k5 i v h (by omega) hwi hc hn
 grind
theorem Lh (hp:PV p) (C:Cand p x F):QM (iT p ⟨x.1,x.2⟩) λq=>(q.2=QX->q.1.length=(evs p).length/\∀ i:Nat,i<(evs p).length->(ev p (i:Int)).aH=QX->Chn p x (i:Int) (q.1.getD i QW))/\(q.2=QY->∃ i:Nat,i<(evs p).length/\(ev p (i:Int)).aH=QX/\∀ v,¬ Chn p x (i:Int) v):=by
 have hel:=jT hp.vs;unfold iT;refine (Cc hp.vs).bind λv1 h1=>?_;subst h1;refine QM.bind (P:=(· = U0 (evs p).length (-1:Int))) ?_ λK0 hK0=>QM.bind (P:=λK=>Kn p x K/\Dn p x K (evs p).length) ?_ λK ⟨hK,hD⟩ => ?_
 ·refine QM.loop (λz=>∃ n:Nat,n<=(evs p).length/\z=(U0 n (-1:Int),(n:Int))) (λz=>(((evs p).length:Int)-z.2).toNat) ⟨0,by omega,rfl⟩ λz ⟨n,n1,n2⟩ => ?_;subst n2;unfold ry;simp only [];refine .bifD (λhk => .gd (aU (by grind) rfl)<|.gdI (by omega)<|.pure ⟨⟨n+1,by omega,?_⟩,by omega⟩) λhk => .pure (by grind);rw [List.replicate_succ']
  rfl
 ·subst hK0;refine QM.loop (λz=>∃ n:Nat,n<=(evs p).length/\z.2=(n:Int)/\Kn p x z.1/\Dn p x z.1 n) (λz=>(((evs p).length:Int)-z.2).toNat) ⟨0,by omega,rfl,⟨by simp,λi hi => .inl ?_⟩,λi v h _ _ _ hn=>absurd hn<|by omega⟩ λz ⟨n,n1,n2,n3,n4⟩ => ?_
  ·simp_all
  obtain ⟨L,zn⟩:=z;simp only at n2 n3 n4;subst n2;unfold qx;simp only [];exact .bifD (λhk=>(OT hp C n3 n4).bind λq ⟨q1,q2⟩ => .gdI (by omega)<|.pure ⟨⟨n+1,by omega,by simp,q1,q2⟩,by omega⟩) λhk => .pure ⟨n3,by grind⟩
 refine QM.sum (PS:=λ_=>∀ i:Nat,i<(evs p).length->(ev p (i:Int)).aH=QX -> ¬ K.getD i QW<0) (PW:=λq:List Int×Bool=>(q.2=QX->q.1.length=(evs p).length/\∀ i:Nat,i<(evs p).length->(ev p (i:Int)).aH=QX->Chn p x (i:Int) (q.1.getD i QW))/\(q.2=QY->∃ i:Nat,i<(evs p).length/\(ev p (i:Int)).aH=QX/\∀ v,¬ Chn p x (i:Int) v)) ?_ λ_ h => .pure ⟨λ_=>⟨hK.1,λi hi hw=>?_⟩,λe=>by cases e⟩
 ·refine QM.loop (λz=>∃ n:Nat,n<=(evs p).length/\z=(n:Int)/\∀ i:Nat,i<n->(ev p (i:Int)).aH=QX -> ¬ K.getD i QW<0) (λz=>(((evs p).length:Int)-z).toNat) ⟨0,by omega,rfl,λi hi=>absurd hi<|by omega⟩ λz ⟨n,n1,n2,n3⟩ => ?_;subst n2;unfold qy J;have en:(evs p).getD n QW=ev p (n:Int):=by unfold ev;rw [tnn]
  simp only [tnn,en];refine .bifD (λhk => .gdD ⟨by omega,hk⟩ (QM.bind (P:=(· = ((ev p (n:Int)).aH&&Q3 (K.getD n QW<0)))) (.bif (λh => .gdD ⟨by omega,by rw [hK.1];exact hk⟩<|.pure<|by rw [h,UY]) λh => .pure<|by rw [h];rfl) λv hv => .bif (λh => .pure ⟨λe=>(by cases e),λ_=>⟨n,by omega,?_⟩⟩) λh => .gdI (by omega)<|.pure ⟨⟨n+1,by omega,rfl,λi hi hw=>?_⟩,by omega⟩)) λhk => .pure λi hi=>n3 i (by omega)
  ·rw [hv,bae,dte] at h;refine ⟨h.1,λv hc=>?_⟩;obtain ⟨m,m1,m2⟩:=hc.hc hp C ⟨by omega,by omega⟩;have := hD n v m (by omega) h.1 m2 m1;have := (hc.rng hp C ⟨by omega,by omega⟩).1;omega
  grind
 rcases hK.2 i hi with e | e
 ·exact absurd (by rw [e];decide) (h i hi hw)
 omega
theorem Dw (hp:PV p) (C:Cand p x F):∃ (V W:LI) (b:Bool),cG p ⟨x.1,x.2⟩=QZ (V,b)/\iT p ⟨x.1,x.2⟩=QZ (W,b)/\(b=QX->V.length=(evs p).length/\W.length=(evs p).length/\∀ i:Nat,i<(evs p).length->(ev p (i:Int)).aH=QX->Chn p x (i:Int) (V.getD i QW)/\W.getD i QW=V.getD i QW):=by
 obtain ⟨⟨V,b⟩,h1,h2,h3⟩:=Lg hp C;obtain ⟨⟨W,c⟩,g1,g2,g3⟩:=Lh hp C;have e:c=b:=by
  cases b <;> cases c
  ·rfl
  ·obtain ⟨i,i1,i2,i3⟩:=h3 rfl;exact absurd i3 ((g2 rfl).2 i i1 i2).not_cyc
  ·grind
  rfl
 subst e;refine ⟨V,W,c,h1,g1,λe=>⟨(h2 e).1,(g2 e).1,λi hi hw=>⟨(h2 e).2 i hi hw,?_⟩⟩⟩;exact ((g2 e).2 i hi hw).det<|(h2 e).2 i hi hw
end
end
end Go.Proofs.YtabfkkjdfhbngaaGreatDoor
