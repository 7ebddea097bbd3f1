/- Texts joined. No conditions. -/
import Derived.Test.YtabfkkjdfhbngaaGreatDoorQ5
namespace Go.Proofs.YtabfkkjdfhbngaaGreatDoor
noncomputable section
open _root_.Inhabited renaming default -> Nj
open _root_.Bool renaming true -> Nk
open _root_.Bool renaming false -> Nl
open _root_.Option renaming some -> Nn
open _root_.Option renaming none -> Np
open _root_.Decidable renaming decide -> Nq
open _root_.List renaming range -> Qu, nil_append -> Qz, mem_map -> QB, length_range -> QC, length_take -> QD, mem_range -> QE, filter_append -> QF, take_length -> QG, append_assoc -> QI, replicate -> QJ, mem_filter -> QL, mem_singleton -> QM, length_singleton -> QR, mem_cons_self -> QS, range_succ -> QU, mem_flatMap -> QV, getElem_mem -> QX, idxOf_lt_length_of_mem -> QY, length_tail -> QZ, mem_cons_of_mem -> Q3, mem_append -> Q4, range' -> Q6, map_append -> Q7, take_append_drop -> Q9, take_of_length_le -> Ra, filter_eq_self -> Rb, getElem_map -> Re, take_append_getElem -> Rf, pairwise_iff_getElem -> Ri, flatMap_append -> Rm, eq_nil_of_length_eq_zero -> Rn, getElem_of_mem -> Ro, length_filter_le -> Rp
open _root_.Nat renaming le_trans -> Qv, le_refl -> Qx, zero_le -> Qy, le_mul_of_pos_right -> QP, le_mul_of_pos_left -> QQ, lt_or_ge -> QT, mul_pos -> QW, sub_self -> Q0, eq_of_testBit_eq -> Q5, mul_le_mul -> Q8, pow_lt_pow_right -> Rk
open _root_.BitVec renaming ofInt -> Qw, ofInt_natCast -> QN, toNat_ofNat -> QO
open _root_.Bool renaming true_and -> QA
open _root_.Option renaming bind -> QH
open _root_.Int renaming toNat_of_nonneg -> QK, fdiv_eq_ediv_of_nonneg -> Rl
open _root_.List.IsPrefix renaming trans -> Rh
open _root_.List.Nodup renaming idxOf_getElem -> Rj
open Go.RowKit
set_option maxRecDepth 100000
def evX (t k:Nat) (x:M5):List M7:=if x.Op=4 then [] else [⟨t,k,x.Loc,rdX x,wrX x⟩]
def evR (t:Nat) (row:List M5):Nat->List M7
 | 0=>[]
 | n+1=>evR t row n++evX t n (row.getD n Nj)
def ev0:List M7:=[⟨-1,0,0,Nl,Nk⟩,⟨-1,1,1,Nl,Nk⟩,⟨-1,2,2,Nl,Nk⟩]
def evP (p:List<|List M5):Nat->List M7
 | 0=>ev0
 | n+1=>evP p n++evR n (p.getD n Nj) (p.getD n Nj).length
def evs (p:List<|List M5):List M7:=evP p p.length
theorem Gb (t k:Nat) (x:M5):(evX t k x).length<=1:=by unfold evX;grind
theorem Gc (t:Nat) (row:List M5) (n:Nat):(evR t row n).length<=n:=by
 induction n with
 | zero=>exact Qx _
 | succ n ih=>
  have := Gb t n<|row.getD n Nj;simp only [evR,lla];omega
theorem Gd {p:List (List M5)} (h:Vs p) (n:Nat):(evP p n).length<=3+7*n:=by
 induction n with
 | zero=>exact Qx _
 | succ n ih=>
  have h1:=Gc n (p.getD n Nj) (p.getD n Nj).length;have h2:=h.2 n;simp only [evP,lla];omega
theorem C9 {p:List (List M5)} (hp:Vs p):M9 (jm p) (· = evs p):=by
 have hpl:=hp.1;unfold jm;refine M9.bind (P:=(· = ev0)) ?_ λl hl=>M9.bind (P:=(· = evs p)) ?_ λv hv => .pure hv
 ·refine M9.loop (λs=>∃ n:Nat,n<=3/\s=(ev0.take n,(n:Int))) (λs=>(3-s.2).toNat) ⟨0,by omega,rfl⟩ λs ⟨n,h1,h2⟩ => ?_;subst h2;unfold sH;refine .bifD (λh=>?_) λh => .pure ?_
  ·match n,h1,h with
   | 0,_,_=>exact .gdC (by decide) rfl (.gdI (by decide)<|.pure ⟨⟨1,by omega,rfl⟩,by decide⟩)
   | 1,_,_=>exact .gdC (by decide) rfl (.gdI (by decide)<|.pure ⟨⟨2,by omega,rfl⟩,by decide⟩)
   | 2,_,_=>exact .gdC (by decide) rfl (.gdI (by decide)<|.pure ⟨⟨3,by omega,rfl⟩,by decide⟩)
   | 3,_,h=>omega
  have : n=3:=by simp only [] at h;omega
  subst this
  rfl
 subst hl;refine M9.loop (λs=>∃ n:Nat,n<=p.length/\s=(evP p n,(n:Int))) (λs=>((p.length:Int)-s.2).toNat) ⟨0,by omega,rfl⟩ λs ⟨n,h1,h2⟩ => ?_;subst h2;unfold rq;refine .bifD (λh=>?_) λh => .pure ?_
 ·have hlen:=Gd hp n;have hrow:=hp.2 n;simp only [] at h;refine M9.bind (P:=(· = evP p (n+1))) (.gdD ⟨by omega,h⟩ ?_) λv hv => .gdI (by omega)<|.pure ⟨⟨n+1,by omega,by simp_all⟩,by omega⟩;refine M9.loop (λt=>∃ k:Nat,k<=(p.getD n Nj).length/\t=(evP p n++evR n (p.getD n Nj) k,(k:Int))) (λt=>(((p.getD n Nj).length:Int)-t.2).toNat) ⟨0,by omega,by simp [evR]⟩ λt ⟨k,k1,k2⟩ => ?_;subst k2;unfold rf J;simp only [tnn];refine .bifD (λhk=>?_) λhk => .pure ?_
  ·have hl2:=Gc n (p.getD n Nj) k;refine M9.bind (P:=(· = evP p n++evR n (p.getD n Nj) (k+1))) (.gdD ⟨by omega,hk⟩ ?_) λv hv => .gdI (by omega)<|.pure ⟨⟨k+1,by omega,by simp_all⟩,by omega⟩;refine .bif (λho=>?_) λho => .pure ?_
   ·refine (KE _).bind λa ha=>(JA _).bind λb hb => .gdC (by grind) rfl<|.pure ?_;have h4 : ¬ ((p.getD n Nj).getD k Nj).Op=4:=by simpa using ho
    subst ha hb;simp only [evR,evX,if_neg h4,QI]
   have h4:((p.getD n Nj).getD k Nj).Op=4:=by simpa using ho
   simp only [evR,evX,if_pos h4,List.append_nil]
  have : k=(p.getD n Nj).length:=by omega
  subst this
  rfl
 have : n=p.length:=by simp only [] at h;omega
 subst this
 rfl
theorem Gf {l:LI} {i:Nat} (h:i<l.length):l.getD i Nj∈l:=by
 simp_all
section
variable {p:List (List M5)} {u:ZVa} {z:ZSt}
def Good (p:List<|List M5) (s:LI) (n:Nat):Prop:=∀ j,j<n->(0<=s.getD j Nj/\s.getD j Nj<(p.length:Int))/\(s.take j).count (s.getD j Nj)<(p.getD (s.getD j Nj).toNat Nj).length
theorem EK {s:LI} {i:Nat} (h:i<s.length) (v:Int):(s.take<|i+1).count v=(s.take i).count v+if s.getD i Nj=v then 1 else 0:=by
 have e:s.getD i Nj=s[i]:=by rw [gdq,geq h];rfl
 rw [<- Rf h,List.count_append,List.count_singleton,e]
 simp_all
end

instance:DecidableEq M5:=λa b=>decidable_of_iff (a.Op=b.Op/\a.Loc=b.Loc/\a.Reg=b.Reg/\a.Val=b.Val) ⟨λ⟨h1,h2,h3,h4⟩=>by cases a;cases b;simp only at h1 h2 h3 h4;subst h1 h2 h3 h4;rfl,λh=>by subst h;exact ⟨rfl,rfl,rfl,rfl⟩⟩
section
variable {p:List (List M5)}
def base (p:List<|List M5) (t k:Nat):Nat:=(evP p t).length+(evR t (p.getD t Nj) k).length
theorem Gg (t:Nat) (row:List M5):∀ {n m:Nat},n<=m->evR t row n <+: evR t row m:=by
 intro n m h
 induction h with
 | refl=>simp_all
 | step _ ih=>exact ih.trans (List.prefix_append _ _)
theorem A9 (p:List<|List M5):∀ {n m:Nat},n<=m->evP p n <+: evP p m:=by
 intro n m h
 induction h with
 | refl=>simp_all
 | step _ ih=>exact ih.trans (List.prefix_append _ _)
theorem DV {l m:List M7} (h:l <+: m) {i:Nat} (hi:i<l.length):m.getD i Nj=l.getD i Nj/\i<m.length:=by
 obtain ⟨r,rfl⟩:=h
 grind
theorem KG {t k:Nat} (ht:t<p.length) (hk:k<(p.getD t Nj).length) (ho : ¬ ((p.getD t Nj).getD k Nj).Op=4) :
  (evs p).getD (base p t k) Nj=⟨t,k,((p.getD t Nj).getD k Nj).Loc,rdX<|(p.getD t Nj).getD k Nj,wrX<|(p.getD t Nj).getD k Nj⟩/\base p t k<(evs p).length:=by
 have h1:evP p t++(evR t (p.getD t Nj) k++[⟨t,k,((p.getD t Nj).getD k Nj).Loc,rdX<|(p.getD t Nj).getD k Nj,wrX<|(p.getD t Nj).getD k Nj⟩]) <+: evs p:=by
  refine Rh ?_<|A9 p (show t+1<=p.length by omega);refine (List.prefix_append_right_inj _).2 ?_;refine Rh ?_<|Gg t (p.getD t Nj) (show k+1<=(p.getD t Nj).length by omega);show _ <+: evR t (p.getD t Nj) k++evX t k ((p.getD t Nj).getD k Nj);unfold evX;rw [if_neg ho];exact List.prefix_refl _
 obtain ⟨e1,e2⟩:=DV h1 (i:=base p t k) (by simp only [base,lla,QR];omega);refine ⟨e1.trans ?_,e2⟩;rw [gdq,base,gar (by omega),Nat.add_sub_cancel_left,gar (by omega),Q0]
 rfl
def H7 (p:List<|List M5) (t k:Nat):LI:=if ((p.getD t Nj).getD k Nj).Op=4 then [] else [(base p t k:Int)]
def sTh (s:LI) (j:Nat):Nat:=(s.getD j Nj).toNat
def stK (s:LI) (j:Nat):Nat:=(s.take j).count<|s.getD j Nj
def JB (p:List<|List M5) (s:LI):Nat->LI
 | 0=>[]
 | n+1=>JB p s n++H7 p (sTh s n) (stK s n)
theorem ve {p:List (List M5)} (h:Vs p):(evs p).length<=24:=by
 have h1:=Gd h p.length;have h2:=h.1;unfold evs;omega
end
section
variable {p:List (List M5)}
theorem H8 (l:LL) (i:Nat):l.getD i Nj=l.getD i []:=rfl
theorem Gh {l:LL} {i j:Nat} {v:LI} (hi:i<l.length):(l.set i v).getD j []=if j=i then v else l.getD j []:=by
 grind
abbrev XS:=List Int×LL
def stX (p:List<|List M5) (st:XS) (n:Int):XS:=
  (if ((evs p).getD n.toNat Nj).Reads=Nk then st.1.set n.toNat ((st.2.getD ((evs p).getD n.toNat Nj).Loc.toNat []).getD (((st.2.getD ((evs p).getD n.toNat Nj).Loc.toNat []).length:Int)-1).toNat Nj) else st.1,
   st.2.set ((evs p).getD n.toNat Nj).Loc.toNat (if ((evs p).getD n.toNat Nj).cu=Nk then st.2.getD ((evs p).getD n.toNat Nj).Loc.toNat []++[n] else st.2.getD ((evs p).getD n.toNat Nj).Loc.toNat []))
def x0 (p:List<|List M5):XS:=(QJ (evs p).length<|-1,[[0],[1],[2]])
def MH (p:List<|List M5) (l:LI):XS:=l.foldl (stX p)<|x0 p
def OkN (p:List<|List M5) (n:Int):Prop:=(0<=n/\n<((evs p).length:Int))/\0<=((evs p).getD n.toNat Nj).Loc/\((evs p).getD n.toNat Nj).Loc<=2
structure InX (p:List (List M5)) (m:Nat) (st:XS):Prop where
 f:st.1.length=(evs p).length
 o:st.2.length=3
 r:∀ i:Nat,i<3->1<=(st.2.getD i []).length/\(st.2.getD i []).length<=m+1
theorem InX.x0:InX p 0 (x0 p):=⟨by simp [YtabfkkjdfhbngaaGreatDoor.x0],rfl,λi hi=>by
 match i,hi with
 | 0,_=>exact ⟨Qx 1,Qx 1⟩
 | 1,_=>exact ⟨Qx 1,Qx 1⟩
 | 2,_=>exact ⟨Qx 1,Qx 1⟩⟩
theorem InX.step {m:Nat} {st:XS} {n:Int} (h:InX p m st) (hn:OkN p n):InX p (m+1) (stX p st n):=by
 obtain ⟨_,h2,h3⟩:=hn;unfold stX;refine ⟨?_,by simp only [List.length_set];exact h.o,λi hi=>?_⟩
 ·simp only []
  split
  ·rw [List.length_set];exact h.f
  exact h.f
 simp only [];rw [Gh (by rw [h.o];omega)];have hr:=h.r ((evs p).getD n.toNat Nj).Loc.toNat (by omega);have hi':=h.r i hi
 grind
theorem InX.runs:∀ {l:LI} {m:Nat} {st:XS},InX p m st->(∀ n∈l,OkN p n)->InX p (m+l.length) (l.foldl (stX p) st)
 | [],_,_,h,_=>h
 | n::l,m,st,h,k=>by
  have := InX.runs (h.step<|k n<|QS) λx hx=>k x<|Q3 _ hx
  grind
theorem InX.run {l:LI} (h:∀ n∈l,OkN p n):InX p l.length (MH p l):=by
 have := InX.runs InX.x0 h
 rwa [Nat.zero_add] at this
theorem JC {s:LI} (hg:Good p s s.length) {j:Nat} (hj:j<s.length):sTh s j<p.length/\((sTh s j:Nat):Int)=s.getD j Nj/\stK s j<(p.getD (sTh s j) Nj).length:=by
 obtain ⟨g1,g2⟩:=hg j hj;unfold sTh stK;omega
end
def same (a b:M6):Bool:=Nq (a.From=b.From)&&Nq (a.Order=b.Order)
theorem DW {α:Type} {Q:List α->Prop} (h0:Q []) (hs:∀ l a,Q l->Q (l++[a])) (l:List α):Q l:=by
 have key:∀ m:List α,Q m.reverse:=λm=>by
  induction m with
  | nil=>exact h0
  | cons a m ih=>rw [List.reverse_cons];exact hs _ _ ih
 have h:=key l.reverse
 simp_all
section
variable {p:List (List M5)}
def ev (p:List<|List M5) (n:Int):M7:=(evs p).getD n.toNat Nj
def Wl (p:List<|List M5) (l:Int) (n:Int):Bool:=(ev p n).cu&&Nq ((ev p n).Loc=l)
theorem Gi (t:Nat) (row:List M5):∀ (r j:Nat),j<(evR t row r).length->∃ k,k<r /\ ¬ (row.getD k Nj).Op=4/\j=(evR t row k).length
 | 0,j,h=>by simp [evR] at h
 | r+1,j,h=>by
  rcases QT j (evR t row r).length with hj | hj
  ·obtain ⟨k,h1,h2,h3⟩:=Gi t row r j hj
   grind
  simp only [evR,lla] at h;have h1:=Gb t r<|row.getD r Nj;refine ⟨r,by omega,λho=>?_,by omega⟩;have : (evX t r<|row.getD r Nj).length=0:=by unfold evX;rw [if_pos ho];rfl
  omega
theorem Gj:∀ (m n:Nat),n<(evP p m).length->n<3\/∃ t k,t<m/\k<(p.getD t Nj).length /\ ¬ ((p.getD t Nj).getD k Nj).Op=4/\n=base p t k
 | 0,n,h => .inl h
 | m+1,n,h=>by
  rcases QT n (evP p m).length with hn | hn
  ·rcases Gj m n hn with h1 | ⟨t,k,h1,h2,h3,h4⟩
   ·exact .inl h1
   grind
  simp only [evP,lla] at h;obtain ⟨k,h1,h2,h3⟩:=Gi m (p.getD m Nj) (p.getD m Nj).length (n-(evP p m).length) (by omega);exact .inr ⟨m,k,by omega,h1,h2,by unfold base;omega⟩
theorem JD (t k:Nat):3<=base p t k:=by
 have := (A9 p<|Qy t).length_le;have h3:(evP p 0).length=3:=rfl;unfold base;omega
structure Isn (p:List (List M5)) (a b:Nat):Prop where
 t:a<p.length
 k:b<(p.getD a Nj).length
 o : ¬ ((p.getD a Nj).getD b Nj).Op=4
def ins (p:List<|List M5) (t k:Nat):M5:=(p.getD t Nj).getD k Nj
theorem Isn.ev {t k:Nat} (h:Isn p t k):ev p (base p t k:Int)=⟨t,k,(ins p t k).Loc,rdX<|ins p t k,wrX<|ins p t k⟩/\base p t k<(evs p).length:=by
 have := KG h.t h.k h.o;exact ⟨by unfold Go.Proofs.YtabfkkjdfhbngaaGreatDoor.ev;rw [tnn];exact this.1,this.2⟩
theorem tH {l:Nat} (hl:l<3):ev p (l:Int)=⟨-1,l,l,Nl,Nk⟩/\l<(evs p).length:=by
 obtain ⟨h1,h2⟩:=DV (A9 p<|Qy p.length) (i:=l) (by exact hl);refine ⟨?_,h2⟩;unfold ev;rw [tnn];refine h1.trans ?_
 match l,hl with
 | 0,_=>rfl
 | 1,_=>rfl
 | 2,_=>rfl
theorem vZ {n:Int} (h0:0<=n) (h:n<((evs p).length:Int)):n<3\/∃ t k,Isn p t k/\n=(base p t k:Int):=by
 rcases Gj p.length n.toNat (by show _<(evs p).length;omega) with h1 | ⟨t,k,h1,h2,h3,h4⟩
 ·omega
 exact .inr ⟨t,k,⟨h1,h2,h3⟩,by omega⟩
theorem H9 {t k t' k':Nat} (h:Isn p t k) (h':Isn p t' k') (e:base p t k=base p t' k'):t=t'/\k=k':=by
 have h1:=h.ev.1;rw [e,h'.ev.1] at h1
 grind
structure OrdI (p:List (List M5)) (s:List Int) (m:Nat):Prop where
 mem:∀ n:Int,n∈JB p s m↔∃ t k:Nat,Isn p t k/\k<(s.take m).count (t:Int)/\n=(base p t k:Int)
 pw:(JB p s m).Pairwise λi k=>i≠k/\((ev p i).Thread=(ev p k).Thread->(ev p i).Index<(ev p k).Index)
theorem OrdI.all {s:LI} (hg:Good p s s.length):∀ {m:Nat},m<=s.length->OrdI p s m
 | 0,_=>⟨λn=>⟨λh=>by simp [JB] at h,λ⟨t,k,_,h,_⟩=>by grind⟩,by simp [JB]⟩
 | m+1,hm=>by
  have ih:=OrdI.all hg (m:=m) (by omega);obtain ⟨g1,g2,g3⟩:=JC hg (j:=m) (by omega);have hc:∀ v:Int,(s.take<|m+1).count v=(s.take m).count v+if s.getD m Nj=v then 1 else 0:=λv=>EK (by omega) v;have hk:stK s m=(s.take m).count ((sTh s m:Nat):Int):=by rw [g2];rfl
  have new:∀ n:Int,n∈H7 p (sTh s m) (stK s m)↔Isn p (sTh s m) (stK s m)/\n=(base p (sTh s m) (stK s m):Int):=λn=>by
   unfold H7
   split
   ·rename_i ho;exact ⟨λh=>by grind,λh=>absurd ho h.1.o⟩
   rename_i ho;rw [QM];exact ⟨λh=>⟨⟨g1,g3,ho⟩,h⟩,λh=>h.2⟩
  refine ⟨λn=>?_,?_⟩
  ·simp only [JB,Q4,new,ih.mem]
   grind
  simp only [JB];refine List.pairwise_append.2 ⟨ih.pw,?_,λa ha b hb=>?_⟩
  ·unfold H7
   split <;> simp
  obtain ⟨t,k,h1,h2,rfl⟩:=(ih.mem a).1 ha;obtain ⟨h3,rfl⟩:=(new b).1 hb;have key:t=sTh s m->k<stK s m:=λe=>by simp_all
  refine ⟨λe=>?_,λe=>?_⟩
  ·obtain ⟨e1,e2⟩:=H9 h1 h3 (by omega);omega
  rw [h1.ev.1,h3.ev.1] at e ⊢
  simp_all
theorem W3:∀ l:Nat,l<3->([0,1,2]:LI).filter (Wl p (l:Int))=[(l:Int)]:=λl hl=>by
 have w:∀ j:Nat,j<3->Wl p (l:Int) (j:Int)=Nq ((j:Int)=(l:Int)):=λj hj=>by
  unfold Wl;rw [(tH (p:=p) hj).1];simp
 have w0:Wl p (l:Int) 0=Nq ((0:Int)=(l:Int)):=w 0 (by omega);have w1:Wl p (l:Int) 1=Nq ((1:Int)=(l:Int)):=w 1 (by omega)
 grind
abbrev rk (F:LI) (n:Int):Nat:=F.idxOf n
structure RunOf (p:List (List M5)) (x:XS) (F:List Int):Prop where
 ini:∃ o,F=[0,1,2]++o
 nd:F.Nodup
 mem:∀ n:Int,n∈F↔0<=n/\n<((evs p).length:Int)
 po:∀ i k:Int,i∈F->k∈F->0<=(ev p i).Thread->(ev p i).Thread=(ev p k).Thread->(ev p i).Index<(ev p k).Index->rk F i<rk F k
 ord:∀ l:Nat,l<3->x.2.getD l []=F.filter (Wl p (l:Int))
 flen:x.1.length=(evs p).length
 olen:x.2.length=3
 frm:∀ i:Int,i∈F->(ev p i).Reads=Nk->∃ c,c<(F.filter<|Wl p (ev p i).Loc).length/\x.1.getD i.toNat Nj=(F.filter<|Wl p (ev p i).Loc).getD c Nj/\∀ q,q<(F.filter<|Wl p (ev p i).Loc).length->(q<=c↔rk F ((F.filter<|Wl p (ev p i).Loc).getD q Nj)<rk F i)
 frN:∀ i:Int,i∈F->(ev p i).Reads=Nl->x.1.getD i.toNat Nj = -1
end
section
variable {p:List (List M5)} {x:XS} {F:LI}
def dn (p:List<|List M5) (a:Nat->Nat) (n:Int):Bool:=Nq ((ev p n).Thread<0)||Nq ((ev p n).Index<(a (ev p n).Thread.toNat:Int))
def od (x:XS) (l:Int):LI:=x.2.getD l.toNat []
def plc (l:LI) (n:Int):Int:=if n∈l then (l.idxOf n:Int) else -1
def poB (p:List<|List M5) (i k:Int):Bool:=(Nq ((ev p i).Thread=(ev p k).Thread)&&Nq (0<=(ev p i).Thread))&&Nq ((ev p i).Index<(ev p k).Index)
def rfB (p:List<|List M5) (x:XS) (i k:Int):Bool:=(ev p k).Reads&&Nq (x.1.getD k.toNat Nj=i)
def coB (p:List<|List M5) (x:XS) (i k:Int):Bool:=(((ev p i).cu&&(ev p k).cu)&&Nq ((ev p i).Loc=(ev p k).Loc))&&Nq (plc (od x (ev p i).Loc) i<plc (od x (ev p i).Loc) k)
def frB (p:List<|List M5) (x:XS) (i k:Int):Bool:=((((ev p i).Reads&&(ev p k).cu)&&Nq ((ev p i).Loc=(ev p k).Loc)) && !decide (i=k))&&Nq (plc (od x (ev p i).Loc) (x.1.getD i.toNat Nj)<plc (od x (ev p i).Loc) k)
def bef (p:List<|List M5) (x:XS) (i k:Int):Bool:=((poB p i k||rfB p x i k)||coB p x i k)||frB p x i k
theorem uP (hp:PV p) {n:Int} (h0:0<=n) (h:n<((evs p).length:Int)):0<=(ev p n).Loc/\(ev p n).Loc<=2:=by
 rcases vZ h0 h with h3 | ⟨t,k,h3,rfl⟩
 ·have := (tH (p:=p) (l:=n.toNat)<|by omega).1
  grind
 rw [h3.ev.1];have := hp.ins t k h3.t h3.k;exact ⟨this.1,this.2.1⟩
structure OdI (p:List (List M5)) (F L:List Int) (l:Int):Prop where
 nd:L.Nodup
 mem:∀ n,n∈L↔n∈F/\(ev p n).cu=Nk/\(ev p n).Loc=l
 rk:∀ q r,q<r->r<L.length->rk F (L.getD q Nj)<rk F (L.getD r Nj)
theorem RunOf.od (R:RunOf p x F) (l:Int) (hl:0<=l/\l<=2):OdI p F (od x l) l/\Go.Proofs.YtabfkkjdfhbngaaGreatDoor.od x l=F.filter (Wl p l):=by
 have h:Go.Proofs.YtabfkkjdfhbngaaGreatDoor.od x l=F.filter (Wl p l):=by
  have := R.ord l.toNat (by omega);rw [QK hl.1] at this;exact this
 refine ⟨⟨by rw [h];exact R.nd.filter _,λn=>?_,λq r hqr hr=>?_⟩,h⟩
 ·rw [h,QL];unfold Wl;simp
 rw [h] at hr ⊢;have pw:F.Pairwise λi k=>Go.Proofs.YtabfkkjdfhbngaaGreatDoor.rk F i<Go.Proofs.YtabfkkjdfhbngaaGreatDoor.rk F k:=Ri.2 λi j hi hj hij=>by
  show F.idxOf F[i]<F.idxOf F[j];rw [Rj R.nd i hi,Rj R.nd j hj];exact hij
 have := Ri.1 (pw.filter<|Wl p l) q r (by omega) hr hqr
 grind
structure OdC (p:List (List M5)) (F L:List Int) (l:Int):Prop where
 nd:L.Nodup
 mem:∀ n,n∈L↔n∈F/\(ev p n).cu=Nk/\(ev p n).Loc=l
structure Cand (p:List (List M5)) (x:XS) (F:List Int):Prop where
 mem:∀ n:Int,n∈F↔0<=n/\n<((evs p).length:Int)
 flen:x.1.length=(evs p).length
 olen:x.2.length=3
 ods:∀ l:Int,0<=l/\l<=2->OdC p F (od x l) l
 hd:∀ l:Nat,l<3->∃ t,od x (l:Int)=(l:Int)::t
 rdc:∀ i:Int,i∈F->(ev p i).Reads=Nk->x.1.getD i.toNat Nj∈od x (ev p i).Loc
 ne:∀ i:Int,i∈F->(ev p i).Reads=Nk->x.1.getD i.toNat Nj≠i
 frN:∀ i:Int,i∈F->(ev p i).Reads=Nl->x.1.getD i.toNat Nj = -1
def dc (p:List<|List M5) (x:XS) (a:Nat->Nat) (l:Int):Nat:=((od x l).filter<|dn p a).length
def IY (p:List<|List M5) (x:XS) (F:LI) (a:Nat->Nat) (n:Int):Prop:=∀ i:Int,i∈F->bef p x i n=Nk->dn p a i=Nk
def Dead (p:List<|List M5) (x:XS) (F:LI) (a:Nat->Nat):Prop:=∃ i:Int,i∈F/\(ev p i).Reads=Nk/\dn p a i=Nl/\∃ c,c<(od x (ev p i).Loc).length/\x.1.getD i.toNat Nj=(od x (ev p i).Loc).getD c Nj/\c+1<dc p x a (ev p i).Loc
def adv (a:Nat->Nat) (t:Nat):Nat->Nat:=λu=>if u=t then a t+1 else a u
def LQ (p:List<|List M5) (t k:Nat):Prop:=((p.getD t Nj).getD k Nj).Op=4
instance (t k:Nat):Decidable (LQ p t k):=by unfold LQ;infer_instance
def StA (p:List<|List M5) (a:Nat->Nat):Prop:=∀ t,t<p.length->a t<=(p.getD t Nj).length
def nxt (p:List<|List M5) (a:Nat->Nat) (t:Nat):Option Int:=if LQ p t (a t) then Np else Nn (base p t (a t):Int)
def B0 (p:List<|List M5) (x:XS) (F:LI) (a:Nat->Nat) (t:Nat):Prop:=t<p.length/\a t<(p.getD t Nj).length/\∀ n,nxt p a t=Nn n->IY p x F a n
def MI (p:List<|List M5) (a:Nat->Nat):Prop:=∀ t,t<p.length->a t=(p.getD t Nj).length
inductive Gr (p:List (List M5)) (x:XS) (F:List Int):(Nat->Nat)->List Int->Prop
 | nil {a:Nat->Nat} (h:MI p a):Gr p x F a []
 | cons {a:Nat->Nat} {t:Nat} {r:LI} (h:B0 p x F a t) (hl:∀ u,u<t -> ¬ B0 p x F a u) (k:Gr p x F (adv a t) r):Gr p x F a ((t:Int)::r)
end
theorem JE (a b:Int):(a==b)=Nq (a=b):=by grind
theorem uy {n:Nat} (h:n<9223372036854775808):IntKind.wrap .i64 (n:Int)=(n:Int):=by
 simp only [IntKind.wrap];show (let m:=(n:Int) % 18446744073709551616;if Nk&&m>=(9223372036854775808:Int) then m-18446744073709551616 else m)=n
 grind
theorem Ba {a b:Nat} (ha:a<9223372036854775808) (hb:b<9223372036854775808):bOr .i64 (a:Int) (b:Int)=((a|||b:Nat):Int):=by
 have hlt:(a|||b)<2 ^ 63:=Nat.or_lt_two_pow ha hb;show IntKind.wrap .i64 (((Qw 64 (a:Int)|||Qw 64 (b:Int)).toNat:Nat):Int)=_;have h1:(Qw 64 (a:Int)).toNat=a:=by rw [QN,QO];omega
 have h2:(Qw 64 (b:Int)).toNat=b:=by rw [QN,QO];omega
 rw [BitVec.toNat_or,h1,h2];exact uy hlt
theorem Ia {k:Nat} (h:k<62):Fb .i64 1 (k:Int)=((2 ^ k:Nat):Int):=by
 show IntKind.wrap .i64 (1*2 ^ (min (k:Int).toNat 64))=_;have hm:min (k:Int).toNat 64=k:=by omega
 rw [hm,Int.one_mul,show (2:Int) ^ k=((2 ^ k:Nat):Int) by simp];refine uy ?_;have := Rk (a:=2) (by omega) (show k<63 by omega);omega
theorem KH {m k:Nat} (hm:m<9223372036854775808) (hk:k<62):iC .i64 (kH .i64 (m:Int) (k:Int)) 1=if m.testBit k then 1 else 0:=by
 have h1:kH .i64 (m:Int) (k:Int)=((m / 2 ^ k:Nat):Int):=by
  show (m:Int).fdiv (2 ^ (min (k:Int).toNat 64))=_;have hm:min (k:Int).toNat 64=k:=by omega
  rw [hm,show (2:Int) ^ k=((2 ^ k:Nat):Int) by simp,Rl _ (Int.natCast_nonneg _)]
  rfl
 have hlt:m / 2 ^ k<9223372036854775808:=Nat.lt_of_le_of_lt (Nat.div_le_self _ _) hm;rw [h1];show IntKind.wrap .i64 (((Qw 64 ((m / 2 ^ k:Nat):Int)&&&Qw 64 (1:Int)).toNat:Nat):Int)=_;rw [Nat.testBit_eq_decide_div_mod_eq];generalize m / 2 ^ k=d at hlt;have h2:(Qw 64 ((d:Nat):Int)).toNat=d:=by rw [QN,QO];omega
 rw [BitVec.toNat_and,h2,show (Qw 64 (1:Int)).toNat=1 from rfl,Nat.and_one_is_mod]
 by_cases h:d % 2=1
 ·rw [h,if_pos (by simp)];exact uy (by omega)
 rw [show d % 2=0 by omega,if_neg (by simp)];exact uy (by omega)
def Na (f:Nat->Bool):Nat->Nat
 | 0=>0
 | n+1=>if f n then Na f n|||2 ^ n else Na f n
theorem nV (f:Nat->Bool):∀ (n j:Nat),(Na f n).testBit j=(Nq (j<n)&&f j)
 | 0,j=>by simp [Na]
 | n+1,j=>by
  have ih:=nV f n j;unfold Na
  grind
theorem DX (f:Nat->Bool):∀ n:Nat,Na f n<2 ^ n
 | 0=>by simp [Na]
 | n+1=>by
  have ih:=DX f n;have h2:(2:Nat) ^ (n+1)=2*2 ^ n:=by omega
  unfold Na
  split
  ·exact Nat.or_lt_two_pow (by omega) (by omega)
  omega
theorem Gm (f g:Nat->Bool) (n:Nat):Na f n|||Na g n=Na (λj=>f j||g j) n:=by
 apply Q5;intro j;rw [Nat.testBit_or,nV,nV,nV]
 grind
theorem gB {f:Nat->Bool} {n:Nat} (h:n<=62):Na f n<9223372036854775808:=by
 have h1:=DX f n;have h2:(2:Nat) ^ n<=2 ^ 62:=Nat.pow_le_pow_right (by omega) h;omega
section
variable {p:List (List M5)} {x:XS} {F:LI}
structure XOk (p:List (List M5)) (x:XS):Prop where
 f:x.1.length=(evs p).length
 o:x.2.length=3
 r:∀ i:Nat,(x.2.getD i Nj).length<=4000000
theorem MJ (hp:PV p) (R:Cand p x F):XOk p x:=by
 refine ⟨R.flen,R.olen,λi=>?_⟩;rcases QT i 3 with hi | hi
 ·have O:=R.ods (i:Int) (by omega);have h2:=ve hp.vs;have := List.Nodup.length_le_of_subset (l₂:=(Qu (evs p).length).map λ(i:Nat)=>(i:Int)) O.nd λn hn=>by
   obtain ⟨a,b⟩:=(R.mem n).1 ((O.mem n).1 hn).1;exact QB.2 ⟨n.toNat,QE.2 (by omega),by omega⟩
  rw [llm,QC] at this;have e:x.2.getD i Nj=od x (i:Int):=by unfold od;rw [tnn,H8]
  grind
 rw [gdq,gen (by rw [R.olen];exact hi)];exact Qy _
end
section
variable {p:List (List M5)} {x:XS} {F:LI}
def wrs (p:List<|List M5) (l:Int):LI:=((Qu (evs p).length).map λ(i:Nat)=>(i:Int)).filter<|Wl p l
theorem w9 (n:Int):n∈(Qu (evs p).length).map (λ(i:Nat)=>(i:Int))↔0<=n/\n<((evs p).length:Int):=by
 rw [QB]
 constructor
 ·grind
 rintro ⟨h1,h2⟩;exact ⟨n.toNat,QE.2 (by omega),by omega⟩
theorem KI:((Qu (evs p).length).map λ(i:Nat)=>(i:Int)).Nodup:=List.pairwise_map.2<|List.nodup_range.imp λh e=>h (by omega)
theorem Ib {l:Nat} (hl:l<3):∃ t,wrs p (l:Int)=(l:Int)::t:=by
 have h3:3<=(evs p).length:=(A9 p<|Qy p.length).length_le;refine ⟨((Q6 3<|(evs p).length-3).map λ(i:Nat)=>(i:Int)).filter<|Wl p (l:Int),?_⟩;have e:Qu (evs p).length=[0,1,2]++Q6 3 ((evs p).length-3):=by
  rw [List.range_eq_range',show [0,1,2]=Q6 0 3 from rfl];have := List.range'_append (s:=0) (m:=3) (n:=(evs p).length-3) (step:=1);rw [show 3+((evs p).length-3)=(evs p).length by omega] at this;exact this.symm
 unfold wrs;rw [e,Q7,QF];have := W3 (p:=p) l hl
 simp_all
theorem StA.adv {a:Nat->Nat} {t:Nat} (h:StA p a) (hk:a t<(p.getD t Nj).length):StA p (Go.Proofs.YtabfkkjdfhbngaaGreatDoor.adv a t):=λu hu=>by
 unfold Go.Proofs.YtabfkkjdfhbngaaGreatDoor.adv
 by_cases e:u=t
 ·grind
 rw [if_neg e];exact h u hu
end
section
variable {p:List (List M5)} {x:XS} {F:LI}
theorem Ca {α:Type} (P:α->Bool) (d:α) (L:List α):((Qu L.length).filter λi=>P<|L.getD i d).length=(L.filter P).length:=by
 induction L using DW with
 | h0=>rfl
 | hs L b ih=>
  rw [lla,QR,QU,QF,lla,QF,lla];have e1:(Qu L.length).filter (λi=>P<|(L++[b]).getD i d)=(Qu L.length).filter λi=>P (L.getD i d):=List.filter_congr λi hi=>by
   rw [gdq,gdq,gal (QE.1 hi)]
  grind
def aP (pc:Z3i) (t:Nat):Nat:=if t<3 then (Z3i.get pc (t:Int)).toNat else 0
end
def LeO {α:Type} (x y:Option α):Prop:=∀ r,x=Nn r->y=Nn r
section
variable {α β S E:Type}
theorem LeO.refl (x:Option α):LeO x x:=λ_ h=>h
theorem LeO.bind {x y:Option α} {f g:α->Option β} (h:LeO x y) (k:∀ v,LeO (f v)<|g v):LeO (x.bind f) (y.bind g):=λr hr=>by
 obtain ⟨v,e,hv⟩:=BM hr;rw [h v e];exact k v r hv
end
section
variable {p:List (List M5)} {x:XS} {F:LI}
abbrev Key:=Int×Int×Int
def aK (k:Key):Nat->Nat:=aP ⟨k.1,k.2.1,k.2.2⟩
def Gn (p:List<|List M5) (x:XS) (F:LI) (l:List<|Key×Bool):Prop:=∀ e∈l,Dead p x F<|aK e.1
theorem Gn.get {l:List (Key×Bool)} (h:Gn p x F l) {k:Key} (hk:((Fa l k).getD Nl)=Nk):Dead p x F (aK k):=by
 unfold Fa at hk
 cases hm:FI l k with
 | none=>rw [hm] at hk;cases hk
 | some j=>
  obtain ⟨hj,v,hv⟩:=CH hm;exact h (k,v)<|List.mem_of_getElem? hv
theorem Gn.put {l:List (Key×Bool)} (h:Gn p x F l) {k:Key} (hk:Dead p x F<|aK k):Gn p x F (Mq l k Nk):=λe he=>by
 unfold Mq at he
 cases hm:FI l k with
 | none=>
  rw [hm] at he;rcases Q4.1 he with he | he
  ·exact h e he
  rw [QM] at he;subst he;exact hk
 | some j=>
  rw [hm] at he;rcases List.mem_or_eq_of_mem_set he with he | he
  ·exact h e he
  subst he;exact hk
end

section
variable {p:List (List M5)} {x:XS} {F:LI}
theorem Gr.congr {F':LI} (hF:∀ n:Int,n∈F↔n∈F') {a:Nat->Nat} {r:LI} (h:Gr p x F a r):Gr p x F' a r:=by
 have key:∀ {a:Nat->Nat} {t:Nat},B0 p x F a t↔B0 p x F' a t:=λ{a t}=>by
  unfold B0 IY;refine ⟨λh=>⟨h.1,h.2.1,λn hn i hi hb=>h.2.2 n hn i ((hF i).2 hi) hb⟩,λh=>⟨h.1,h.2.1,λn hn i hi hb=>h.2.2 n hn i ((hF i).1 hi) hb⟩⟩
 induction h with
 | nil h=>exact .nil h
 | cons h hl _ ih=>exact .cons (key.1 h) (λu hu hr=>hl u hu<|key.2 hr) ih
end

section
variable {α β:Type}
theorem l6 {step:List α×Int->Option ((List α×Int) ⊕ List α)} (n:Nat) (a:List α) (h:Nat->List α) (hs:∀ k,k<n->M9 (step (a++(Qu k).flatMap h,(k:Int))) (· = .inl (a++(Qu<|k+1).flatMap h,((k+1:Nat):Int))))
  (he:M9 (step (a++(Qu n).flatMap h,(n:Int))) (· = .inr (a++(Qu n).flatMap h))):M9 (aV step (a,(0:Int))) (· = a++(Qu n).flatMap h):=by
 refine M9.loop (λs=>∃ k:Nat,k<=n/\s=(a++(Qu k).flatMap h,(k:Int))) (λs=>((n:Int)-s.2).toNat) ⟨0,Qy _,by simp⟩ λs ⟨k,hk,e⟩ => ?_;subst e
 by_cases hlt:k<n
 ·refine (hs k hlt).mono λv hv=>?_;subst hv;exact ⟨⟨k+1,hlt,rfl⟩,by simp only [];omega⟩
 grind
theorem fE (h:Nat->List α) (k:Nat):(Qu<|k+1).flatMap h=(Qu k).flatMap h++h k:=by
 rw [QU,Rm];simp
theorem zo (h:Nat->List α) {k n:Nat} (hk:k<=n):((Qu k).flatMap h).length<=((Qu n).flatMap h).length:=by
 induction hk with
 | refl=>omega
 | step _ ih=>rw [fE,lla];omega
theorem xa {l:List α} {f g:α->List β} (h:∀ a∈l,f a=g a):l.flatMap f=l.flatMap g:=by
 induction l with
 | nil=>rfl
 | cons a l ih=>
  simp_all
theorem gD [Inhabited α] (l:List α) (f:α->List β):(Qu l.length).flatMap (λk=>f<|l.getD k Nj)=l.flatMap f:=by
 induction l using DW with
 | h0=>rfl
 | hs l a ih=>
  have e:(l++[a]).getD l.length Nj=a:=by rw [gdq,gar (Qx _)];simp
  rw [lla,QR,fE,e,Rm,<- ih]
  congr 1
  ·refine xa λk hk=>?_
   grind
  simp
theorem rS (l:List α) (f:α->β):l.flatMap (λa=>[f a])=l.map f:=by
 induction l with
 | nil=>rfl
 | cons a l ih=>simp_all
theorem iB {l:List α} {f:α->List β} {m:Nat} (h:∀ a∈l,(f a).length=m):(l.flatMap f).length=l.length*m:=by
 induction l with
 | nil=>simp
 | cons a l ih=>
  grind
def rT:List (List α)->List (List α)
 | []=>[[]]
 | c::cs=>c.flatMap λy=>(rT cs).map (y :: ·)
theorem wh (cs:List<|List α) (c:List α):rT (cs++[c])=(rT cs).flatMap λx=>c.map λy=>x++[y]:=by
 induction cs with
 | nil=>
  show c.flatMap (λy=>[[y]])=[[]].flatMap λx=>c.map λy=>x++[y];rw [rS];simp
 | cons d ds ih=>
  show d.flatMap (λz=>(rT<|ds++[c]).map (z :: ·))=(d.flatMap λz=>(rT ds).map (z :: ·)).flatMap λx=>c.map λy=>x++[y];rw [ih,List.flatMap_assoc];refine xa λz _=>?_;rw [List.map_flatMap,List.flatMap_map];refine xa λx _=>?_
  simp_all
theorem ni:∀ {cs:List (List α)} {x:List α},x∈rT cs↔x.length=cs.length/\∀ (i:Nat) (h:i<cs.length),∃ y∈cs[i],x[i]? = Nn y
 | [],x=>by
  show x∈[[]]↔_;rw [QM]
  constructor
  ·rintro rfl;exact ⟨rfl,λi h=>by simp at h⟩
  rintro ⟨h,_⟩;exact Rn h
 | c::cs,x=>by
  show x∈c.flatMap (λy=>(rT cs).map (y :: ·))↔_;simp only [QV,QB]
  constructor
  ·rintro ⟨y,hy,z,hz,rfl⟩;obtain ⟨h1,h2⟩:=ni.1 hz;refine ⟨by simp [h1],λi hi=>?_⟩
   match i with
   | 0=>exact ⟨y,hy,rfl⟩
   | i+1=>exact h2 i (by simpa using hi)
  rintro ⟨h1,h2⟩
  match x,h1 with
  | y::z,h1=>
   obtain ⟨y',hy',e⟩:=h2 0 (by simp);obtain rfl:y=y':=by simpa using e
   exact ⟨y,hy',z,ni.2 ⟨by simpa using h1,λi hi=>h2 (i+1)<|by simpa using hi⟩,rfl⟩
def nG (l:List Nat):Nat:=l.foldr (· * ·) 1
theorem rU:∀ cs:List (List α),(rT cs).length=nG (cs.map List.length)
 | []=>rfl
 | c::cs=>by
  show (c.flatMap λy=>(rT cs).map (y :: ·)).length=c.length*nG (cs.map List.length);rw [<- rU cs];exact iB λy _=>llm _
theorem xL (l k:List Nat):nG (l++k)=nG l*nG k:=by
 induction l with
 | nil=>show nG k=1*_;omega
 | cons a l ih=>
  show a*nG (l++k)=a*nG l*nG k
  grind
theorem Ao {l k:List Nat} (hl:l.length=k.length) (h:∀ i:Nat,i<l.length->l.getD i 0<=k.getD i 0):nG l<=nG k:=by
 induction l generalizing k with
 | nil=>
  grind
 | cons a l ih=>
  match k,hl with
  | b::k,hl=>
   refine Q8 ?_<|ih (by grind) λi hi=>?_
   ·have := h 0 (by simp)
    grind
   have := h (i+1) (by simpa using hi)
   simp_all
theorem wm {l:List Nat} (h:∀ a∈l,1<=a):1<=nG l:=by
 induction l with
 | nil=>exact Qx _
 | cons a l ih=>exact QW (h a QS) (ih λb hb=>h b<|Q3 _ hb)
theorem Ap {l:List Nat} (h:∀ a∈l,1<=a) (k:Nat):nG (l.take k)<=nG l:=by
 have e:=xL (l.take k)<|l.drop k;rw [Q9] at e;have := wm (l:=l.drop k) λa ha=>h a<|List.mem_of_mem_drop ha;rw [e];exact QP _ this
theorem Aq {l:List Nat} (h:∀ a∈l,1<=a) (k:Nat):nG (l.drop k)<=nG l:=by
 have e:=xL (l.take k)<|l.drop k;rw [Q9] at e;have := wm (l:=l.take k) λa ha=>h a<|List.mem_of_mem_take ha;rw [e];exact QQ _ this
end
theorem gF {α:Type} [Inhabited α] {l:List α} {k:Nat} (h:k<l.length):l.take (k+1)=l.take k++[l.getD k Nj]:=by
 simp_all
theorem JF {n m:Nat} (hn:n<=1000000000) (hm:Nat.ble m 1000=Nk):dS n m=Nk:=by
 have h1:=nlb hm;have h2:n*m<=1000000000*1000:=Q8 hn h1;exact decide_eq_true ⟨by omega,by omega⟩
theorem wu {s:LI} (h:s.length<=4000000):M9 (aJ s) (· = s):=by
 unfold aJ nilK;have hc:gd (dS (([]:LI).length+s.length) 8) (Nn<|([]:LI)++s)=Nn s:=qG<|eC (by simpa using h) rfl;rw [hc]
 cases s with
 | nil=>exact .of (by simp) rfl
 | cons a s=>exact .pure rfl
theorem uB (chs:LL) (hn:chs.length<=100) (hb:∀ k,k<=chs.length->(rT<|chs.take k).length<=100000):M9 (iT chs) (· = rT chs):=by
 unfold iT;refine M9.bind (P:=(· = rT chs)) ?_ λv hv => .pure hv;refine M9.loop (λs=>∃ k:Nat,k<=chs.length/\s=((k:Int),rT<|chs.take k)) (λs=>((chs.length:Int)-s.1).toNat) ⟨0,Qy _,rfl⟩ λs ⟨k,hk,e⟩ => ?_;subst e;unfold nE;simp only [];refine .bifD (λhlt=>?_) λhge => .pure (by rw [show k=chs.length by omega,QG]);have hlt:k<chs.length:=by omega
 have hb1:=hb (k+1) (by omega);have hb0:=hb k (by omega);rw [gF hlt,wh] at hb1;refine M9.bind (P:=(· = rT (chs.take<|k+1))) (.gdD ⟨by omega,by omega⟩ (M9.bind (P:=(· = rT (chs.take<|k+1))) ?_ λv hv => .pure hv)) λv hv => .gdI (by omega)<|.pure ⟨⟨k+1,by omega,by rw [hv];rfl⟩,by simp only [];omega⟩;rw [gF hlt,wh];generalize hall:rT (chs.take k)=all at *;have hrow:∀ j,(all.getD j Nj).length<=100:=λj=>by
  by_cases hj:j<all.length
  ·have hm:all.getD j Nj∈all:=by rw [gdq,geq hj];exact QX _
   rw [<- hall] at hm;have := (ni.1 hm).1;rw [<- hall,this,QD];omega
  rw [gdq,gen (by omega)];exact Qy _
 have hch:((chs.getD k Nj)).length<=100000\/all=[]:=by
  cases all with
  | nil=>exact .inr rfl
  | cons a l=>
   left
   rw [List.flatMap_cons,lla,llm] at hb1;omega
 have hch':0<all.length->(chs.getD k Nj).length<=100000:=λh0=>by
  rcases hch with h | h
  ·exact h
  rw [h] at h0;cases h0
 have hFl:=hb1;rw [<- gD all] at hFl;refine (l6 all.length [] (λj=>(chs.getD k Nj).map λy=>all.getD j Nj++[y]) (λj hj=>?_) ?_).mono λv hv=>?_
 ·unfold iI;simp only [Qz,tnn];refine .bifD (λ_=>?_) λh=>absurd (show (j:Int)<(all.length:Int) by omega) h;refine M9.bind (P:=(· = (Qu<|j+1).flatMap λj=>(chs.getD k Nj).map λy=>all.getD j Nj++[y])) (.gdD ⟨by omega,by omega⟩ ?_) λv hv => .gdI (by omega)<|.pure (by rw [hv];rfl);have hc:=hch' (by omega);have hF1:=Qv (zo (λj=>(chs.getD k Nj).map λy=>all.getD j Nj++[y])<|show j<=all.length by omega) hFl;refine (l6 (chs.getD k Nj).length _ (λi=>[all.getD j Nj++[(chs.getD k Nj).getD i Nj]]) (λi hi=>?_) ?_).mono λv hv=>?_
  ·unfold iH J;simp only [tnn];have hil:((Qu i).flatMap λi=>[all.getD j Nj++[(chs.getD k Nj).getD i Nj]]).length=i*1:=by rw [iB (m:=1) λ_ _=>rfl,QC]
   refine .bifD (λ_=>?_) λh=>absurd (show (i:Int)<((chs.getD k Nj).length:Int) by omega) h;refine .gdD ⟨by omega,by omega⟩<|(wu (by have := hrow j;omega)).bind λv35 h35=>?_;subst h35;refine .gd (eC (by have := hrow j;omega) rfl) (.gd (eC (by simp only [lla];omega) rfl)<|.gdI (by omega)<|.pure ?_);simp only [fE,QI]
   rfl
  ·unfold iH J;exact .bifD (λh=>absurd h<|by simp only [tnn];omega) λ_ => .pure rfl
  rw [hv,fE,gD (chs.getD k Nj) λy=>[all.getD j Nj++[y]],rS]
 ·unfold iI;exact .bifD (λh=>absurd h<|by simp only [];omega) λ_ => .pure rfl
 rw [hv,Qz];exact gD all λx=>(chs.getD k Nj).map λy=>x++[y]
theorem EL {s:LL} (h:s.length<=4000000):M9 (lZ s) (· = s):=by
 unfold lZ nilK;have hc:gd (dS (([]:LL).length+s.length) 24) (Nn<|([]:LL)++s)=Nn s:=qG<|eC (by simpa using h) rfl;rw [hc]
 cases s with
 | nil=>exact .of (by simp) rfl
 | cons a s=>exact .pure rfl
theorem xb (chs:List<|LL) (hn:chs.length<=100) (hb:∀ k,k<=chs.length->(rT<|chs.take k).length<=100000):M9 (jb chs) (· = rT chs):=by
 unfold jb;refine M9.bind (P:=(· = rT chs)) ?_ λv hv => .pure hv;refine M9.loop (λs=>∃ k:Nat,k<=chs.length/\s=((k:Int),rT<|chs.take k)) (λs=>((chs.length:Int)-s.1).toNat) ⟨0,Qy _,rfl⟩ λs ⟨k,hk,e⟩ => ?_;subst e;unfold qx;simp only [];refine .bifD (λhlt=>?_) λhge => .pure (by rw [show k=chs.length by omega,QG]);have hlt:k<chs.length:=by omega
 have hb1:=hb (k+1) (by omega);have hb0:=hb k (by omega);rw [gF hlt,wh] at hb1;refine M9.bind (P:=(· = rT (chs.take<|k+1))) (.gdD ⟨by omega,by omega⟩ (M9.bind (P:=(· = rT (chs.take<|k+1))) ?_ λv hv => .pure hv)) λv hv => .gdI (by omega)<|.pure ⟨⟨k+1,by omega,by rw [hv];rfl⟩,by simp only [];omega⟩;rw [gF hlt,wh];generalize hall:rT (chs.take k)=all at *;have hrow:∀ j,(all.getD j Nj).length<=100:=λj=>by
  by_cases hj:j<all.length
  ·have hm:all.getD j Nj∈all:=by rw [gdq,geq hj];exact QX _
   rw [<- hall] at hm;have := (ni.1 hm).1;rw [<- hall,this,QD];omega
  rw [gdq,gen (by omega)];exact Qy _
 have hch:((chs.getD k Nj)).length<=100000\/all=[]:=by
  cases all with
  | nil=>exact .inr rfl
  | cons a l=>
   left
   rw [List.flatMap_cons,lla,llm] at hb1;omega
 have hch':0<all.length->(chs.getD k Nj).length<=100000:=λh0=>by
  rcases hch with h | h
  ·exact h
  rw [h] at h0;cases h0
 have hFl:=hb1;rw [<- gD all] at hFl;refine (l6 all.length [] (λj=>(chs.getD k Nj).map λy=>all.getD j Nj++[y]) (λj hj=>?_) ?_).mono λv hv=>?_
 ·unfold kO;simp only [Qz,tnn];refine .bifD (λ_=>?_) λh=>absurd (show (j:Int)<(all.length:Int) by omega) h;refine M9.bind (P:=(· = (Qu<|j+1).flatMap λj=>(chs.getD k Nj).map λy=>all.getD j Nj++[y])) (.gdD ⟨by omega,by omega⟩ ?_) λv hv => .gdI (by omega)<|.pure (by rw [hv];rfl);have hc:=hch' (by omega);have hF1:=Qv (zo (λj=>(chs.getD k Nj).map λy=>all.getD j Nj++[y])<|show j<=all.length by omega) hFl;refine (l6 (chs.getD k Nj).length _ (λi=>[all.getD j Nj++[(chs.getD k Nj).getD i Nj]]) (λi hi=>?_) ?_).mono λv hv=>?_
  ·unfold kN J;simp only [tnn];have hil:((Qu i).flatMap λi=>[all.getD j Nj++[(chs.getD k Nj).getD i Nj]]).length=i*1:=by rw [iB (m:=1) λ_ _=>rfl,QC]
   refine .bifD (λ_=>?_) λh=>absurd (show (i:Int)<((chs.getD k Nj).length:Int) by omega) h;refine .gdD ⟨by omega,by omega⟩<|(EL (by have := hrow j;omega)).bind λv35 h35=>?_;subst h35;refine .gd (eC (by have := hrow j;omega) rfl) (.gd (eC (by simp only [lla];omega) rfl)<|.gdI (by omega)<|.pure ?_);simp only [fE,QI]
   rfl
  ·unfold kN J;exact .bifD (λh=>absurd h<|by simp only [tnn];omega) λ_ => .pure rfl
  rw [hv,fE,gD (chs.getD k Nj) λy=>[all.getD j Nj++[y]],rS]
 ·unfold kO;exact .bifD (λh=>absurd h<|by simp only [];omega) λ_ => .pure rfl
 rw [hv,Qz];exact gD all λx=>(chs.getD k Nj).map λy=>x++[y]
def prm:Nat->LI->LL
 | 0,_=>[[]]
 | n+1,l=>(Qu l.length).flatMap λi=>(prm n<|l.take i++l.drop (i+1)).map (l.getD i Nj :: ·)
theorem Bb:∀ (n:Nat) (l:LI),l.length=n->(prm n l).length=M8 n
 | 0,_,_=>rfl
 | n+1,l,h=>by
  show ((Qu l.length).flatMap λi=>(prm n<|l.take i++l.drop (i+1)).map (l.getD i Nj :: ·)).length=M8 n*(n+1);rw [iB (m:=M8 n) λi hi=>?_,QC,h,Nat.mul_comm];have := QE.1 hi;rw [llm,Bb n _ (by grind)]
theorem DY {l:LI} {i:Nat} (h:i<l.length):(l.getD i Nj::(l.take i++l.drop (i+1))).Perm l:=by
 have e:l=l.take i++(l.getD i Nj::l.drop (i+1)):=by
  rw [gdq,geq h];simp
 grind
theorem vg:∀ {n:Nat} {l:LI},l.length=n->∀ {o:LI},o∈prm n l↔o.Perm l
 | 0,l,h,o=>by
  obtain rfl:=Rn h;show o∈[[]]↔_
  simp_all
 | n+1,l,h,o=>by
  show o∈(Qu l.length).flatMap (λi=>(prm n<|l.take i++l.drop (i+1)).map (l.getD i Nj :: ·))↔_;simp only [QV,QB,QE]
  constructor
  ·rintro ⟨i,hi,r,hr,rfl⟩;have := (vg<|by grind).1 hr;exact (this.cons _).trans<|DY hi
  intro hp
  match o,hp.length_eq with
  | [],e=>simp_all
  | a::r,e=>
   have ha:a∈l:=hp.mem_iff.1 QS;have hi:=QY ha;have hg:l.getD (l.idxOf a) Nj=a:=by
    rw [gdq,geq hi];exact List.getElem_idxOf hi
   refine ⟨l.idxOf a,hi,r,(vg<|by grind).2 ?_,by rw [hg]⟩;have h2:=DY hi;rw [hg] at h2;exact (hp.trans h2.symm).cons_inv
theorem DZ {a b:Nat} (h:a<=b):M8 a<=M8 b:=by
 induction h with
 | refl=>omega
 | step _ ih=>exact Qv ih (QP _<|by omega)
theorem EM {n:Nat} {l:LI} (hl:l.length=n+1) (hn:n+1<=12) {acc:Nat} (hacc:acc<l.length) {step:LL×Int->Option ((LL×Int) ⊕ LL)} {r:LL} (hr:r=prm n (l.take acc++l.drop (acc+1)))
  (hs:∀ s,step s=bif Nq (s.2<(r.length:Int)) then
   gd (Nq<|0<=s.2/\s.2<(r.length:Int)) <|
   gd (dS (([l.getD acc Nj]:LI).length+(r.getD s.2.toNat Nj).length) 8) <|
   gd (dS (s.1.length+1) 24) <|
   gd (M3 .i64<|s.2+(1:Int)) <|
   Nn (.inl ((s.1++[(([l.getD acc Nj]:LI)++(r.getD s.2.toNat Nj))]),(s.2+(1:Int)))) else Nn (.inr s.1)) :
  M9 (aV step ((Qu acc).flatMap (λi=>(prm n<|l.take i++l.drop (i+1)).map (l.getD i Nj :: ·)),(0:Int))) (· = (Qu<|acc+1).flatMap (λi=>(prm n<|l.take i++l.drop (i+1)).map (l.getD i Nj :: ·))):=by
 have hrl:r.length=M8 n:=by rw [hr];exact Bb n _ (by grind)
 have hf:M8 n<=M8 11:=DZ (by omega);have h11:M8 11=39916800:=by decide
 have hrow:∀ k,(r.getD k Nj).length<=12:=λk=>by
  by_cases hk:k<r.length
  ·have hm:r.getD k Nj∈r:=by rw [gdq,geq hk];exact QX _
   have hll:(l.take acc++l.drop (acc+1)).length=n:=by rw [lla,QD,List.length_drop];omega
   have := ((vg hll).1<|show r.getD k Nj∈prm n (l.take acc++l.drop (acc+1)) by rw [<- hr];exact hm).length_eq;omega
  rw [gdq,gen (by omega)];exact Qy _
 have hpre:((Qu acc).flatMap (λi=>(prm n<|l.take i++l.drop (i+1)).map (l.getD i Nj :: ·))).length<=12*39916800:=by
  have e:=iB (l:=Qu acc) (f:=λi=>(prm n<|l.take i++l.drop (i+1)).map (l.getD i Nj :: ·)) (m:=M8 n) λi hi=>by
   have := QE.1 hi;rw [llm,Bb n _ (by grind)]
  rw [e,QC];exact Q8 (by omega) (by omega)
 refine (l6 r.length _ (λk=>[l.getD acc Nj::r.getD k Nj]) (λk hk=>?_) ?_).mono λv hv=>?_
 ·rw [hs];have hkl:((Qu k).flatMap λk=>[l.getD acc Nj::r.getD k Nj]).length=k*1:=by rw [iB (m:=1) λ_ _=>rfl,QC]
  refine .bifD (λ_ => .gdD ⟨by omega,by omega⟩<|.gd (eC (by grind) rfl)<|.gd (JF (by grind) rfl)<|.gdI (by omega)<|.pure ?_) λh=>absurd (show (k:Int)<(r.length:Int) by omega) h;simp only [tnn,fE,QI]
  rfl
 ·rw [hs];exact .bifD (λh=>absurd h<|by omega) λ_ => .pure rfl
 rw [hv,fE,gD r λx=>[l.getD acc Nj::x],rS,<- hr]
theorem Ar:∀ (n:Nat) (l:LI),l.length=n->n<=12->∀ m,n<m->M9 (ja m l) (· = prm n l)
 | _,_,_,_,0,h=>by omega
 | 0,l,hl,hn,m+1,_=>by
  show M9 (gy _ l) _;unfold gy;exact .bif (λ_ => .pure rfl) λh=>by simp_all
 | n+1,l,hl,hn,m+1,hm=>by
  show M9 (gy _ l) _;unfold gy;refine .bif (λh=>by grind) λ_=>M9.bind (P:=(· = prm (n+1) l)) ?_ λv hv => .pure hv;refine (l6 l.length [] (λi=>(prm n<|l.take i++l.drop (i+1)).map (l.getD i Nj :: ·)) (λk hk=>?_) ?_).mono λv hv=>?_
  ·unfold nU;simp only [Qz,tnn];refine .bifD (λ_=>?_) λh=>absurd (show (k:Int)<(l.length:Int) by omega) h;refine M9.bind (P:=(· = (Qu<|k+1).flatMap λi=>(prm n<|l.take i++l.drop (i+1)).map (l.getD i Nj :: ·))) ?_ λv hv => .gdI (by omega)<|.pure (by simp_all);refine .gdD ⟨by omega,by omega⟩<|(wu<|by omega).bind λv16 h16 => .gdI (by omega) ?_;subst v16;refine M9.bind (P:=(· = l.take k++l.drop (k+1))) ?_ λv21 h21=>?_
   ·unfold pJ;refine .gdD ⟨by omega,by omega,by omega,by omega⟩<|.pure ?_
    simp_all
   subst v21;refine (Ar n _ (by grind) (by omega) m<|by omega).bind λv25 h25=>?_;exact EM hl hn hk h25 λs=>by unfold ry J;rfl
  ·unfold nU;exact .bifD (λh=>absurd h<|by omega) λ_ => .pure rfl
  rw [hv]
  rfl
theorem yF {α:Type} {f:Nat->Option α} {v:α} (n:Nat) (h:∀ m,n<m->M9 (f m) (· = v)):M9 (EB f) (· = v):=M9.of (wV (n+1) λm hm=>(h m hm).eq) rfl
theorem JG (l:LI) (h:l.length<=12):M9 (rR l) (· = prm l.length l):=yF l.length λm hm=>Ar l.length l rfl h m hm
section
variable {p:List (List M5)}
def chE (p:List<|List M5) (i:Nat):LI:=if (ev p (i:Int)).Reads=Nk then (wrs p (ev p (i:Int)).Loc).filter (λn => !decide (n=(i:Int))) else [-1]
def chF (p:List<|List M5):LL:=(Qu (evs p).length).map<|chE p
def chL (p:List<|List M5) (l:Nat):LL:=(prm (wrs p (l:Int)).tail.length (wrs p (l:Int)).tail).map ((l:Int) :: ·)
def chO (p:List<|List M5):List (LL):=[chL p 0,chL p 1,chL p 2]
def kY (p:List<|List M5):List M6:=(rT<|chF p).flatMap λf=>(rT<|chO p).map λo=>⟨f,o⟩
abbrev Nb (p:List<|List M5):List (List Ins):=p.map λr=>r.map pI
theorem Cb (q:M7->Bool) (f:Ins->Bool) (h:∀ t k x,x.Op≠4->q ⟨t,k,x.Loc,rdX x,wrX x⟩=f (pI x)) (h4:∀ x:M5,x.Op=4->f (pI x)=Nl) (t:Nat) (row:List M5):∀ r:Nat,r<=row.length->((evR t row r).filter q).length=((row.take r).map pI).countP f
 | 0,_=>by simp [evR]
 | r+1,hr=>by
  have ih:=Cb q f h h4 t row r (by omega);have e:row.getD r Nj=row[r]:=by rw [gdq,geq (by omega)];rfl
  rw [evR,QF,lla,ih,<- Rf (show r<row.length by omega),Q7,List.countP_append,e]
  congr 1
  unfold evX
  grind
theorem zq (q:M7->Bool) (f:Ins->Bool) (h:∀ (t k:Int) x,x.Op≠4->q ⟨t,k,x.Loc,rdX x,wrX x⟩=f (pI x)) (h4:∀ x:M5,x.Op=4->f (pI x)=Nl):((evs p).filter q).length=(ev0.filter q).length+qV f (Nb p):=by
 have key:∀ n:Nat,n<=p.length->((evP p n).filter q).length=(ev0.filter q).length+qV f ((Nb p).take n):=λn=>by
  induction n with
  | zero=>intro _;simp [evP,qV]
  | succ n ih=>
   intro hn;have e:p.getD n Nj=p[n]:=by rw [gdq,geq (by omega)];rfl
   have hn':n<(Nb p).length:=by rw [llm];omega
   rw [evP,QF,lla,ih (by omega),Cb q f (λt k=>h t k) h4 n _ _ (Qx _),fH f (Nb p) n hn',QG,Nat.add_assoc,e]
   simp_all
 have := key p.length<|Qx _;rw [show (Nb p).take p.length=Nb p from Ra (by simp)] at this;exact this
theorem Da {l:Nat} (hl:l<3):(wrs p (l:Int)).length=cw (Nb p) (l:Int)+1:=by
 have h1:(wrs p (l:Int)).length=((evs p).filter λe=>e.cu&&Nq (e.Loc=(l:Int))).length:=by
  rw [<- Ca (λe:M7=>e.cu&&Nq (e.Loc=(l:Int))) Nj (evs p)];unfold wrs;rw [List.filter_map,llm]
  congr 2
 rw [h1,zq _ (bM (l:Int) wrB) (λt k x ho=>?_) (λx ho=>?_)]
 ·have : (ev0.filter λe=>e.cu&&Nq (e.Loc=(l:Int))).length=1:=by
   match l,hl with
   | 0,_=>rfl
   | 1,_=>rfl
   | 2,_=>rfl
  rw [this];unfold cw;omega
 ·unfold bM pI wrB wrO wrX
  grind
 unfold bM pI wrB wrO
 grind
theorem Db {l:Nat} (hl:l<3):((evs p).filter λe=>e.Reads&&Nq (e.Loc=(l:Int))).length=cr (Nb p) (l:Int):=by
 rw [zq _ (bM (l:Int) rdB) (λt k x ho=>?_) (λx ho=>?_)]
 ·have : (ev0.filter λe=>e.Reads&&Nq (e.Loc=(l:Int))).length=0:=by
   match l,hl with
   | 0,_=>rfl
   | 1,_=>rfl
   | 2,_=>rfl
  rw [this];unfold cr;omega
 ·unfold bM pI rdB rdO rdX
  grind
 unfold bM pI rdB rdO
 grind
def gE (w:Nat->Nat) (e:M7):Nat:=if e.Reads=Nk then w e.Loc.toNat+1 else 1
theorem JH (w:Nat->Nat) (L:List M7) (h:∀ e∈L,e.Reads=Nk->0<=e.Loc/\e.Loc<=2):nG (L.map<|gE w)=(w 0+1) ^ (L.filter λe=>e.Reads&&Nq (e.Loc=((0:Nat):Int))).length*(w 1+1) ^ (L.filter λe=>e.Reads&&Nq (e.Loc=((1:Nat):Int))).length*(w 2+1) ^ (L.filter λe=>e.Reads&&Nq (e.Loc=((2:Nat):Int))).length:=by
 induction L with
 | nil=>rfl
 | cons e L ih=>
  have ih:=ih λa ha=>h a<|Q3 _ ha;show gE w e*nG (L.map<|gE w)=_;rw [ih];unfold gE
  by_cases hr:e.Reads=Nk
  ·obtain ⟨h0,h2⟩:=h e QS hr;have hc:e.Loc=0\/e.Loc=1\/e.Loc=2:=by omega
   rcases hc with hc | hc | hc <;> simp [hr,hc,Nat.pow_succ] <;> ac_rfl
  simp_all
theorem JI (hp:PV p) {e:M7} (h:e∈evs p):0<=e.Loc/\e.Loc<=2:=by
 obtain ⟨i,hi,rfl⟩:=Ro h;have := uP hp (n:=(i:Int)) (by omega) (by omega);unfold ev at this
 simp_all
theorem JJ (hp:PV p) {i:Nat} (hi:i<(evs p).length):(chE p i).length<=gE (λl=>cw (Nb p) (l:Int)) ((evs p).getD i Nj):=by
 have he:(evs p).getD i Nj=ev p (i:Int):=by unfold ev;rw [tnn]
 have hl:=uP hp (n:=(i:Int)) (by omega) (by omega);rw [he];unfold chE gE
 split
 ·have := Da (p:=p) (l:=(ev p (i:Int)).Loc.toNat) (by omega);rw [QK hl.1] at this;have h2:=Rp (λn => !decide (n=(i:Int)))<|wrs p (ev p (i:Int)).Loc;simp only [QK hl.1];omega
 simp_all
theorem tK {l:Nat} (hl:l<3):(chL p l).length=M8 (cw (Nb p) (l:Int)):=by
 unfold chL;rw [llm,Bb _ _ rfl,QZ,Da hl,Nat.add_sub_cancel]
theorem Ic (hv:cT (Nb p)=Nk):nG ((evs p).map<|gE λl=>cw (Nb p) (l:Int))*(M8 (cw (Nb p) 0)*M8 (cw (Nb p) 1)*M8 (cw (Nb p) 2))<=3000:=by
 have hp:=PV.of hv;simp only [cT,bae,dte] at hv;have h3:=hv.2;rw [JH _ _ λe he _=>JI hp he,Db (by omega),Db (by omega),Db (by omega)];refine Qv (Nat.le_of_eq ?_) h3;show _=1*Ki (Nb p) 0*Ki (Nb p) 1*Ki (Nb p) 2;unfold Ki
 grind
structure Few (p:List (List M5)):Prop where
 f:∀ k,(rT<|(chF p).take k).length<=3000/\(rT<|(chF p).drop k).length<=3000
 o:∀ k,(rT<|(chO p).take k).length<=3000/\(rT<|(chO p).drop k).length<=3000
 all:(rT<|chF p).length*(rT<|chO p).length<=3000
 w:∀ l:Nat,l<3->(wrs p (l:Int)).length<=8/\(chL p l).length<=3000
theorem few (hv:cT (Nb p)=Nk):Few p:=by
 have hp:=PV.of hv;have hE:=Ic hv;have hgs:∀ a∈(evs p).map (gE λl=>cw (Nb p) (l:Int)),1<=a:=λa ha=>by
  obtain ⟨e,_,rfl⟩:=QB.1 ha;unfold gE
  grind
 have f0:=C0<|cw (Nb p) 0;have f1:=C0<|cw (Nb p) 1;have f2:=C0<|cw (Nb p) 2;have g0:=wm hgs;have hfs:∀ a∈(chO p).map List.length,1<=a:=λa ha=>by
  simp only [chO,List.map_cons,List.map_nil,List.mem_cons,List.not_mem_nil,or_false] at ha;rcases ha with rfl | rfl | rfl
  ·rw [tK (by omega)];omega
  ·rw [tK (by omega)];omega
  rw [tK (by omega)];omega
 have hO:nG ((chO p).map List.length)=M8 (cw (Nb p) 0)*M8 (cw (Nb p) 1)*M8 (cw (Nb p) 2):=by
  show (chL p 0).length*((chL p 1).length*((chL p 2).length*1))=_;rw [tK (by omega),tK (by omega),tK (by omega),Nat.mul_one,Nat.mul_assoc]
  rfl
 have hOpos:=wm hfs;have hA:nG ((evs p).map<|gE λl=>cw (Nb p) (l:Int))<=3000:=Qv (QP _<|by omega) hE;have hB:nG ((chO p).map List.length)<=3000:=by rw [hO];exact Qv (QQ _ g0) hE
 have hmono:∀ k,nG (((chF p).map List.length).take k)<=nG (((evs p).map<|gE λl=>cw (Nb p) (l:Int)).take k)/\nG (((chF p).map List.length).drop k)<=nG (((evs p).map<|gE λl=>cw (Nb p) (l:Int)).drop k):=λk=>by
  have hlen:(chF p).length=(evs p).length:=by simp [chF]
  have hget:∀ i:Nat,i<(evs p).length->((chF p).map List.length).getD i 0<=((evs p).map<|gE λl=>cw (Nb p) (l:Int)).getD i 0:=λi hi=>by
   have := JJ hp hi;rw [gdq,geq hi] at this;rw [gdq,gdq,List.getElem?_map,List.getElem?_map,geq hi];unfold chF
   simp_all
  constructor
  ·refine Ao (by simp [hlen]) λi hi=>?_
   grind
  refine Ao (by simp [hlen]) λi hi=>?_
  grind
 refine ⟨λk=>⟨?_,?_⟩,λk=>⟨?_,?_⟩,?_,λl hl=>?_⟩
 ·rw [rU,List.map_take];exact Qv (hmono k).1<|Qv (Ap hgs k) hA
 ·rw [rU,List.map_drop];exact Qv (hmono k).2<|Qv (Aq hgs k) hA
 ·rw [rU,List.map_take];exact Qv (Ap hfs k) hB
 ·rw [rU,List.map_drop];exact Qv (Aq hfs k) hB
 ·rw [rU,rU,hO];have := (hmono (evs p).length).1;rw [Ra (by simp [chF]),Ra (by simp)] at this;exact Qv (Nat.mul_le_mul_right _ this) hE
 have hf:M8 (cw (Nb p) (l:Int))<=3000:=by
  rw [<- tK hl];have h0:(chL p l).length∈(chO p).map List.length:=by
   match l,hl with
   | 0,_=>simp [chO]
   | 1,_=>simp [chO]
   | 2,_=>simp [chO]
  refine Qv ?_ hB
  match l,hl with
  | 0,_=>exact QP _ (QW (hfs _<|by simp [chO])<|QW (hfs _<|by simp [chO]) Nat.one_pos)
  | 1,_=>
   refine Qv ?_<|QQ _<|hfs _ (by simp [chO]);exact QP _<|QW (hfs _<|by simp [chO]) Nat.one_pos
  | 2,_=>
   refine Qv ?_<|QQ _<|hfs _ (by simp [chO]);refine Qv ?_<|QQ _<|hfs _ (by simp [chO])
   simp_all
 refine ⟨?_,by rw [tK hl];exact hf⟩;rw [Da hl];rcases QT (cw (Nb p) (l:Int)) 7 with h | h
 ·omega
 have := DZ h;have h7:M8 7=5040:=by decide
 omega
end
section
variable {p:List (List M5)}
theorem D5 (hp:PV p) (l:Int):M9 (fg (evs p) l) (· = wrs p l):=by
 have hel:=ve hp.vs;unfold fg;refine M9.bind (P:=(· = wrs p l)) ?_ λv hv => .pure hv;refine M9.loop (λz=>∃ n:Nat,n<=(evs p).length/\z=(((Qu n).map λ(i:Nat)=>(i:Int)).filter<|Wl p l,(n:Int))) (λz=>(((evs p).length:Int)-z.2).toNat) ⟨0,by omega,rfl⟩ λz ⟨n,h1,h2⟩ => ?_;subst h2;unfold pK J;have en:(evs p).getD n Nj=ev p (n:Int):=by unfold ev;rw [tnn]
 simp only [tnn,en];refine .bifD (λhk=>?_) λhk => .pure ?_
 ·have hsl:(((Qu n).map λ(i:Nat)=>(i:Int)).filter<|Wl p l).length<=n:=Qv (Rp _ _) (by simp);have hst:((Qu<|n+1).map λ(i:Nat)=>(i:Int)).filter (Wl p l)=((Qu n).map λ(i:Nat)=>(i:Int)).filter (Wl p l)++if Wl p l (n:Int) then [(n:Int)] else []:=by
   rw [QU,Q7,QF]
   congr 1
   by_cases h:Wl p l (n:Int)=Nk
   ·rw [if_pos h];simp [h]
   rw [if_neg h];simp [h]
  refine M9.bind (P:=(· = ((Qu<|n+1).map λ(i:Nat)=>(i:Int)).filter (Wl p l))) (.gdD ⟨by omega,hk⟩ (M9.bind (P:=(· = Wl p l (n:Int))) (.bif (λh => .pure ?_) λh => .pure ?_) λb hb => .bif (λh => .gd (eC (by omega) rfl)<|.pure ?_) λh => .pure ?_)) λv hv => .gdI (by omega)<|.pure ⟨⟨n+1,by omega,by rw [hv];rfl⟩,by simp only [];omega⟩
  ·unfold Wl;rw [h,QA];exact JE _ _
  ·unfold Wl;rw [h];rfl
  ·rw [hst,<- hb,h];rfl
  rw [hst,<- hb,h];simp
 have : n=(evs p).length:=by omega
 rw [this]
 rfl
def nq (i:Int) (n:Int):Bool := !decide (n=i)
theorem Ie (v:LI) (i:Int) (hl:v.length<=1000000):M9 (aT v i) (· = v.filter (nq i)):=by
 unfold aT;have heq:∀ a:Int,M9 (gu a i) (· = Nq (a=i)):=λa=>by unfold gu;exact .pure<|JE a i
 refine M9.bind (P:=λr:Int=>(r = -1/\∀ n∈v,n≠i)\/(0<=r/\r<(v.length:Int)/\v.getD r.toNat Nj=i/\∀ n∈v.take r.toNat,n≠i)) ?_ λr hr=>?_
 ·unfold bA;refine M9.sum (PS:=λ_=>∀ n∈v,n≠i) (PW:=λr:Int=>(r = -1/\∀ n∈v,n≠i)\/(0<=r/\r<(v.length:Int)/\v.getD r.toNat Nj=i/\∀ n∈v.take r.toNat,n≠i)) ?_ λ_ h => .pure<|.inl ⟨rfl,h⟩;refine M9.loop (λz=>∃ k:Nat,k<=v.length/\z=(k:Int)/\∀ n∈v.take k,n≠i) (λz=>((v.length:Int)-z).toNat) ⟨0,by omega,rfl,by simp⟩ λz ⟨k,h1,h2,h3⟩ => ?_;subst h2;unfold bT J;simp only [tnn];refine .bifD (λhk => .gdD ⟨by omega,hk⟩<|(heq _).bind λb hb=>?_) λhk => .pure ?_
  ·subst hb;refine .bifD (λhe => .pure<|.inr ⟨by omega,hk,by rw [tnn];exact he,by rw [tnn];exact h3⟩) λhe => .gdI (by omega)<|.pure ⟨⟨k+1,by omega,rfl,λn hn=>?_⟩,by omega⟩;rw [gF (by omega),Q4,QM] at hn;rcases hn with hn | rfl
   ·exact h3 n hn
   exact he
  rwa [show k=v.length by omega,QG] at h3
 rcases hr with ⟨rfl,h⟩ | ⟨r0,r1,r2,r3⟩
 ·refine .bif (λ_ => .pure ?_) λh=>by cases h
  rw [Rb.2 λn hn=>by unfold nq;rw [decide_eq_false (h n hn)];rfl]
 refine .bif (λh=>by have := eq_of_beq h;omega) λ_=>?_;refine M9.bind (P:=λz=>z.1.length=v.length/\(0<=z.2/\z.2<=(v.length:Int))/\z.1.take z.2.toNat=v.filter (nq i)) (.gdI (by omega) ?_) λz ⟨z1,⟨z2,z3⟩,z4⟩ => ?_
 ·refine M9.loop (λz=>∃ j k:Nat,j<=v.length/\k<=j/\z.2.1=(j:Int)/\z.2.2=(k:Int)/\z.1.length=v.length/\(∀ q:Nat,j<=q->z.1[q]? = v[q]?)/\z.1.take k=(v.take j).filter (nq i)) (λz=>((v.length:Int)-z.2.1).toNat) ⟨r.toNat+1,r.toNat,by omega,by omega,by simp only [];omega,by simp only [];omega,rfl,λ_ _=>rfl,?_⟩ λz ⟨j,k,h1,h2,h3,h4,h5,h6,h7⟩ => ?_
  ·simp only [];rw [gF (by omega),QF,Rb.2 λn hn=>by unfold nq;rw [decide_eq_false (r3 n hn)];rfl,r2];simp [nq]
  obtain ⟨s,z1,z2⟩:=z;simp only at h3 h4 h5 h6 h7;subst h3 h4;unfold bN J;simp only [tnn,h5];refine .bifD (λhk=>?_) λhk => .pure ⟨h5,⟨by simp only [];omega,by simp only [];omega⟩,?_⟩
  ·have hj:j<v.length:=by omega
   have e1:s.getD j Nj=v.getD j Nj:=by rw [gdq,gdq,h6 j (Qx _)]
   rw [e1];refine M9.bind (P:=λz:List Int×Int=>∃ k:Nat,k<=j+1/\z.2=(k:Int)/\z.1.length=v.length/\(∀ q:Nat,j+1<=q->z.1[q]? = v[q]?)/\z.1.take k=(v.take<|j+1).filter (nq i)) (.gdD ⟨by omega,hk⟩<|(heq _).bind λb hb=>?_) λz ⟨k',g1,g2,g3,g4,g5⟩ => .gdI (by omega)<|.pure ⟨⟨j+1,k',by omega,g1,rfl,g2,g3,g4,g5⟩,by simp only [];omega⟩;subst hb;rw [gF hj,QF];refine .bif (λhn=>?_) λhn=>?_
   ·refine .gdD ⟨by omega,by omega⟩<|.gdI (by omega)<|.pure ⟨k+1,by omega,rfl,by simp [h5],λq hq=>?_,?_⟩
    ·simp only [];rw [List.getElem?_set_ne (by omega)];exact h6 q (by omega)
    simp only [];have hks:k<s.length:=by omega
    rw [List.take_add_one,List.getElem?_set_self hks,List.take_set_of_le (Qx _),h7]
    congr 1
    rw [List.filter_cons_of_pos (show nq i (v.getD j Nj)=Nk from hn)]
    rfl
   refine .pure ⟨k,by omega,rfl,h5,λq hq=>h6 q (by omega),?_⟩;simp only [];rw [h7,List.filter_cons_of_neg (show ¬ nq i (v.getD j Nj)=Nk from λh=>by rw [show nq i (v.getD j Nj)=Nl from hn] at h;cases h)];simp
  simp only [];rw [tnn,h7,show j=v.length by omega,QG]
 refine .gdD ⟨by omega,by omega⟩<|.gdD ⟨z2,by omega,by omega⟩<|.gdD ⟨by omega,z2,by omega⟩<|.pure ?_;rw [<- z4];simp only [cpy,Nat.zero_add,show (0:Int).toNat=0 from rfl,List.drop_zero,Nat.sub_zero]
 split
 ·rw [QI,List.take_append_of_le_length (by rw [QD];omega),List.take_take,Nat.min_self]
 rfl
theorem EN (x:M6) (h1:x.From.length<=100000) (h2:x.Order.length<=100000) (h3:∀ i,(x.Order.getD i Nj).length<=100000):M9 (iA x) (· = x):=by
 unfold iA;refine (wu<|by omega).bind λv1 e1 => .gdD ⟨by omega,by omega,by omega,by omega⟩ (M9.bind (P:=(· = x.Order)) ?_ λs hs => .pure<|by rw [e1,hs]);refine M9.loop (λz=>∃ k:Nat,k<=x.Order.length/\z=(x.Order.take k++QJ (x.Order.length-k) [],(k:Int))) (λz=>((x.Order.length:Int)-z.2).toNat) ⟨0,by omega,by simp⟩ λz ⟨k,g1,g2⟩ => ?_;subst g2;unfold pR J;simp only [tnn];refine .bifD (λhk=>?_) λhk => .pure ?_
 ·have hk':k<x.Order.length:=by omega
  refine .gdD ⟨by omega,hk⟩<|(wu (by have := h3 k;omega)).bind λv12 e12 => .gdD ⟨by omega,?_⟩<|.gdI (by omega)<|.pure ⟨⟨k+1,by omega,?_⟩,by simp only [];omega⟩
  ·simp only [lla,QD,List.length_replicate];omega
  rw [e12,gF hk',List.set_append_right _ _ (by rw [QD];omega),QD,Nat.min_eq_left (by omega),Q0,show x.Order.length-k=(x.Order.length-(k+1))+1 by omega,List.replicate_succ,List.set_cons_zero,QI]
  rfl
 rw [show k=x.Order.length by omega,Q0,QG];simp
theorem Gp (l:Nat) (hl:l<3):∃ t,wrs p (l:Int)=(l:Int)::t:=Ib hl
theorem Gq {f:LI} (h:f∈rT (chF p)):f.length=(evs p).length:=by
 rw [(ni.1 h).1];simp [chF]
theorem JK (F:Few p) {o:LL} (h:o∈rT (chO p)):o.length=3/\∀ i,(o.getD i Nj).length<=100:=by
 obtain ⟨h1,h2⟩:=ni.1 h;refine ⟨h1,λi=>?_⟩
 by_cases hi:i<3
 ·obtain ⟨y,hy,e⟩:=h2 i hi;rw [gdq,e];have hw:=(F.w i hi).1;have hy':y∈chL p i:=by
   match i,hi with
   | 0,_=>exact hy
   | 1,_=>exact hy
   | 2,_=>exact hy
  unfold chL at hy';obtain ⟨r,hr,rfl⟩:=QB.1 hy';have := ((vg rfl).1 hr).length_eq;rw [QZ] at this;show ((i:Int)::r).length<=100;rw [llc];omega
 rw [gdq,gen (by rw [h1];exact Nat.le_of_not_lt hi)];exact Qy _
theorem getD_in {α:Type} [Inhabited α] {l:List α} {i:Nat} (h:i<l.length):l.getD i Nj∈l:=by
 rw [gdq,geq h];exact QX _
theorem JL (FF:LL) (OO s30:List<|LL) (hO:M9 (jb s30) (· = OO)) (hall:FF.length*OO.length<=3000) (hn:FF.length<=3000) (hn2:OO.length<=3000) (hf:∀ f∈FF,f.length<=24) (ho:∀ o∈OO,o.length=3/\∀ i,(o.getD i Nj).length<=100) :
  M9 (aV (ig s30 FF) (([]:List M6),(0:Int))) (· = FF.flatMap λf=>OO.map λo=>(⟨f,o⟩:M6)):=by
 have hpre:∀ j,j<=FF.length->((Qu j).flatMap λj=>OO.map λo=>(⟨FF.getD j Nj,o⟩:M6)).length<=3000:=λj hj=>by
  have := zo (λj=>OO.map λo=>(⟨FF.getD j Nj,o⟩:M6)) hj;rw [gD FF λf=>OO.map λo=>(⟨f,o⟩:M6),iB (l:=FF) (f:=λf=>OO.map λo=>(⟨f,o⟩:M6)) (m:=OO.length) λ_ _=>llm _] at this;exact Qv this hall
 refine (l6 FF.length [] (λj=>OO.map λo=>(⟨FF.getD j Nj,o⟩:M6)) (λj hj=>?_) ?_).mono λv hv=>?_
 ·have hfj:=hf _<|getD_in hj;have hpj:=hpre (j+1) hj;rw [fE,lla,llm] at hpj;unfold ig;simp only [Qz,tnn];refine .bifD (λ_=>?_) λh=>absurd (show (j:Int)<(FF.length:Int) by omega) h;refine M9.bind (P:=(· = (Qu<|j+1).flatMap λj=>OO.map λo=>(⟨FF.getD j Nj,o⟩:M6))) (.gdD ⟨by omega,by omega⟩ ?_) λv hv => .gdI (by omega)<|.pure (by rw [hv];rfl);refine hO.bind λv86 h86=>?_;subst v86;generalize hpe:(Qu j).flatMap (λj=>OO.map λo=>(⟨FF.getD j Nj,o⟩:M6))=pre at hpj ⊢;generalize hfg:FF.getD j Nj=f at hfj ⊢;have hstep:∀ s:List M6×Int,ic FF (pre,(j:Int)) OO s=bif Nq (s.2<(OO.length:Int)) then
    gd (Nq<|0<=s.2/\s.2<(OO.length:Int))<|QH (iA (⟨f,OO.getD s.2.toNat Nj⟩:M6)) λv99=>
    gd (dS (s.1.length+1) 48)<|gd (M3 .i64<|s.2+(1:Int))<|Nn (.inl ((s.1++[v99]),(s.2+(1:Int)))) else Nn (.inr s.1):=λs=>by
   unfold ic J;simp only [tnn,hfg]
  generalize ic FF (pre,(j:Int)) OO=step at hstep ⊢;refine (l6 OO.length pre (λi=>[(⟨f,OO.getD i Nj⟩:M6)]) (λi hi=>?_) ?_).mono λv hv=>?_
  ·have hil:((Qu i).flatMap λi=>[(⟨f,OO.getD i Nj⟩:M6)]).length=i*1:=by rw [iB (m:=1) λ_ _=>rfl,QC]
   obtain ⟨ho1,ho2⟩:=ho _<|getD_in hi;rw [hstep];simp only [tnn];refine .bifD (λ_ => .gdD ⟨by omega,by omega⟩<|(EN ⟨f,OO.getD i Nj⟩ (Qv hfj<|by omega) (by rw [ho1];omega) λi=>Qv (ho2 i)<|by omega).bind λv99 h99 => .gd (eC (by rw [lla];omega) rfl)<|.gdI (by omega)<|.pure ?_) λh=>absurd (show (i:Int)<(OO.length:Int) by omega) h;rw [h99,fE,QI]
   rfl
  ·rw [hstep];exact .bifD (λh=>absurd h<|by simp only [];omega) λ_ => .pure rfl
  rw [hv,gD OO λo=>[(⟨f,o⟩:M6)],rS,fE,hpe,hfg]
 ·unfold ig;exact .bifD (λh=>absurd h<|by simp only [];omega) λ_ => .pure rfl
 rw [hv,Qz];exact gD FF λf=>OO.map λo=>(⟨f,o⟩:M6)
theorem Gs (hv:cT (Nb p)=Nk):M9 (l5 p) (· = kY p):=by
 have hp:=PV.of hv;have F:=few hv;have hel:=ve hp.vs;unfold l5;refine (C9 hp.vs).bind λv1 e1=>?_;subst v1;have hen:∀ n:Nat,(evs p).getD n Nj=ev p (n:Int):=λn=>by unfold ev;rw [tnn]
 refine M9.bind (P:=(· = chF p)) ?_ λs2 h2=>?_
 ·refine (l6 (evs p).length [] (λi=>[chE p i]) (λk hk=>?_) ?_).mono λv hv=>by rw [hv,Qz,rS];rfl
  ·unfold l4 J;have hkl:((Qu k).flatMap λi=>[chE p i]).length=k*1:=by rw [iB (m:=1) λ_ _=>rfl,QC]
   simp only [Qz,tnn,hen];refine .bifD (λ_ => .gdD ⟨by omega,by omega⟩ (M9.bind (P:=(· = chE p k)) ?_ λv hv => .gd (eC (by omega) rfl)<|.gdI (by omega)<|.pure<|by rw [hv,fE];rfl)) λh=>absurd (show (k:Int)<((evs p).length:Int) by omega) h;have hl:=uP hp (n:=(k:Int)) (by omega) (by omega);refine .bif (λhr=>?_) λhr => .pure (by unfold chE;rw [if_neg (by rw [hr];decide)]);refine (D5 hp _).bind λv17 h17=>?_;subst v17;have hw:=(F.w (ev p (k:Int)).Loc.toNat<|by omega).1;rw [QK hl.1] at hw;refine (Ie _ _<|by omega).bind λv21 h21 => .pure ?_;rw [h21];unfold chE;rw [if_pos hr]
   rfl
  unfold l4 J;exact .bifD (λh=>absurd h<|by simp only [];omega) λ_ => .pure rfl
 subst s2;refine M9.bind (P:=(· = chO p)) ?_ λs30 h30=>?_
 ·refine (l6 3 [] (λl=>[chL p l]) (λl hl=>?_) ?_).mono λv hv=>by rw [hv];rfl
  ·unfold kQ;have hkl:((Qu l).flatMap λi=>[chL p i]).length=l*1:=by rw [iB (m:=1) λ_ _=>rfl,QC]
   simp only [Qz];refine .bifD (λ_=>?_) λh=>absurd (show (l:Int)<3 by omega) h;refine M9.bind (P:=(· = (Qu<|l+1).flatMap λi=>[chL p i])) (M9.bind (P:=(· = chL p l)) ?_ λv hv => .gd (eC (by omega) rfl)<|.pure<|by rw [hv,fE]) λv hv => .gdI (by omega)<|.pure (by rw [hv];rfl);refine (D5 hp _).bind λv44 h44=>?_;subst v44;have hw:=(F.w l hl).1;obtain ⟨t,ht⟩:=Gp (p:=p) l hl;refine .gdD ⟨by omega,by rw [ht,llc];omega,by omega⟩ ?_;have e:(((wrs p (l:Int)).drop (1:Int).toNat).take<|((wrs p (l:Int)).length:Int).toNat-(1:Int).toNat)=(wrs p (l:Int)).tail:=by
    rw [ht];simp
   rw [e];refine (JG _<|by rw [QZ];omega).bind λv46 h46=>?_;have hpl:v46.length<=3000:=by
    have := (F.w l hl).2;rw [h46];unfold chL at this
    rwa [llm] at this
   have hrow:∀ i,(v46.getD i Nj).length<=100:=λi=>by
    by_cases hi:i<v46.length
    ·have hm:=getD_in hi;rw [show v46=prm (wrs p (l:Int)).tail.length (wrs p (l:Int)).tail from h46] at hm;have := ((vg rfl).1 hm).length_eq;rw [<- h46,QZ] at this;omega
    rw [gdq,gen (by omega)];exact Qy _
   refine (l6 v46.length [] (λi=>[(l:Int)::v46.getD i Nj]) (λi hi=>?_) ?_).mono λv hv=>?_
   ·unfold kP J;have hil:((Qu i).flatMap λi=>[(l:Int)::v46.getD i Nj]).length=i*1:=by rw [iB (m:=1) λ_ _=>rfl,QC]
    simp only [Qz,tnn];refine .bifD (λ_ => .gdD ⟨by omega,by omega⟩<|.gd (eC (by have := hrow i;simp only [QR];omega) rfl)<|.gd (eC (by omega) rfl)<|.gdI (by omega)<|.pure<|by rw [fE];rfl) λh=>absurd (show (i:Int)<(v46.length:Int) by omega) h
   ·unfold kP J;exact .bifD (λh=>absurd h<|by simp only [];omega) λ_ => .pure rfl
   rw [hv,Qz,gD v46 λx=>[(l:Int)::x],rS,h46]
   rfl
  unfold kQ;exact .bifD (λh=>absurd h<|by simp only [];omega) λ_ => .pure rfl
 subst s30;refine M9.bind (P:=(· = kY p)) ?_ λv hv => .pure hv;refine (uB (chF p) (by simp [chF];omega) λk _=>Qv (F.f k).1<|by omega).bind λv72 h72=>?_;subst v72;have h0:=(F.f (chF p).length).1;rw [QG] at h0;have h1:=(F.o (chO p).length).1;rw [QG] at h1;exact JL (rT<|chF p) (rT<|chO p) (chO p) (xb (chO p) (by simp [chO]) λk _=>Qv (F.o k).1<|by omega) F.all h0 h1 (λf hf=>by rw [Gq hf];exact hel) λo ho=>JK F ho
end

section
variable {p:List (List M5)} {x:XS} {F F':LI}
def Gt (p:List<|List M5):LI:=(Qu (evs p).length).map λ(i:Nat)=>(i:Int)
theorem Cand.congr (C:Cand p x F) (h:∀ n,n∈F'↔n∈F):Cand p x F':=
 ⟨λn=>(h n).trans<|C.mem n,C.flen,C.olen,λl hl=>⟨(C.ods l hl).nd,λn=>by rw [(C.ods l hl).mem,h]⟩,C.hd,λi hi hr=>C.rdc i ((h i).1 hi) hr,λi hi hr=>C.ne i ((h i).1 hi) hr,λi hi hr=>C.frN i ((h i).1 hi) hr⟩
theorem D6 (l:Int):(wrs p l).Nodup:=List.Pairwise.filter _ KI
theorem rV {c:M6} (hp:PV p) (h:c∈kY p):Cand p (c.From,c.Order) (Gt p):=by
 unfold kY at h;simp only [QV,QB] at h;obtain ⟨f,hf,o,ho,rfl⟩:=h;obtain ⟨f1,f2⟩:=ni.1 hf;obtain ⟨o1,o2⟩:=ni.1 ho;have hfl:=Gq hf;have oget:∀ l:Nat,l<3->∃ r,o.getD l []=(l:Int)::r/\r.Perm (wrs p (l:Int)).tail:=λl hl=>by
  obtain ⟨y,hy,e⟩:=o2 l hl;have hy':y∈chL p l:=by
   match l,hl with
   | 0,_=>exact hy
   | 1,_=>exact hy
   | 2,_=>exact hy
  unfold chL at hy';obtain ⟨r,hr,rfl⟩:=QB.1 hy';exact ⟨r,by rw [gdq,e];rfl,(vg rfl).1 hr⟩
 have operm:∀ l:Nat,l<3->(o.getD l []).Perm (wrs p (l:Int)):=λl hl=>by
  obtain ⟨r,e,hr⟩:=oget l hl;obtain ⟨t,ht⟩:=Gp (p:=p) l hl;rw [e];rw [ht] at hr ⊢;exact hr.cons _
 have fget:∀ i:Nat,i<(evs p).length->f.getD i Nj∈chE p i:=λi hi=>by
  obtain ⟨y,hy,e⟩:=f2 i (by simp [chF];exact hi);rw [gdq,e];simpa [chF] using hy
 have odn:∀ l:Int,0<=l/\l<=2->(od (f,o) l).Perm (wrs p l):=λl hl=>by
  have := operm l.toNat (by omega);rw [QK hl.1] at this;exact this
 have rd:∀ i:Int,i∈Gt p->(ev p i).Reads=Nk->f.getD i.toNat Nj∈wrs p (ev p i).Loc/\f.getD i.toNat Nj≠i:=λi hi hr=>by
  obtain ⟨i0,i1⟩:=(w9 i).1 hi;have := fget i.toNat (by omega);unfold chE at this;rw [QK i0,if_pos hr,QL] at this;exact ⟨this.1,by simpa using this.2⟩
 refine ⟨λn=>w9 n,hfl,o1,λl hl=>⟨(odn l hl).nodup_iff.2<|D6 l,λn=>?_⟩,λl hl=>?_,λi hi hr=>?_,λi hi hr=>(rd i hi hr).2,λi hi hr=>?_⟩
 ·rw [(odn l hl).mem_iff];unfold wrs;rw [QL];unfold Wl;rw [bae,dte];exact Iff.rfl
 ·obtain ⟨r,e,_⟩:=oget l hl;exact ⟨r,by unfold od;rw [tnn];exact e⟩
 ·obtain ⟨i0,i1⟩:=(w9 i).1 hi;exact (odn _<|uP hp i0 i1).mem_iff.2 (rd i hi hr).1
 obtain ⟨i0,i1⟩:=(w9 i).1 hi;have := fget i.toNat (by omega);unfold chE at this;rw [QK i0,if_neg (by rw [hr];decide)] at this;simpa using this
theorem Dc (hp:PV p) (C:Cand p x<|Gt p):(⟨x.1,x.2⟩:M6)∈kY p:=by
 unfold kY;simp only [QV,QB];refine ⟨x.1,ni.2 ⟨by rw [C.flen];simp [chF],λi hi=>?_⟩,x.2,ni.2 ⟨C.olen,λl hl=>?_⟩,rfl⟩
 ·have hi':i<(evs p).length:=by simpa [chF] using hi
  have hm:(i:Int)∈Gt p:=(w9 _).2 ⟨by omega,by omega⟩;refine ⟨x.1.getD i Nj,?_,by rw [gdq,geq (by rw [C.flen];exact hi')];rfl⟩;simp only [chF,Re,List.getElem_range];unfold chE
  split
  ·rename_i hr;have h1:=C.rdc _ hm hr;have h2:=C.ne _ hm hr;rw [tnn] at h1 h2;have hl:=uP hp (n:=(i:Int)) (by omega) (by omega);refine QL.2 ⟨?_,by simpa using h2⟩;have h3:=((C.ods _ hl).mem _).1 h1;unfold wrs;rw [QL];refine ⟨h3.1,?_⟩;unfold Wl;rw [h3.2.1,QA,dte];exact h3.2.2
  rename_i hr;have := C.frN _ hm (by simpa using hr);rw [tnn] at this;rw [this];exact QM.2 rfl
 have hl':l<3:=hl;obtain ⟨t,ht⟩:=C.hd l hl';obtain ⟨w,hw⟩:=Gp (p:=p) l hl';have hg:x.2[l]? = Nn ((l:Int)::t):=by
  have h1:l<x.2.length:=by rw [C.olen];exact hl'
  unfold od at ht;rw [tnn,gdq,geq h1] at ht;rw [geq h1];exact congrArg Nn ht
 refine ⟨(l:Int)::t,?_,hg⟩;have hpm:((l:Int)::t).Perm ((l:Int)::w):=by
  rw [<- ht,<- hw];have O:=C.ods (l:Int) (by omega);refine (List.perm_ext_iff_of_nodup O.nd<|D6 _).2 λn=>?_;rw [O.mem];unfold wrs;rw [QL];unfold Wl;rw [bae,dte];exact Iff.rfl
 have hin:(l:Int)::t∈chL p l:=by
  unfold chL;refine QB.2 ⟨t,(vg rfl).2 ?_,rfl⟩;rw [hw];exact hpm.cons_inv
 match l,hl' with
 | 0,_=>exact hin
 | 1,_=>exact hin
 | 2,_=>exact hin
end
def tab (N:Nat) (g:Nat->Int):LI:=(Qu N).map g
section
variable {N:Nat} {g h:Nat->Int}
theorem Bc:(tab N g).length=N:=by simp [tab]
theorem De {i:Nat} (hi:i<N):(tab N g).getD i Nj=g i:=by
 unfold tab
 simp_all
theorem l7 (e:∀ i,i<N->g i=h i):tab N g=tab N h:=List.map_congr_left λi hi=>e i<|QE.1 hi
theorem Df (i:Nat) (v:Int):(tab N g).set i v=tab N λj=>if j=i then v else g j:=by
 apply List.ext_getElem
 ·simp [tab]
 intro j h1 h2;rw [List.getElem_set];simp only [tab,Re,List.getElem_range];omega
theorem Bd:QJ N (Nj:Int)=tab N λ_=>0:=by
 apply List.ext_getElem
 ·simp [tab]
 intro j h1 h2;simp only [tab,Re,List.getElem_replicate]
 rfl
end
theorem pU {f g:Nat->Bool}:∀ {n:Nat},(∀ k,k<n->f k=g k)->Na f n=Na g n
 | 0,_=>rfl
 | n+1,h=>by
  unfold Na;rw [h n (by omega),pU λk hk=>h k (by omega)]
theorem JM (f g:Nat->Bool) (n:Nat):Na f n&&&Na g n=Na (λj=>f j&&g j) n:=by
 apply Q5;intro j;rw [Nat.testBit_and,nV,nV,nV]
 grind
theorem D7 (n:Nat):Na (λ_=>Nl) n=0:=by
 induction n with
 | zero=>rfl
 | succ n ih=>unfold Na;grind
def Nc (N:Nat) (f:Int->Int->Bool):LI:=tab N λi=>((Na (λk=>f (i:Int) (k:Int)) N:Nat):Int)
section
variable {N:Nat} {f g:Int->Int->Bool}
theorem gG:(Nc N f).length=N:=Bc
theorem rW {i:Nat} (h:i<N):(Nc N f).getD i Nj=((Na (λk=>f (i:Int) (k:Int)) N:Nat):Int):=De h
theorem pV (h:∀ i k:Nat,i<N->k<N->f i k=g i k):Nc N f=Nc N g:=l7 λi hi=>by rw [pU λk hk=>h i k hi hk]
def P15 (n:Int) (is:Int->Int->Option Bool) (s6:(LI)×Int):((LI)×Int)->Option (((LI)×Int) ⊕ (LI)):=λs14=>
 bif Nq (s14.2<n) then
  QH (
   QH (is s6.2 s14.2) λv19=>
   bif v19 then
    gd (Nq<|0<=s6.2/\s6.2<(s14.1.length:Int)) <|
    gd (Nq<|0<=s14.2) <|
    Nn (s14.1.set s6.2.toNat<|bOr .i64 (s14.1.getD s6.2.toNat Nj)<|Fb .i64 (1:Int) s14.2)
   else
    Nn s14.1
  ) λs18=>
  gd (M3 .i64<|s14.2+(1:Int)) <|
  Nn (.inl (s18,(s14.2+(1:Int))))
 else
  Nn (.inr s14.1)
def P7 (n:Int) (is:Int->Int->Option Bool):((LI)×Int)->Option (((LI)×Int) ⊕ (LI)):=λs6=>
 bif Nq (s6.2<n) then
  QH (
   aV (P15 n is s6) (s6.1,(0:Int))
  ) λs10=>
  gd (M3 .i64<|s6.2+(1:Int)) <|
  Nn (.inl (s10,(s6.2+(1:Int))))
 else
  Nn (.inr s6.1)
def IZ (n:Int) (is:Int->Int->Option Bool):Option (LI):=
 gd (Nq<|0<=n/\n<=n/\n*((8:Nat):Int)<=140737488355328/\n<=140737488355328) <|
 QH (
  aV (P7 n is) ((QJ n.toNat (Nj:Int)),(0:Int))
 ) λs2=>
 Nn s2
def part (N:Nat) (f:Int->Int->Bool) (i k:Nat):LI:=tab N λj=>if j<i then ((Na (λk=>f (j:Int) (k:Int)) N:Nat):Int) else if j=i then ((Na (λk=>f (j:Int) (k:Int)) k:Nat):Int) else 0
theorem Cc (hN:N<=60) {is:Int->Int->Option Bool} (hi:∀ i k:Nat,i<N->k<N->M9 (is (i:Int) (k:Int)) (· = f i k)):M9 (IZ (N:Int) is) (· = Nc N f):=by
 unfold IZ;refine .gdD ⟨by omega,by omega,by omega,by omega⟩ (M9.bind (P:=(· = Nc N f)) ?_ λv hv => .pure hv);have e0:QJ (N:Int).toNat (Nj:Int)=part N f 0 0:=by
  rw [tnn,Bd];refine l7 λj _=>?_;rw [if_neg (by omega)]
  split <;> simp [Na]
 rw [e0];refine M9.loop (λz=>∃ i:Nat,i<=N/\z=(part N f i 0,(i:Int))) (λz=>((N:Int)-z.2).toNat) ⟨0,by omega,rfl⟩ λz ⟨i,h1,h2⟩ => ?_;subst h2;unfold P7;simp only [];refine .bifD (λhk=>?_) λhk => .pure ?_
 ·refine M9.bind (P:=(· = part N f (i+1) 0)) ?_ λv hv => .gdI (by omega)<|.pure ⟨⟨i+1,by omega,by simp_all⟩,by omega⟩;refine M9.loop (λz=>∃ k:Nat,k<=N/\z=(part N f i k,(k:Int))) (λz=>((N:Int)-z.2).toNat) ⟨0,by omega,rfl⟩ λz ⟨k,k1,k2⟩ => ?_;subst k2;unfold P15;simp only [tnn];refine .bifD (λhkk=>?_) λhkk => .pure ?_
  ·refine M9.bind (P:=(· = part N f i (k+1))) ((hi i k (by omega)<|by omega).bind λv hv => .bif (λhb => .gdD ⟨by omega,by unfold part;rw [Bc];omega⟩<|.gdD (by omega)<|.pure ?_) λhb => .pure ?_) λv hv => .gdI (by omega) (.pure ⟨⟨k+1,by omega,by simp_all⟩,by omega⟩)
   ·unfold part;rw [De (by omega),if_neg (by omega),if_pos rfl,Ia (by omega),Ba (gB<|by omega) (by have := Rk (a:=2) (by omega) (show k<63 by omega);omega),Df];refine l7 λj _=>?_
    by_cases e:j=i
    ·subst e;rw [if_pos rfl,if_neg (by omega),if_pos rfl];rw [hv] at hb;rw [Na,if_pos hb]
    omega
   unfold part;refine l7 λj _=>?_
   by_cases e:j=i
   ·subst e;rw [if_neg (by omega),if_pos rfl,if_neg (by omega),if_pos rfl];rw [hv] at hb;rw [Na,if_neg (by rw [hb];decide)]
   omega
  have : k=N:=by omega
  subst this;unfold part;refine l7 λj _=>?_
  by_cases e:j=i
  ·omega
  by_cases e2:j<i
  ·omega
  rw [if_neg e2,if_neg e,if_neg (by omega)]
  split <;> simp [Na]
 have : i=N:=by omega
 subst this;exact l7 λj hj=>by omega
theorem KJ (i:Nat):(Na (λk=>f (i:Int) (k:Int)) N)<2 ^ N:=DX _ _
theorem JN {m n:Nat} (hm:m<2 ^ n) (hn:n<=62):kH .i64 (m:Int) (n:Int)=0:=by
 show (m:Int).fdiv (2 ^ (min (n:Int).toNat 64))=_;have hq:min (n:Int).toNat 64=n:=by omega
 rw [hq,show (2:Int) ^ n=((2 ^ n:Nat):Int) by simp,Rl _ (Int.natCast_nonneg _)];have : m / 2 ^ n=0:=Nat.div_eq_of_lt hm;omega
theorem o9 (hN:N<=16):M9 (bZ<|Nc N f) (· = Nk):=by
 unfold bZ bf bz;refine M9.bind (P:=(· = Nk)) (.bifD (λ_=>?_) λh=>absurd (show ((Nc N f).length:Int)<=16 by rw [gG];omega) h) λv hv => .pure hv;refine M9.bind (P:=(· = Nl)) (M9.bind (P:=(· = -1)) (M9.sum (PS:=λ_=>True) (PW:=(· = (-1:Int))) ?_ λ_ _ => .pure rfl) λv hv => .pure<|by simp_all) λv hv => .pure (by simp_all);refine M9.loop (λz=>∃ i:Nat,i<=N/\z=(i:Int)) (λz=>((N:Int)-z).toNat) ⟨0,by omega,rfl⟩ λz ⟨i,h1,h2⟩ => ?_;subst h2;unfold bS mU J;simp only [gG,tnn];refine .bifD (λhk=>?_) λhk => .pure trivial;have hg:=rW (f:=f) (show i<N by omega);refine .gdD ⟨by omega,hk⟩ (M9.bind (P:=(· = Nl)) (M9.bind (P:=(· = Nl)) (.bifD (λh=>absurd h<|by omega) λ_ => .gdD (by omega)<|.pure<|decide_eq_false<|by rw [hg,JN (KJ i) (by omega)];omega) λv hv => .pure hv) λv hv => .bif (λh=>by simp_all) λ_ => .gdI (by omega)<|.pure ⟨⟨i+1,by omega,rfl⟩,by omega⟩)
theorem Gu (hN:N<=16):M9 (dU (Nc N f)<|Nc N g) (· = Nk):=by
 unfold dU;refine M9.bind (P:=(· = Nk)) (.bif (λ_=>(o9 hN).bind λv hv => .pure hv) λh=>?_) λv hv=>?_
 ·rw [gG,gG] at h
  grind
 subst hv;exact M9.bind (P:=(· = Nk)) (.bif (λ_=>(o9 hN).bind λv hv => .pure hv) λh=>by cases h) λv hv => .pure hv
theorem rX (hN:N<=60) {i k:Nat} (hi:i<N) (hk:k<N):M9 (fJ (Nc N f) (i:Int) (k:Int)) (· = f i k):=by
 unfold fJ J;simp only [gG,tnn];rw [rW hi,KH (gB<|by omega) (by omega),nV,decide_eq_true hk,QA];refine .gdD ⟨by omega,by omega⟩<|.gdD (by omega)<|.pure ?_
 grind
theorem D8 {a b:Nat} (ha:a<9223372036854775808) (hb:b<9223372036854775808):iC .i64 (a:Int) (b:Int)=((a&&&b:Nat):Int):=by
 have hlt:(a&&&b)<2 ^ 63:=Nat.and_lt_two_pow a hb;show IntKind.wrap .i64 (((Qw 64 (a:Int)&&&Qw 64 (b:Int)).toNat:Nat):Int)=_;have h1:(Qw 64 (a:Int)).toNat=a:=by rw [QN,QO];omega
 have h2:(Qw 64 (b:Int)).toNat=b:=by rw [QN,QO];omega
 rw [BitVec.toNat_and,h1,h2];exact uy hlt
theorem Gv (f g:Nat->Bool) {n:Nat} (hn:n<=62):AU .i64 ((Na f n:Nat):Int) ((Na g n:Nat):Int)=((Na (λj=>f j && !g j) n:Nat):Int):=by
 have ha:=gB (f:=f) hn;have hb:=gB (f:=g) hn;show IntKind.wrap .i64 (((Qw 64 ((Na f n:Nat):Int) &&& ~~~ Qw 64 ((Na g n:Nat):Int)).toNat:Nat):Int)=_;have key:(Qw 64 ((Na f n:Nat):Int) &&& ~~~ Qw 64 ((Na g n:Nat):Int)).toNat=Na (λj=>f j && !g j) n:=by
  apply Q5;intro j;rw [nV];have h1:∀ m:Nat,m<9223372036854775808->∀ j,(Qw 64 ((m:Nat):Int)).getLsbD j=m.testBit j:=λm hm j=>by
   grind
  show (Qw 64 ((Na f n:Nat):Int) &&& ~~~ Qw 64 ((Na g n:Nat):Int)).getLsbD j=_;rw [BitVec.getLsbD_and,BitVec.getLsbD_not,h1 _ ha,h1 _ hb,nV,nV]
  by_cases hj:j<n
  ·grind
  grind
 rw [key];exact uy<|gB hn
theorem Be (hN:N<=16) {by_:Int->Int->Option Int} {q:Int->Int->Bool} (step:((LI)×Int)->Option (((LI)×Int) ⊕ (LI)))
  (hs:∀ s8:(LI)×Int,step s8=bif Nq (s8.2<((Nc N f).length:Int)) then
   gd (Nq<|0<=s8.2/\s8.2<((Nc N f).length:Int))<|gd (Nq<|0<=s8.2/\s8.2<((Nc N g).length:Int)) <|
   QH (by_ ((Nc N f).getD s8.2.toNat Nj)<|(Nc N g).getD s8.2.toNat Nj) λv14=>
   gd (Nq (0<=s8.2/\s8.2<(s8.1.length:Int)))<|gd (M3 .i64 (s8.2+(1:Int)))<|Nn (.inl ((s8.1.set s8.2.toNat v14),(s8.2+(1:Int)))) else Nn (.inr s8.1))
  (hb:∀ i:Nat,i<N->M9 (by_ ((Na (λk=>f (i:Int) (k:Int)) N:Nat):Int) ((Na (λk=>g (i:Int) (k:Int)) N:Nat):Int)) (· = ((Na (λk=>q (i:Int) (k:Int)) N:Nat):Int))) :
  M9 (QH (dU (Nc N f) (Nc N g)) λv1=>bif !v1 then Nn ([]:LI) else
   gd (Nq<|0<=((Nc N f).length:Int)/\((Nc N f).length:Int)<=((Nc N f).length:Int)/\((Nc N f).length:Int)*((8:Nat):Int)<=140737488355328/\((Nc N f).length:Int)<=140737488355328) <|
   QH (aV step ((QJ ((Nc N f).length:Int).toNat (Nj:Int)),(0:Int))) λs4=>Nn s4) (· = Nc N q):=by
 refine (Gu hN).bind λv hv=>?_;subst hv;refine .bif (λh=>by cases h) λ_=>?_;refine .gdD ⟨by omega,by omega,by rw [gG];omega,by rw [gG];omega⟩ (M9.bind (P:=(· = Nc N q)) ?_ λv hv => .pure hv);rw [gG,tnn,Bd];refine M9.loop (λz=>∃ i:Nat,i<=N/\z=(tab N (λj=>if j<i then ((Na (λk=>q (j:Int) (k:Int)) N:Nat):Int) else 0),(i:Int))) (λz=>((N:Int)-z.2).toNat) ⟨0,by omega,rfl⟩ λz ⟨i,h1,h2⟩ => ?_;subst h2;rw [hs];simp only [gG,tnn];refine .bifD (λhk=>?_) λhk => .pure ?_
 ·rw [rW (by omega),rW (by omega)];refine .gdD ⟨by omega,hk⟩<|.gdD ⟨by omega,hk⟩<|(hb i<|by omega).bind λv hv => .gdD ⟨by omega,by rw [Bc];omega⟩<|.gdI (by omega)<|.pure ⟨⟨i+1,by omega,?_⟩,by simp only [];omega⟩;rw [Df,hv]
  grind
 have : i=N:=by omega
 subst this;exact l7 λj hj=>by omega
theorem JO (hN:N<=16):M9 (lQ (Nc N f)<|Nc N g) (· = Nc N λi k=>f i k||g i k):=by
 unfold lQ;refine M9.bind (P:=(· = Nc N λi k=>f i k||g i k)) (Be hN (by_:=mV) _ (λ_=>rfl) λi hi => .pure ?_) λv hv => .pure hv;rw [Ba (gB<|by omega) (gB<|by omega),Gm]
theorem KL (hN:N<=16):M9 (m9 (Nc N f)<|Nc N g) (· = Nc N λi k=>f i k&&g i k):=by
 unfold m9;refine M9.bind (P:=(· = Nc N λi k=>f i k&&g i k)) (Be hN (by_:=nT) _ (λ_=>rfl) λi hi => .pure ?_) λv hv => .pure hv;rw [D8 (gB<|by omega) (gB<|by omega),JM]
theorem JP (hN:N<=16):M9 (lS (Nc N f)<|Nc N g) (· = Nc N λi k=>f i k && !g i k):=by
 unfold lS;refine M9.bind (P:=(· = Nc N λi k=>f i k && !g i k)) (Be hN (by_:=mW) _ (λ_=>rfl) λi hi => .pure ?_) λv hv => .pure hv;rw [Gv _ _ (by omega)]
end
section
variable {p:List (List M5)} {x:XS} {F F':LI}
theorem EO {l:LI} (h:l.length<=4000000):M9 (aJ l) (· = l):=by
 unfold aJ
 cases l with
 | nil=>exact .of (v:=[]) (by show nilK Nk (Nn ([]:LI)) (Nn [])=Nn [];unfold nilK;exact if_pos rfl) rfl
 | cons a l=>exact (M9.gd (eC (by simp at h ⊢;omega) rfl) (.pure<|by simp):M9 (gd (dS (([]:LI).length+(a::l).length) 8)<|Nn (([]:LI)++a::l)) (· = a::l))
end
section
variable {N:Nat} {f g:Int->Int->Bool}
theorem Gw (i:Nat) (h:Int->Int->Bool) (hi:∀ j k:Nat,j<N->k<N->h j k=if j=i then g i k else f j k):(Nc N f).set i ((Na (λk=>g (i:Int) (k:Int)) N:Nat):Int)=Nc N h:=by
 unfold Nc;rw [Df];refine l7 λj hj=>?_
 by_cases e:j=i
 ·subst e;rw [if_pos rfl];exact congrArg (λn:Nat=>(n:Int))<|pU λk hk=>((hi j k hj hk).trans<|if_pos rfl).symm
 rw [if_neg e];exact congrArg (λn:Nat=>(n:Int))<|pU λk hk=>((hi j k hj hk).trans<|if_neg e).symm
theorem Gx (hN:N<=16):M9 (jp<|Nc N f) (· = Nc N λi k=>f k i):=by
 unfold jp;refine (o9 hN).bind λv hv=>?_;subst hv;refine .bif (λh=>by cases h) λ_=>?_;rw [gG];exact M9.bind (P:=(· = Nc N λi k=>f k i)) (Cc (by omega) (is:=λi k=>kJ i k<|Nc N f) λi k hi hk=>(rX (by omega) hk hi).bind λv hv => .pure hv) λv hv => .pure hv
def Bt (f g:Int->Int->Bool) (M:Nat) (i k:Int):Bool:=(Qu M).any λm=>f i (m:Int)&&g (m:Int) k
theorem Ce (M:Nat) (i k:Int):Bt f g (M+1) i k=(Bt f g M i k||(f i (M:Int)&&g (M:Int) k)):=by
 unfold Bt;rw [QU,List.any_append];simp
theorem Gy (hN:N<=16):M9 (jq (Nc N f)<|Nc N g) (· = Nc N (Bt f g N)):=by
 unfold jq;refine (Gu hN).bind λv hv=>?_;subst hv;refine .bif (λh=>by cases h) λ_=>?_;refine .gdD ⟨by omega,by omega,by rw [gG];omega,by rw [gG];omega⟩ (M9.bind (P:=(· = Nc N (Bt f g N))) ?_ λv hv => .pure hv);have e0:QJ ((Nc N f).length:Int).toNat (Nj:Int)=Nc N λi k=>Nq (i<(0:Nat))&&Bt f g N i k:=by
  rw [gG,tnn,Bd];refine l7 λi hi=>?_;rw [pU (g:=λ_=>Nl) λk hk=>by show (Nq ((i:Int)<((0:Nat):Int))&&_)=Nl;rw [decide_eq_false (by omega)];rfl,D7]
  rfl
 rw [e0];refine M9.loop (λz=>∃ i:Nat,i<=N/\z=(Nc N λj k=>Nq (j<(i:Int))&&Bt f g N j k,(i:Int))) (λz=>((N:Int)-z.2).toNat) ⟨0,by omega,rfl⟩ λz ⟨i,h1,h2⟩ => ?_;subst h2;unfold oD;simp only [gG];refine .bifD (λhk=>?_) λhk => .pure ?_
 ·refine M9.bind (P:=(· = Nc N (λj k=>Nq (j<((i+1:Nat):Int))&&Bt f g N j k))) ?_ λv hv => .gdI (by omega)<|.pure ⟨⟨i+1,by omega,by rw [hv];rfl⟩,by simp only [];omega⟩;refine M9.loop (λz=>∃ m:Nat,m<=N/\z=(Nc N (λj k=>if j=(i:Int) then Bt f g m j k else Nq (j<(i:Int))&&Bt f g N j k),(m:Int))) (λz=>((N:Int)-z.2).toNat) ⟨0,by omega,congrArg (λl=>(l,(0:Int)))<|pV λj k hj hk=>?_⟩ λz ⟨m,m1,m2⟩ => ?_
  ·by_cases e:(j:Int)=(i:Int)
   ·rw [if_pos e,decide_eq_false (by omega)];rfl
   rw [if_neg e]
  subst m2;unfold nD J;simp only [gG];refine .bifD (λhkk=>?_) λhkk => .pure<|pV λj k hj hk=>?_
  ·refine M9.bind (P:=(· = Nc N (λj k=>if j=(i:Int) then Bt f g (m+1) j k else Nq (j<(i:Int))&&Bt f g N j k))) ?_ λv hv => .gdI (by omega)<|.pure ⟨⟨m+1,by omega,by rw [hv];rfl⟩,by simp only [];omega⟩;refine (rX (by omega) (i:=i) (k:=m) (by omega)<|by omega).bind λv hv => .bif (λhb=>?_) λhb => .pure<|pV λj k hj hk=>?_
   ·simp only [tnn];refine .gdD ⟨by omega,by omega⟩<|.gdD ⟨by omega,by omega⟩<|.pure ?_;rw [rW (by omega),rW (by omega),Ba (gB<|by omega) (gB<|by omega),Gm];refine Gw (g:=λj k=>(if j=(i:Int) then Bt f g m j k else Nq (j<(i:Int))&&Bt f g N j k)||g (m:Int) k) i _ λj k hj hk=>?_;rw [hv] at hb
    by_cases e:j=i
    ·subst e;rw [if_pos rfl,if_pos rfl,if_pos rfl,Ce,hb,QA]
    rw [if_neg (by omega),if_neg (by omega),if_neg (by omega)]
   rw [hv] at hb
   by_cases e:(j:Int)=(i:Int)
   ·rw [if_pos e,if_pos e,Ce,e,hb];simp
   rw [if_neg e,if_neg e]
  have : m=N:=by omega
  subst this
  by_cases e:(j:Int)=(i:Int)
  ·rw [if_pos e,decide_eq_true (by omega)];rfl
  rw [if_neg e]
  congr 1
  exact decide_eq_decide.2 (by omega)
 have : i=N:=by omega
 subst this;exact pV λj k hj hk=>by rw [decide_eq_true (by omega)];rfl
def Nf (f:Int->Int->Bool):Nat->Int->Int->Bool
 | 0=>f
 | m+1=>λi k=>Nf f m i k||(Nf f m i (m:Int)&&Nf f m (m:Int) k)
theorem JQ (m:Nat) (k:Int):Nf f (m+1) (m:Int) k=Nf f m (m:Int) k:=by
 show (Nf f m (m:Int) k||(Nf f m (m:Int) (m:Int)&&Nf f m (m:Int) k))=_
 cases Nf f m (m:Int) k <;> simp
theorem Ig (hN:N<=16) {m:Nat} (hk:m<N):M9 (aV (iY (Nc N<|Nf f m,(m:Int))) (Nc N<|Nf f m,(0:Int))) (· = Nc N (Nf f<|m+1)):=by
 refine M9.loop (λz=>∃ i:Nat,i<=N/\z=(Nc N (λj k=>if j<(i:Int) then Nf f (m+1) j k else Nf f m j k),(i:Int))) (λz=>((N:Int)-z.2).toNat) ⟨0,by omega,congrArg (λl=>(l,(0:Int)))<|pV (g:=λj k=>if j<((0:Nat):Int) then Nf f (m+1) j k else Nf f m j k) λj k _ _=>(if_neg<|by omega).symm⟩ λz ⟨i,i1,i2⟩ => ?_;subst i2;unfold iY J;simp only [gG];refine .bifD (λhkk=>?_) λhkk => .pure (pV λj k hj _=>by rw [if_pos (by omega)]);refine M9.bind (P:=(· = Nc N (λj k=>if j<((i+1:Nat):Int) then Nf f (m+1) j k else Nf f m j k))) ?_ λv hv => .gdI (by omega)<|.pure ⟨⟨i+1,by omega,by rw [hv];rfl⟩,by simp only [];omega⟩;refine (rX (by omega) (i:=i) (k:=m) (by omega)<|by omega).bind λv hv=>?_;rw [if_neg (by omega)] at hv;refine .bif (λhb=>?_) λhb => .pure<|pV λj k hj hk=>?_
 ·simp only [tnn];refine .gdD ⟨by omega,by omega⟩<|.gdD ⟨by omega,by omega⟩<|.pure ?_;rw [rW (by omega),rW (by omega),Ba (gB<|by omega) (gB<|by omega),Gm];have e1:Na (λj=>(if (i:Int)<(i:Int) then Nf f (m+1) (i:Int) (j:Int) else Nf f m (i:Int) (j:Int))||(if (m:Int)<(i:Int) then Nf f (m+1) (m:Int) (j:Int) else Nf f m (m:Int) (j:Int))) N=Na (λk=>Nf f (m+1) (i:Int) (k:Int)) N:=pU λk hk=>by
   rw [if_neg (by omega),JQ];rw [hv] at hb;show _=(Nf f m (i:Int) (k:Int)||(Nf f m (i:Int) (m:Int)&&Nf f m (m:Int) (k:Int)));rw [hb];simp
  rw [e1];refine Gw (g:=Nf f<|m+1) i _ λj k hj hk=>?_
  by_cases e:j=i
  ·subst e;rw [if_pos (by omega),if_pos rfl]
  rw [if_neg e]
  by_cases e2:(j:Int)<(i:Int)
  ·rw [if_pos e2,if_pos (by omega)]
  rw [if_neg e2,if_neg (by omega)]
 by_cases e:(j:Int)<(i:Int)
 ·rw [if_pos e,if_pos (by omega)]
 rw [if_neg e]
 by_cases e2:j=i
 ·subst e2;rw [if_pos (by omega)];rw [hv] at hb;show _=(Nf f m (j:Int) (k:Int)||(Nf f m (j:Int) (m:Int)&&Nf f m (m:Int) (k:Int)));rw [hb];simp
 rw [if_neg (by omega)]
theorem Cf (hN:N<=16):M9 (gb<|Nc N f) (· = Nc N (Nf f N)):=by
 unfold gb;refine (o9 hN).bind λv hv=>?_;subst hv;refine .bif (λh=>by cases h) λ_=>(EO<|by rw [gG];omega).bind λv3 h3=>?_;subst h3;refine M9.bind (P:=(· = Nc N (Nf f N))) ?_ λv hv => .pure hv;refine M9.loop (λz=>∃ m:Nat,m<=N/\z=(Nc N<|Nf f m,(m:Int))) (λz=>((N:Int)-z.2).toNat) ⟨0,by omega,rfl⟩ λz ⟨m,h1,h2⟩ => ?_;subst h2;unfold nC;simp only [gG];refine .bifD (λhk=>?_) λhk => .pure ?_
 ·exact M9.bind (P:=(· = Nc N (Nf f<|m+1))) (Ig hN<|by omega) λv hv => .gdI (by omega)<|.pure ⟨⟨m+1,by omega,by rw [hv];rfl⟩,by simp only [];omega⟩
 have : m=N:=by omega
 subst this
 rfl
theorem Ih {m:Nat} {i k:Int} (h:f i k=Nk):Nf f m i k=Nk:=by
 induction m with
 | zero=>exact h
 | succ m ih=>show (_||_)=Nk;rw [ih];rfl
theorem D9:∀ (m:Nat) (i k:Int) (j:Nat),j<m->Nf f m i (j:Int)=Nk->Nf f m (j:Int) k=Nk->Nf f m i k=Nk
 | 0,_,_,_,h,_,_=>absurd h (Nat.not_lt_zero _)
 | m+1,i,k,j,hj,h1,h2=>by
  have ih:=D9 m;simp only [Nf,Bool.or_eq_true,bae] at h1 h2 ⊢
  by_cases e:j=m
  ·subst e;have a1:Nf f j i (j:Int)=Nk:=by rcases h1 with h | h;exact h;exact h.1
   have a2:Nf f j (j:Int) k=Nk:=by rcases h2 with h | h;exact h;exact h.2
   exact .inr ⟨a1,a2⟩
  have hj':j<m:=by omega
  rcases h1 with h1 | ⟨h1,h1'⟩ <;> rcases h2 with h2 | ⟨h2,h2'⟩
  ·exact .inl<|ih i k j hj' h1 h2
  ·exact .inr ⟨ih i m j hj' h1 h2,h2'⟩
  ·exact .inr ⟨h1,ih m k j hj' h1' h2⟩
  exact .inr ⟨h1,h2'⟩
theorem Gz {i k:Int} {j:Nat} (hj:j<N) (h1:Nf f N i (j:Int)=Nk) (h2:Nf f N (j:Int) k=Nk):Nf f N i k=Nk:=D9 N i k j hj h1 h2
theorem Ea {R:Int->Int->Prop} (hR:∀ (i k:Int) (j:Nat),j<N->R i (j:Int)->R (j:Int) k->R i k) (hf:∀ i k:Int,f i k=Nk->R i k):∀ (m:Nat),m<=N->∀ i k:Int,Nf f m i k=Nk->R i k
 | 0,_,i,k,h=>hf i k h
 | m+1,hm,i,k,h=>by
  simp only [Nf,Bool.or_eq_true,bae] at h;rcases h with h | ⟨h1,h2⟩
  ·exact Ea hR hf m (by omega) i k h
  exact hR i k m (by omega) (Ea hR hf m (by omega) _ _ h1)<|Ea hR hf m (by omega) _ _ h2
def uQ (N:Nat) (f:Int->Int->Bool):Bool:=(Qu N).all λi => !f (i:Int) (i:Int)
theorem zt:uQ N f=Nk↔∀ i:Nat,i<N->f i i=Nl:=by
 unfold uQ;rw [List.all_eq_true];exact ⟨λh i hi=>by simpa using h i (QE.2 hi),λh i hi=>by simp [h i (QE.1 hi)]⟩
theorem GA (hN:N<=16):M9 (dR<|Nc N f) (· = uQ N f):=by
 unfold dR;refine M9.sum (PS:=λ_=>∀ i:Nat,i<N->f i i=Nl) (PW:=(· = uQ N f)) ?_ λ_ h => .pure (zt.2 h).symm;refine M9.loop (λz=>∃ i:Nat,i<=N/\z=(i:Int)/\∀ j:Nat,j<i->f j j=Nl) (λz=>((N:Int)-z).toNat) ⟨0,by omega,rfl,λj hj=>absurd hj<|by omega⟩ λz ⟨i,h1,h2,h3⟩ => ?_;subst h2;unfold lT;simp only [gG];refine .bifD (λhk=>(rX (by omega) (i:=i) (k:=i) (by omega)<|by omega).bind λv hv => .bif (λhb => .pure ?_) λhb => .gdI (by omega)<|.pure ⟨⟨i+1,by omega,rfl,λj hj=>?_⟩,by omega⟩) λhk => .pure λj hj=>h3 j (by omega)
 ·show Nl=_
  symm
  rw [Bool.eq_false_iff];intro hl;have := zt.1 hl i (by omega);rw [<- hv,hb] at this
  cases this
 by_cases e:j=i
 ·subst e;rw [<- hv];exact hb
 exact h3 j (by omega)
theorem GD (hN:N<=16):M9 (jr<|Nc N f) (· = uQ N (Nf f N)):=by
 unfold jr;refine (o9 hN).bind λv hv=>?_;subst hv;exact M9.bind (P:=(· = uQ N (Nf f N))) (.bif (λ_=>(Cf hN).bind λv hv=>by subst hv;exact (GA hN).bind λw hw => .pure hw) λh=>by cases h) λv hv => .pure hv
end
def Ii (base:BA->Int->Int->Bool) (N:Nat) (op:Int) (nm:BA) (rs:List<|Int->Int->Bool):Int->Int->Bool:=
 if op=1 then base nm else
 let a:=rs.getD 0 λ_ _=>Nl;let b:=rs.getD 1 λ_ _=>Nl
 if op=6 then λi k=>a k i else if op=7 then Nf a N else
 if op=2 then λi k=>a i k||b i k else if op=3 then λi k=>a i k&&b i k else if op=4 then λi k=>a i k && !b i k else Bt a b N
mutual
def Bf (base:BA->Int->Int->Bool) (N:Nat):ZTE->Int->Int->Bool
 | .mk op nm ks=>Ii base N op nm (xO base N ks)
def xO (base:BA->Int->Int->Bool) (N:Nat):List ZTE->List (Int->Int->Bool)
 | []=>[]
 | t::l=>Bf base N t::xO base N l
end
mutual
def VT:ZTE->Prop
 | .mk op nm ks=>(op=1/\nm∈DR)\/((op=6\/op=7)/\ks.length=1/\VL ks)\/((op=2\/op=3\/op=4\/op=5)/\ks.length=2/\VL ks)
def VL:List ZTE->Prop
 | []=>True
 | t::l=>VT t/\VL l
end
theorem KM {α:Type} {l:List α} (h:l.length=1):∃ a,l=[a]:=by
 match l,h with
 | [a],_=>exact ⟨a,rfl⟩
theorem KN {α:Type} {l:List α} (h:l.length=2):∃ a b,l=[a,b]:=by
 match l,h with
 | [a,b],_=>exact ⟨a,b,rfl⟩
section
variable {p:List (List M5)} {x:M6} {N:Nat} {base:BA->Int->Int->Bool}
def EvT (p:List<|List M5) (x:M6) (N:Nat) (base:BA->Int->Int->Bool) (d:Nat) (t:ZTE):Prop:=∀ m,d<m->M9 (cG m p x t.out) (· = Nc N (Bf base N t))
mutual
theorem KO (hN:N<=16) (hb:∀ nm∈DR,M9 (gW p x nm) (· = Nc N (base nm))):∀ t:ZTE,VT t->∃ d,EvT p x N base d t
 | .mk op nm ks,h=>by
  rw [VT] at h;rcases h with ⟨h1,h2⟩ | ⟨h1,h2,h3⟩ | ⟨h1,h2,h3⟩
  ·refine ⟨0,λm hm=>?_⟩;obtain ⟨m,rfl⟩:∃ q,m=q+1:=⟨m-1,by omega⟩;show M9 (cF (cG m) p x ⟨op,nm,ks⟩) _;unfold cF J;simp only [];subst h1;refine .bif (λ_=>(hb nm h2).bind λv hv => .pure ?_) λh=>absurd h (by decide);rw [hv,Bf,Ii,if_pos rfl]
  ·obtain ⟨d,hd⟩:=JR hN hb ks h3;obtain ⟨a,rfl⟩:=KM h2;refine ⟨d+1,λm hm=>?_⟩;obtain ⟨m,rfl⟩:∃ q,m=q+1:=⟨m-1,by omega⟩;have ha:=hd a (by simp) m (by omega);show M9 (cF (cG m) p x ⟨op,nm,[a]⟩) _;unfold cF J;simp only [];refine .bif (λh=>absurd (eq_of_beq h)<|by omega) λ_ => .gdD ⟨by decide,by simp⟩<|ha.bind λv hv=>?_;subst hv;rcases h1 with rfl | rfl
   ·refine .bif (λ_=>(Gx hN).bind λv hv => .pure ?_) λh=>absurd h (by decide);rw [hv,Bf,xO,xO,Ii,if_neg (by decide),if_pos rfl]
    rfl
   refine .bif (λh=>absurd h<|by decide) λ_ => .bif (λ_=>(Cf hN).bind λv hv => .pure ?_) λh=>absurd h (by decide);rw [hv,Bf,xO,xO,Ii,if_neg (by decide),if_neg (by decide),if_pos rfl]
   rfl
  obtain ⟨d,hd⟩:=JR hN hb ks h3;obtain ⟨a,b,rfl⟩:=KN h2;refine ⟨d+1,λm hm=>?_⟩;obtain ⟨m,rfl⟩:∃ q,m=q+1:=⟨m-1,by omega⟩;have ha:=hd a (by simp) m (by omega);have hbb:=hd b (by simp) m (by omega);show M9 (cF (cG m) p x ⟨op,nm,[a,b]⟩) _;unfold cF J;simp only [];refine .bif (λh=>absurd (eq_of_beq h)<|by omega) λ_ => .gdD ⟨by decide,by simp⟩<|ha.bind λv hv=>?_;subst hv;refine .bif (λh=>absurd (eq_of_beq h)<|by omega) λ_ => .bif (λh=>absurd (eq_of_beq h)<|by omega) λ_ => .gdD ⟨by decide,by simp⟩<|hbb.bind λw hw=>?_;subst hw;rcases h1 with rfl | rfl | rfl | rfl
  ·refine .bif (λ_=>(JO hN).bind λv hv => .pure ?_) λh=>absurd h (by decide);rw [hv,Bf,xO,xO,xO,Ii,if_neg (by decide),if_neg (by decide),if_neg (by decide),if_pos rfl]
   rfl
  ·refine .bif (λh=>absurd h<|by decide) λ_ => .bif (λ_=>(KL hN).bind λv hv => .pure ?_) λh=>absurd h (by decide);rw [hv,Bf,xO,xO,xO,Ii,if_neg (by decide),if_neg (by decide),if_neg (by decide),if_neg (by decide),if_pos rfl]
   rfl
  ·refine .bif (λh=>absurd h<|by decide) λ_ => .bif (λh=>absurd h<|by decide) λ_ => .bif (λ_=>(JP hN).bind λv hv => .pure ?_) λh=>absurd h (by decide);rw [hv,Bf,xO,xO,xO,Ii,if_neg (by decide),if_neg (by decide),if_neg (by decide),if_neg (by decide),if_neg (by decide),if_pos rfl]
   rfl
  refine .bif (λh=>absurd h<|by decide) λ_ => .bif (λh=>absurd h<|by decide) λ_ => .bif (λh=>absurd h<|by decide) λ_=>(Gy hN).bind λv hv => .pure ?_;rw [hv,Bf,xO,xO,xO,Ii,if_neg (by decide),if_neg (by decide),if_neg (by decide),if_neg (by decide),if_neg (by decide),if_neg (by decide)]
  rfl
theorem JR (hN:N<=16) (hb:∀ nm∈DR,M9 (gW p x nm) (· = Nc N (base nm))):∀ l:List ZTE,VL l->∃ d,∀ t∈l,EvT p x N base d t
 | [],_=>⟨0,λt h=>by cases h⟩
 | t::l,h=>by
  rw [VL] at h;obtain ⟨d1,h1⟩:=KO hN hb t h.1;obtain ⟨d2,h2⟩:=JR hN hb l h.2;refine ⟨max d1 d2,λu hu=>?_⟩;rcases List.mem_cons.1 hu with rfl | hu
  ·exact λm hm=>h1 m (by omega)
  exact λm hm=>h2 u hu m (by omega)
end
theorem KP (hN:N<=16) (hb:∀ nm∈DR,M9 (gW p x nm) (· = Nc N (base nm))) {t:ZTE} (h:VT t):M9 (qK p x t.out) (· = Nc N (Bf base N t)):=by
 obtain ⟨d,hd⟩:=KO hN hb t h;exact yF d hd
end
theorem GF {l:LI} (hl:l.length<=4000000) (n:Int):M9 (cV l n) (· = plc l n):=by
 unfold cV;refine M9.sum (PS:=λ_=>n∉l) (PW:=(· = plc l n)) ?_ λ_ hn => .pure (by unfold plc;simp_all);refine M9.loop (λz=>∃ i:Nat,i<=l.length/\z=(i:Int)/\∀ j,j<i->l.getD j Nj≠n) (λz=>((l.length:Int)-z).toNat) ⟨0,by omega,rfl,λj hj=>by omega⟩ λz ⟨i,h1,h2,h3⟩ => ?_;subst h2;unfold jZ J;refine .bifD (λhk => .gdD ⟨by omega,hk⟩<|.bif (λhe => .pure ?_) λhe => .gdI (by omega)<|.pure ⟨⟨i+1,by omega,rfl,λj hj=>?_⟩,by omega⟩) λhk => .pure ?_
 ·simp only [tnn,beq_iff_eq] at he;have hi:i<l.length:=by omega
  have hm:n∈l:=by rw [he];exact Gf hi
  show (i:Int)=plc l n;unfold plc;rw [if_pos hm]
  congr 1
  have h4:=QY hm;rcases Nat.lt_trichotomy i (l.idxOf n) with h5 | h5 | h5
  ·exfalso;have : l.idxOf n<=i:=by
    have e:l=l.take i++l.drop i:=(Q9 i l).symm;rw [e,List.idxOf_append]
    split
    ·have := QY (by assumption:n∈l.take i);rw [QD] at this;omega
    rw [List.drop_eq_getElem_cons hi,show l[i]=n by rw [he,gdq,geq hi];rfl,List.idxOf_cons_self,QD];omega
   omega
  ·exact h5
  grind
 ·grind
 intro hm;have h4:=QY hm
 grind
def nH (e:M7) (w:Bool):Bool:=(e.cu==w) && !(e.Reads==w)
theorem Eb (e:M7) (w:Bool):M9 (df e w) (· = nH e w):=by
 unfold df;exact M9.bind (P:=(· = nH e w)) (.bif (λh => .pure<|by unfold nH;simp_all) λh => .pure<|by unfold nH;simp_all) λv hv => .pure hv
def I0 (l:List M5):Bool:=l.any λy=>y.Op==4
theorem KQ {l:List M5} (hl:l.length<=4000000):M9 (aC l) (· = I0 l):=by
 unfold aC aR;refine M9.bind (P:=λv:Int=>(0<=v↔I0 l=Nk)) ?_ λv hv => .pure ?_
 ·refine M9.sum (PS:=λ_=>I0 l=Nl) (PW:=λv:Int=>(0<=v↔I0 l=Nk)) ?_ λ_ hn => .pure (by rw [hn];simp);refine M9.loop (λz=>∃ i:Nat,i<=l.length/\z=(i:Int)/\∀ j,j<i->((l.getD j Nj).Op==4)=Nl) (λz=>((l.length:Int)-z).toNat) ⟨0,by omega,rfl,λj hj=>by omega⟩ λz ⟨i,h1,h2,h3⟩ => ?_;subst h2;unfold bi pO J;simp only [tnn];refine .bifD (λhk => .gdD ⟨by omega,hk⟩ (M9.bind (P:=(· = ((l.getD i Nj).Op==4))) (.pure rfl) λv hv => .bif (λhe => .pure ⟨λ_=>?_,λ_=>by omega⟩) λhe => .gdI (by omega)<|.pure ⟨⟨i+1,by omega,rfl,λj hj=>?_⟩,by omega⟩)) λhk => .pure ?_
  ·unfold I0;rw [List.any_eq_true];exact ⟨l.getD i Nj,getD_in (by omega),by rw [<- hv];exact he⟩
  ·by_cases e:j=i
   ·subst e;rw [<- hv];exact he
   exact h3 j (by omega)
  show I0 l=Nl;unfold I0;rw [List.any_eq_false];intro y hy;obtain ⟨j,hj,rfl⟩:=Ro hy;have := h3 j (by omega);rw [gdq,geq hj] at this;rw [show l[j]=(Nn l[j]).getD Nj from rfl,this]
  decide
 simp_all
section
variable {p:List (List M5)} {x:XS} {F:LI}
def KR (p:List<|List M5) (i k:Int):Bool:=poB p i k&&I0 (((p.getD (ev p i).Thread.toNat Nj).drop (ev p i).Index.toNat).take<|(ev p k).Index.toNat-(ev p i).Index.toNat)
def Mt (p:List<|List M5) (i k:Int):Bool:=Nq<|(ev p i).Loc=(ev p k).Loc
def extB (p:List<|List M5) (i k:Int):Bool:=Nq ((ev p i).Thread≠(ev p k).Thread)||Nq ((ev p i).Thread<0)
def nmR (p:List<|List M5) (x:XS) (nm:BA):Int->Int->Bool:=
 if nm=⟨#[112,111]⟩ then poB p else if nm=⟨#[108,111,99]⟩ then Mt p else if nm=⟨#[101,120,116]⟩ then extB p else if nm=⟨#[114,102]⟩ then rfB p x else
 if nm=⟨#[99,111]⟩ then coB p x else if nm=⟨#[102,114]⟩ then frB p x else if nm=⟨#[102,101,110,99,101]⟩ then KR p else
 if nm=⟨#[119,114]⟩ then (λi k=>nH (ev p i) Nk&&nH (ev p k) Nl) else if nm=⟨#[119,119]⟩ then (λi k=>nH (ev p i) Nk&&nH (ev p k) Nk) else λi k=>Nq (i=k)
theorem GG {l:LI} {n:Int}:0<=plc l n↔n∈l:=by
 unfold plc
 grind
theorem Ec (hX:XOk p x) {l:Int} (hl:0<=l/\l<=2) (i k:Int):M9 (dQ ⟨x.1,x.2⟩ l i k) (· = (Nq (i∈od x l)&&Nq (k∈od x l)&&Nq (plc (od x l) i<plc (od x l) k))):=by
 unfold dQ J;refine .gdD ⟨hl.1,by simp only [];rw [hX.o];omega⟩ ((GF (hX.r _) i).bind λv hv=>(GF (hX.r _) k).bind λw hw=>?_);change v=plc (od x l) i at hv;change w=plc (od x l) k at hw;subst hv hw;refine M9.bind (P:=(· = (Nq (i∈od x l)&&Nq (k∈od x l)))) (.bifD (λh => .pure ?_) λh => .pure ?_) λv hv=>M9.bind (P:=(· = (Nq (i∈od x l)&&Nq (k∈od x l)&&Nq (plc (od x l) i<plc (od x l) k)))) (.bif (λh => .pure ?_) λh => .pure ?_) λv hv => .pure hv
 ·rw [decide_eq_true (GG.1 h),QA];exact decide_eq_decide.2 GG
 ·rw [decide_eq_false λe=>h (GG.2 e)]
  rfl
 ·rw [<- hv,h,QA]
 simp_all
theorem KS (hp:PV p) (C:Cand p x F) {i k:Nat} (hi:i<(evs p).length) (hk:k<(evs p).length) (nm:BA) (hn:nm∈DR):M9 (oL p ⟨x.1,x.2⟩ (evs p) nm (i:Int) (k:Int)) (· = nmR p x nm i k):=by
 have ei:(evs p).getD i Nj=ev p (i:Int):=by unfold ev;rw [tnn]
 have ek:(evs p).getD k Nj=ev p (k:Int):=by unfold ev;rw [tnn]
 have hl:=uP hp (n:=(i:Int)) (by omega) (by omega);have hX:=MJ hp C;have hiF:(i:Int)∈F:=(C.mem _).2 ⟨by omega,by omega⟩;have hkF:(k:Int)∈F:=(C.mem _).2 ⟨by omega,by omega⟩;unfold oL J;simp only [tnn,ei,ek];refine .gdD ⟨by omega,by omega⟩ (.gdD ⟨by omega,by omega⟩ (M9.bind (P:=(· = (Nq (0<=(ev p i).Thread)&&Nq ((ev p i).Thread=(ev p k).Thread)))) (.bifD (λh => .pure ?_) λh => .pure ?_) λsame hs=>M9.bind (P:=(· = poB p i k)) (.bif (λh => .pure ?_) λh => .pure ?_) λpo hpo=>?_))
 ·rw [decide_eq_true h,QA];exact JE _ _
 ·rw [decide_eq_false h];rfl
 ·unfold poB;rw [Bool.and_comm (Nq<|(ev p i).Thread=(ev p k).Thread),<- hs,h,QA]
 ·unfold poB;rw [Bool.and_comm (Nq<|(ev p i).Thread=(ev p k).Thread),<- hs,h,Bool.false_and]
 subst hpo;clear hs;have hn':nm=⟨#[112,111]⟩\/nm=⟨#[108,111,99]⟩\/nm=⟨#[101,120,116]⟩\/nm=⟨#[114,102]⟩\/nm=⟨#[99,111]⟩\/nm=⟨#[102,114]⟩\/nm=⟨#[102,101,110,99,101]⟩\/nm=⟨#[119,114]⟩\/nm=⟨#[119,119]⟩\/nm=⟨#[105,100]⟩:=by
  simpa [DR] using hn
 rcases hn' with rfl | rfl | rfl | rfl | rfl | rfl | rfl | rfl | rfl | rfl
 ·exact M9.sumR<|.bif (λ_ => .pure rfl) λh=>absurd h (by decide)
 ·exact M9.sumR<|.bif (λh=>absurd h<|by decide) λ_ => .bif (λ_ => .pure<|congrArg Sum.inr<|JE _ _) λh=>absurd h (by decide)
 ·refine M9.sumR<|.bif (λh=>absurd h<|by decide) λ_ => .bif (λh=>absurd h<|by decide) λ_ => .bif (λ_=>?_) λh=>absurd h (by decide);refine M9.bind (P:=(· = extB p i k)) (.bif (λh => .pure ?_) λh => .pure ?_) λv hv => .pure<|congrArg Sum.inr hv
  ·unfold extB;rw [decide_eq_true (show (ev p i).Thread≠(ev p k).Thread by simpa using h)]
   rfl
  unfold extB;rw [decide_eq_false (show ¬ (ev p i).Thread≠(ev p k).Thread by simpa using h)]
  rfl
 ·refine M9.sumR<|.bif (λh=>absurd h<|by decide) λ_ => .bif (λh=>absurd h<|by decide) λ_ => .bif (λh=>absurd h<|by decide) λ_ => .bif (λ_=>?_) λh=>absurd h (by decide);refine .gdD ⟨by omega,by show _<((x.1.length:Nat):Int);rw [C.flen];omega⟩ (.pure<|congrArg Sum.inr ?_);show (x.1.getD k Nj==(i:Int))=rfB p x i k;unfold rfB;rw [tnn,JE]
  cases hr:(ev p (k:Int)).Reads with
  | true=>rw [QA]
  | false=>
   have := C.frN _ hkF hr;rw [tnn] at this;rw [this,Bool.false_and];exact decide_eq_false (by omega)
 ·refine M9.sumR<|.bif (λh=>absurd h<|by decide) λ_ => .bif (λh=>absurd h<|by decide) λ_ => .bif (λh=>absurd h<|by decide) λ_ => .bif (λh=>absurd h<|by decide) λ_ => .bif (λ_=>?_) λh=>absurd h (by decide);refine (Ec hX hl i k).bind λv hv => .pure<|congrArg Sum.inr ?_;show v=coB p x i k;rw [hv];unfold coB
  congr 1
  have O:=C.ods _ hl;rw [Bool.eq_iff_iff];simp only [bae,dte]
  constructor
  ·rintro ⟨h1,h2⟩;exact ⟨⟨((O.mem _).1 h1).2.1,((O.mem _).1 h2).2.1⟩,((O.mem _).1 h2).2.2.symm⟩
  rintro ⟨⟨h1,h2⟩,h3⟩;exact ⟨(O.mem _).2 ⟨hiF,h1,rfl⟩,(O.mem _).2 ⟨hkF,h2,h3.symm⟩⟩
 ·refine M9.sumR<|.bif (λh=>absurd h<|by decide) λ_ => .bif (λh=>absurd h<|by decide) λ_ => .bif (λh=>absurd h<|by decide) λ_ => .bif (λh=>absurd h<|by decide) λ_ => .bif (λh=>absurd h<|by decide) λ_ => .bif (λ_=>?_) λh=>absurd h (by decide);refine M9.bind (P:=(· = frB p x i k)) (.bif (λh1 => .bif (λh2 => .bif (λh3 => .gdD ⟨by omega,by show _<((x.1.length:Nat):Int);rw [C.flen];omega⟩<|(Ec hX hl _ _).bind λv hv => .pure ?_) λh3 => .pure ?_) λh2 => .pure ?_) λh1 => .pure ?_) λv hv => .pure (congrArg Sum.inr hv)
  ·have h3 : ¬ (i:Int)=(k:Int):=by simpa using h3
   have O:=C.ods _ hl;rw [hv];unfold frB;have hrd:=C.rdc _ hiF h1;rw [tnn] at hrd ⊢;rw [h1,h2,decide_eq_false h3,decide_eq_true hrd];simp only [Bool.and_self,QA,Bool.not_false,Bool.and_true]
   congr 1
   refine decide_eq_decide.2 ⟨λh=>((O.mem _).1 h).2.2.symm,λh=>(O.mem _).2 ⟨hkF,h2,h.symm⟩⟩
  ·have h3:(i:Int)=(k:Int):=by simpa using h3
   unfold frB;rw [decide_eq_true h3];simp
  ·unfold frB;rw [h2];simp
  unfold frB;rw [h1];simp
 ·refine M9.sumR<|.bif (λh=>absurd h<|by decide) λ_ => .bif (λh=>absurd h<|by decide) λ_ => .bif (λh=>absurd h<|by decide) λ_ => .bif (λh=>absurd h<|by decide) λ_ => .bif (λh=>absurd h<|by decide) λ_ => .bif (λh=>absurd h<|by decide) λ_ => .bif (λ_=>?_) λh=>absurd h (by decide);refine M9.bind (P:=(· = KR p i k)) (.bif (λh=>?_) λh => .pure<|by unfold KR;rw [h];rfl) λv hv => .pure (congrArg Sum.inr hv);have hpo:=h;unfold poB at h;simp only [bae,dte] at h;obtain ⟨⟨h1,h2⟩,h3⟩:=h;rcases vZ (p:=p) (n:=(k:Int)) (by omega) (by omega) with hc | ⟨t,q,hI,e⟩
  ·exfalso;have : (ev p (k:Int)).Thread = -1:=by
    rw [show (k:Int)=((k:Nat):Int) from rfl,(tH (p:=p) (l:=k)<|by omega).1]
   omega
  rcases vZ (p:=p) (n:=(i:Int)) (by omega) (by omega) with hc | ⟨t',q',hI',e'⟩
  ·exfalso;have : (ev p (i:Int)).Thread = -1:=by
    rw [(tH (p:=p) (l:=i)<|by omega).1]
   omega
  have a1:=(hI.ev (p:=p)).1;have a2:=(hI'.ev (p:=p)).1;rw [<- e] at a1;rw [<- e'] at a2;rw [a1,a2] at h1 h3;simp only at h1 h3;have ht:t'=t:=by omega
  subst ht;have hlen:=hI.k;refine .gdD ⟨by rw [a2];simp only [];omega,by rw [a2];simp only [];have := hI'.t;omega⟩ (.gdD ⟨by rw [a2];simp only [];omega,by rw [a1,a2];simp only [];omega,by rw [a1,a2];simp only [];rw [tnn];omega⟩<|(KQ ?_).bind λv hv => .pure ?_)
  ·have := hp.vs.2 t';rw [a2];simp only [QD,List.length_drop,tnn];omega
  rw [hv];unfold KR;rw [hpo,QA]
 ·refine M9.sumR<|.bif (λh=>absurd h<|by decide) λ_ => .bif (λh=>absurd h<|by decide) λ_ => .bif (λh=>absurd h<|by decide) λ_ => .bif (λh=>absurd h<|by decide) λ_ => .bif (λh=>absurd h<|by decide) λ_ => .bif (λh=>absurd h<|by decide) λ_ => .bif (λh=>absurd h<|by decide) λ_ => .bif (λ_=>?_) λh=>absurd h (by decide);refine (Eb _ _).bind λv hv=>M9.bind (P:=(· = (nH (ev p i) Nk&&nH (ev p k) Nl))) (.bif (λh=>(Eb _ _).bind λw hw => .pure ?_) λh => .pure ?_) λv hv => .pure<|congrArg Sum.inr hv
  ·have e:nH (ev p i) Nk=Nk:=hv.symm.trans h;show w=(nH (ev p i) Nk&&nH (ev p k) Nl);rw [e];exact hw
  have e:nH (ev p i) Nk=Nl:=hv.symm.trans h;show Nl=(nH (ev p i) Nk&&nH (ev p k) Nl);rw [e]
  rfl
 ·refine M9.sumR<|.bif (λh=>absurd h<|by decide) λ_ => .bif (λh=>absurd h<|by decide) λ_ => .bif (λh=>absurd h<|by decide) λ_ => .bif (λh=>absurd h<|by decide) λ_ => .bif (λh=>absurd h<|by decide) λ_ => .bif (λh=>absurd h<|by decide) λ_ => .bif (λh=>absurd h<|by decide) λ_ => .bif (λh=>absurd h<|by decide) λ_ => .bif (λ_=>?_) λh=>absurd h (by decide);refine (Eb _ _).bind λv hv=>M9.bind (P:=(· = (nH (ev p i) Nk&&nH (ev p k) Nk))) (.bif (λh=>(Eb _ _).bind λw hw => .pure ?_) λh => .pure ?_) λv hv => .pure<|congrArg Sum.inr hv
  ·have e:nH (ev p i) Nk=Nk:=hv.symm.trans h;show w=(nH (ev p i) Nk&&nH (ev p k) Nk);rw [e];exact hw
  have e:nH (ev p i) Nk=Nl:=hv.symm.trans h;show Nl=(nH (ev p i) Nk&&nH (ev p k) Nk);rw [e]
  rfl
 refine M9.sum (PS:=λ_=>True) (PW:=(· = nmR p x ⟨#[105,100]⟩ i k)) (.bif (λh=>absurd h<|by decide) λ_ => .bif (λh=>absurd h<|by decide) λ_ => .bif (λh=>absurd h<|by decide) λ_ => .bif (λh=>absurd h<|by decide) λ_ => .bif (λh=>absurd h<|by decide) λ_ => .bif (λh=>absurd h<|by decide) λ_ => .bif (λh=>absurd h<|by decide) λ_ => .bif (λh=>absurd h<|by decide) λ_ => .bif (λh=>absurd h<|by decide) λ_ => .pure trivial) λ_ _ => .pure<|JE _ _
theorem LR (hp:PV p) (C:Cand p x F) {nm:BA} (hn:nm∈DR):M9 (gW p ⟨x.1,x.2⟩ nm) (· = Nc (evs p).length (nmR p x nm)):=by
 have hel:=ve hp.vs;unfold gW;refine (C9 hp.vs).bind λv1 h1=>?_;subst h1;exact M9.bind (P:=(· = Nc (evs p).length (nmR p x nm))) (Cc (by omega) (is:=λi k=>qJ i k p ⟨x.1,x.2⟩ (evs p) nm) λi k hi hk=>(KS hp C hi hk nm hn).bind λv hv => .pure hv) λv hv => .pure hv
theorem KT (hv:cT (Nb p)=Nk):(evs p).length<=15:=by
 have h1:=zq (p:=p) (λe=>Nq (0<=e.Thread)||Nk) uw (λt k x ho=>by simp [uw,pI,ho]) (λx ho=>by simp [uw,pI,ho]);rw [show (ev0.filter λe=>Nq (0<=e.Thread)||Nk).length=3 from rfl,Rb.2 (λa _=>by simp)] at h1;simp only [cT,qq,bae,dte] at hv;omega
end
end
end Go.Proofs.YtabfkkjdfhbngaaGreatDoor
