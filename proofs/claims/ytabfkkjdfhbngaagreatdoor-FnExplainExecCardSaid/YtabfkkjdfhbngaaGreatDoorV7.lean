/- Texts joined. No conditions. -/
import Derived.Test.YtabfkkjdfhbngaaGreatDoorV6
namespace Go.Proofs.YtabfkkjdfhbngaaGreatDoor
noncomputable section
open _root_.Inhabited renaming default -> QW
open _root_.Bool renaming true -> QX
open _root_.Bool renaming false -> QY
open _root_.Option renaming some -> QZ
open _root_.Option renaming none -> Q0
open _root_.Decidable renaming decide -> Q3
open _root_.List renaming range -> TV, mem_range -> Ua, mem_map -> Uc, length_range -> Ud, range_succ -> Ue, filter_append -> Uf, map_append -> Ug, mem_cons_self -> Uh, nil_append -> Ui, length_take -> Ul, replicate -> Uo, mem_filter -> Ur, idxOf_lt_length_of_mem -> Us, length_filter_le -> Ut, length_drop -> Ux, append_assoc -> Uy, take_of_length_le -> Uz, take_length -> UA, mem_cons -> UB, pairwise_cons -> UC, mem_singleton -> UD, take_append_drop -> UF, range' -> UG, mem_flatMap -> UH, mem_cons_of_mem -> UJ, length_nil -> UK, pairwise_iff_getElem -> UL, drop_eq_getElem_cons -> UQ, length_singleton -> UR, flatMap_append -> UT, eq_nil_of_length_eq_zero -> UU, getElem_of_mem -> UV, drop_eq_nil_of_le -> UW
open _root_.Nat renaming le_trans -> TW, zero_le -> T9, le_mul_of_pos_right -> Um, le_mul_of_pos_left -> Un, lt_or_ge -> Uq, le_refl -> Uv, mul_pos -> Uw, eq_of_testBit_eq -> UE, mul_le_mul -> UI, pow_lt_pow_right -> UN
open _root_.BitVec renaming ofInt -> TY, ofInt_natCast -> Uj, toNat_ofNat -> Uk
open _root_.Int renaming toNat_of_nonneg -> TZ, fdiv_eq_ediv_of_nonneg -> UO
open _root_.Option renaming bind -> Ub
open _root_.Bool renaming true_and -> Uu
open _root_.List.Nodup renaming idxOf_getElem -> UM
open Go.RowKit
set_option maxRecDepth 100000
theorem D6 {α:Type} {Q:List α->Prop} (h0:Q []) (hs:∀ l a,Q l->Q (l++[a])) (l:List α):Q l:=by
 have key:∀ m:List α,Q m.reverse:=λm=>by
  induction m with
  | nil=>exact h0
  | cons a m ih=>rw [List.reverse_cons];exact hs _ _ ih
 have h:=key l.reverse
 simp_all
section
variable {p:List (List QH)}
def ev (p:List<|List QH) (n:Int):QJ:=(evs p).getD n.toNat QW
def Wl (p:List<|List QH) (l:Int) (n:Int):Bool:=(ev p n).aH&&Q3 ((ev p n).Loc=l)
theorem Jp (t:Nat) (row:List QH):∀ (r j:Nat),j<(evR t row r).length->∃ k,k<r /\ ¬ (row.getD k QW).Op=4/\j=(evR t row k).length
 | 0,j,h=>by simp [evR] at h
 | r+1,j,h=>by
  rcases Uq j (evR t row r).length with hj | hj
  ·obtain ⟨k,h1,h2,h3⟩:=Jp t row r j hj
   grind
  simp only [evR,lla] at h;have h1:=Jn t r<|row.getD r QW;refine ⟨r,by omega,λho=>?_,by omega⟩;have : (evX t r<|row.getD r QW).length=0:=by unfold evX;rw [if_pos ho];rfl
  omega
theorem Jq:∀ (m n:Nat),n<(evP p m).length->n<3\/∃ t k,t<m/\k<(p.getD t QW).length /\ ¬ ((p.getD t QW).getD k QW).Op=4/\n=base p t k
 | 0,n,h => .inl h
 | m+1,n,h=>by
  rcases Uq n (evP p m).length with hn | hn
  ·rcases Jq m n hn with h1 | ⟨t,k,h1,h2,h3,h4⟩
   ·exact .inl h1
   grind
  simp only [evP,lla] at h;obtain ⟨k,h1,h2,h3⟩:=Jp m (p.getD m QW) (p.getD m QW).length (n-(evP p m).length) (by omega);exact .inr ⟨m,k,by omega,h1,h2,by unfold base;omega⟩
structure Isn (p:List (List QH)) (a b:Nat):Prop where
 t:a<p.length
 k:b<(p.getD a QW).length
 o : ¬ ((p.getD a QW).getD b QW).Op=4
def ins (p:List<|List QH) (t k:Nat):QH:=(p.getD t QW).getD k QW
theorem Isn.ev {t k:Nat} (h:Isn p t k):ev p (base p t k:Int)=⟨t,k,(ins p t k).Loc,rdX<|ins p t k,wrX<|ins p t k⟩/\base p t k<(evs p).length:=by
 have := Oo h.t h.k h.o;exact ⟨by unfold Go.Proofs.YtabfkkjdfhbngaaGreatDoor.ev;rw [tnn];exact this.1,this.2⟩
theorem xg {l:Nat} (hl:l<3):ev p (l:Int)=⟨-1,l,l,QY,QX⟩/\l<(evs p).length:=by
 obtain ⟨h1,h2⟩:=GZ (F3 p<|T9 p.length) (i:=l) (by exact hl);refine ⟨?_,h2⟩;unfold ev;rw [tnn];refine h1.trans ?_
 match l,hl with
 | 0,_=>rfl
 | 1,_=>rfl
 | 2,_=>rfl
theorem Bi {n:Int} (h0:0<=n) (h:n<((evs p).length:Int)):n<3\/∃ t k,Isn p t k/\n=(base p t k:Int):=by
 rcases Jq p.length n.toNat (by show _<(evs p).length;omega) with h1 | ⟨t,k,h1,h2,h3,h4⟩
 ·omega
 exact .inr ⟨t,k,⟨h1,h2,h3⟩,by omega⟩
theorem K3 {t k t' k':Nat} (h:Isn p t k) (h':Isn p t' k') (e:base p t k=base p t' k'):t=t'/\k=k':=by
 have h1:=h.ev.1;rw [e,h'.ev.1] at h1
 grind
structure OrdI (p:List (List QH)) (s:List Int) (m:Nat):Prop where
 mem:∀ n:Int,n∈ML p s m↔∃ t k:Nat,Isn p t k/\k<(s.take m).count (t:Int)/\n=(base p t k:Int)
 pw:(ML p s m).Pairwise λi k=>i≠k/\((ev p i).Thread=(ev p k).Thread->(ev p i).Index<(ev p k).Index)
theorem OrdI.all {s:LI} (hg:Good p s s.length):∀ {m:Nat},m<=s.length->OrdI p s m
 | 0,_=>⟨λn=>⟨λh=>by simp [ML] at h,λ⟨t,k,_,h,_⟩=>by grind⟩,by simp [ML]⟩
 | m+1,hm=>by
  have ih:=OrdI.all hg (m:=m) (by omega);obtain ⟨g1,g2,g3⟩:=MM hg (j:=m) (by omega);have hc:∀ v:Int,(s.take<|m+1).count v=(s.take m).count v+if s.getD m QW=v then 1 else 0:=λv=>Ia (by omega) v;have hk:stK s m=(s.take m).count ((sTh s m:Nat):Int):=by rw [g2];rfl
  have new:∀ n:Int,n∈KY p (sTh s m) (stK s m)↔Isn p (sTh s m) (stK s m)/\n=(base p (sTh s m) (stK s m):Int):=λn=>by
   unfold KY
   split
   ·rename_i ho;exact ⟨λh=>by grind,λh=>absurd ho h.1.o⟩
   rename_i ho;rw [UD];exact ⟨λh=>⟨⟨g1,g3,ho⟩,h⟩,λh=>h.2⟩
  refine ⟨λn=>?_,?_⟩
  ·simp only [ML,List.mem_append,new,ih.mem]
   grind
  simp only [ML];refine List.pairwise_append.2 ⟨ih.pw,?_,λa ha b hb=>?_⟩
  ·unfold KY
   split <;> simp
  obtain ⟨t,k,h1,h2,rfl⟩:=(ih.mem a).1 ha;obtain ⟨h3,rfl⟩:=(new b).1 hb;have key:t=sTh s m->k<stK s m:=λe=>by simp_all
  refine ⟨λe=>?_,λe=>?_⟩
  ·obtain ⟨e1,e2⟩:=K3 h1 h3 (by omega);omega
  rw [h1.ev.1,h3.ev.1] at e ⊢
  simp_all
theorem W3:∀ l:Nat,l<3->([0,1,2]:LI).filter (Wl p (l:Int))=[(l:Int)]:=λl hl=>by
 have w:∀ j:Nat,j<3->Wl p (l:Int) (j:Int)=Q3 ((j:Int)=(l:Int)):=λj hj=>by
  unfold Wl;rw [(xg (p:=p) hj).1];simp
 have w0:Wl p (l:Int) 0=Q3 ((0:Int)=(l:Int)):=w 0 (by omega);have w1:Wl p (l:Int) 1=Q3 ((1:Int)=(l:Int)):=w 1 (by omega)
 grind
abbrev rk (F:LI) (n:Int):Nat:=F.idxOf n
structure RunOf (p:List (List QH)) (x:XS) (F:List Int):Prop where
 ini:∃ o,F=[0,1,2]++o
 nd:F.Nodup
 mem:∀ n:Int,n∈F↔0<=n/\n<((evs p).length:Int)
 po:∀ i k:Int,i∈F->k∈F->0<=(ev p i).Thread->(ev p i).Thread=(ev p k).Thread->(ev p i).Index<(ev p k).Index->rk F i<rk F k
 ord:∀ l:Nat,l<3->x.2.getD l []=F.filter (Wl p (l:Int))
 flen:x.1.length=(evs p).length
 olen:x.2.length=3
 frm:∀ i:Int,i∈F->(ev p i).Reads=QX->∃ c,c<(F.filter<|Wl p (ev p i).Loc).length/\x.1.getD i.toNat QW=(F.filter<|Wl p (ev p i).Loc).getD c QW/\∀ q,q<(F.filter<|Wl p (ev p i).Loc).length->(q<=c↔rk F ((F.filter<|Wl p (ev p i).Loc).getD q QW)<rk F i)
 frN:∀ i:Int,i∈F->(ev p i).Reads=QY->x.1.getD i.toNat QW = -1
end
section
variable {p:List (List QH)} {x:XS} {F:LI}
def dn (p:List<|List QH) (a:Nat->Nat) (n:Int):Bool:=Q3 ((ev p n).Thread<0)||Q3 ((ev p n).Index<(a (ev p n).Thread.toNat:Int))
def od (x:XS) (l:Int):LI:=x.2.getD l.toNat []
def plc (l:LI) (n:Int):Int:=if n∈l then (l.idxOf n:Int) else -1
def poB (p:List<|List QH) (i k:Int):Bool:=(Q3 ((ev p i).Thread=(ev p k).Thread)&&Q3 (0<=(ev p i).Thread))&&Q3 ((ev p i).Index<(ev p k).Index)
def rfB (p:List<|List QH) (x:XS) (i k:Int):Bool:=(ev p k).Reads&&Q3 (x.1.getD k.toNat QW=i)
def coB (p:List<|List QH) (x:XS) (i k:Int):Bool:=(((ev p i).aH&&(ev p k).aH)&&Q3 ((ev p i).Loc=(ev p k).Loc))&&Q3 (plc (od x (ev p i).Loc) i<plc (od x (ev p i).Loc) k)
def frB (p:List<|List QH) (x:XS) (i k:Int):Bool:=((((ev p i).Reads&&(ev p k).aH)&&Q3 ((ev p i).Loc=(ev p k).Loc)) && !decide (i=k))&&Q3 (plc (od x (ev p i).Loc) (x.1.getD i.toNat QW)<plc (od x (ev p i).Loc) k)
def bef (p:List<|List QH) (x:XS) (i k:Int):Bool:=((poB p i k||rfB p x i k)||coB p x i k)||frB p x i k
theorem tj (hp:PV p) {n:Int} (h0:0<=n) (h:n<((evs p).length:Int)):0<=(ev p n).Loc/\(ev p n).Loc<=2:=by
 rcases Bi h0 h with h3 | ⟨t,k,h3,rfl⟩
 ·have := (xg (p:=p) (l:=n.toNat)<|by omega).1
  grind
 rw [h3.ev.1];have := hp.ins t k h3.t h3.k;exact ⟨this.1,this.2.1⟩
theorem MN {l:LI} {n:Int} (h:n∈l):plc l n=(l.idxOf n:Int):=if_pos h
structure OdI (p:List (List QH)) (F L:List Int) (l:Int):Prop where
 nd:L.Nodup
 mem:∀ n,n∈L↔n∈F/\(ev p n).aH=QX/\(ev p n).Loc=l
 rk:∀ q r,q<r->r<L.length->rk F (L.getD q QW)<rk F (L.getD r QW)
theorem RunOf.od (R:RunOf p x F) (l:Int) (hl:0<=l/\l<=2):OdI p F (od x l) l/\Go.Proofs.YtabfkkjdfhbngaaGreatDoor.od x l=F.filter (Wl p l):=by
 have h:Go.Proofs.YtabfkkjdfhbngaaGreatDoor.od x l=F.filter (Wl p l):=by
  have := R.ord l.toNat (by omega);rw [TZ hl.1] at this;exact this
 refine ⟨⟨by rw [h];exact R.nd.filter _,λn=>?_,λq r hqr hr=>?_⟩,h⟩
 ·rw [h,Ur];unfold Wl;simp
 rw [h] at hr ⊢;have pw:F.Pairwise λi k=>Go.Proofs.YtabfkkjdfhbngaaGreatDoor.rk F i<Go.Proofs.YtabfkkjdfhbngaaGreatDoor.rk F k:=UL.2 λi j hi hj hij=>by
  show F.idxOf F[i]<F.idxOf F[j];rw [UM R.nd i hi,UM R.nd j hj];exact hij
 have := UL.1 (pw.filter<|Wl p l) q r (by omega) hr hqr
 grind
structure OdC (p:List (List QH)) (F L:List Int) (l:Int):Prop where
 nd:L.Nodup
 mem:∀ n,n∈L↔n∈F/\(ev p n).aH=QX/\(ev p n).Loc=l
structure Cand (p:List (List QH)) (x:XS) (F:List Int):Prop where
 mem:∀ n:Int,n∈F↔0<=n/\n<((evs p).length:Int)
 flen:x.1.length=(evs p).length
 olen:x.2.length=3
 ods:∀ l:Int,0<=l/\l<=2->OdC p F (od x l) l
 hd:∀ l:Nat,l<3->∃ t,od x (l:Int)=(l:Int)::t
 rdc:∀ i:Int,i∈F->(ev p i).Reads=QX->x.1.getD i.toNat QW∈od x (ev p i).Loc
 ne:∀ i:Int,i∈F->(ev p i).Reads=QX->x.1.getD i.toNat QW≠i
 frN:∀ i:Int,i∈F->(ev p i).Reads=QY->x.1.getD i.toNat QW = -1
def dc (p:List<|List QH) (x:XS) (a:Nat->Nat) (l:Int):Nat:=((od x l).filter<|dn p a).length
def LN (p:List<|List QH) (x:XS) (F:LI) (a:Nat->Nat) (n:Int):Prop:=∀ i:Int,i∈F->bef p x i n=QX->dn p a i=QX
def Dead (p:List<|List QH) (x:XS) (F:LI) (a:Nat->Nat):Prop:=∃ i:Int,i∈F/\(ev p i).Reads=QX/\dn p a i=QY/\∃ c,c<(od x (ev p i).Loc).length/\x.1.getD i.toNat QW=(od x (ev p i).Loc).getD c QW/\c+1<dc p x a (ev p i).Loc
def adv (a:Nat->Nat) (t:Nat):Nat->Nat:=λu=>if u=t then a t+1 else a u
def Py (p:List<|List QH) (t k:Nat):Prop:=((p.getD t QW).getD k QW).Op=4
instance (t k:Nat):Decidable (Py p t k):=by unfold Py;infer_instance
def StA (p:List<|List QH) (a:Nat->Nat):Prop:=∀ t,t<p.length->a t<=(p.getD t QW).length
def nxt (p:List<|List QH) (a:Nat->Nat) (t:Nat):Option Int:=if Py p t (a t) then Q0 else QZ (base p t (a t):Int)
def EU (p:List<|List QH) (x:XS) (F:LI) (a:Nat->Nat) (t:Nat):Prop:=t<p.length/\a t<(p.getD t QW).length/\∀ n,nxt p a t=QZ n->LN p x F a n
def Qq (p:List<|List QH) (a:Nat->Nat):Prop:=∀ t,t<p.length->a t=(p.getD t QW).length
inductive Gr (p:List (List QH)) (x:XS) (F:List Int):(Nat->Nat)->List Int->Prop
 | nil {a:Nat->Nat} (h:Qq p a):Gr p x F a []
 | cons {a:Nat->Nat} {t:Nat} {r:LI} (h:EU p x F a t) (hl:∀ u,u<t -> ¬ EU p x F a u) (k:Gr p x F (adv a t) r):Gr p x F a ((t:Int)::r)
end
theorem KC (a b:Int):(a==b)=Q3 (a=b):=by grind
theorem wu {n:Nat} (h:n<9223372036854775808):IntKind.wrap .i64 (n:Int)=(n:Int):=by
 simp only [IntKind.wrap];show (let m:=(n:Int) % 18446744073709551616;if QX&&m>=(9223372036854775808:Int) then m-18446744073709551616 else m)=n
 grind
theorem rU {a b:Nat} (ha:a<9223372036854775808) (hb:b<9223372036854775808):bOr .i64 (a:Int) (b:Int)=((a|||b:Nat):Int):=by
 have hlt:(a|||b)<2 ^ 63:=Nat.or_lt_two_pow ha hb;show IntKind.wrap .i64 (((TY 64 (a:Int)|||TY 64 (b:Int)).toNat:Nat):Int)=_;have h1:(TY 64 (a:Int)).toNat=a:=by rw [Uj,Uk];omega
 have h2:(TY 64 (b:Int)).toNat=b:=by rw [Uj,Uk];omega
 rw [BitVec.toNat_or,h1,h2];exact wu hlt
theorem Bj {k:Nat} (h:k<62):De .i64 1 (k:Int)=((2 ^ k:Nat):Int):=by
 show IntKind.wrap .i64 (1*2 ^ (min (k:Int).toNat 64))=_;have hm:min (k:Int).toNat 64=k:=by omega
 rw [hm,Int.one_mul,show (2:Int) ^ k=((2 ^ k:Nat):Int) by simp];refine wu ?_;have := UN (a:=2) (by omega) (show k<63 by omega);omega
theorem LO {m k:Nat} (hm:m<9223372036854775808) (hk:k<62):fH .i64 (jw .i64 (m:Int) (k:Int)) 1=if m.testBit k then 1 else 0:=by
 have h1:jw .i64 (m:Int) (k:Int)=((m / 2 ^ k:Nat):Int):=by
  show (m:Int).fdiv (2 ^ (min (k:Int).toNat 64))=_;have hm:min (k:Int).toNat 64=k:=by omega
  rw [hm,show (2:Int) ^ k=((2 ^ k:Nat):Int) by simp,UO _ (Int.natCast_nonneg _)]
  rfl
 have hlt:m / 2 ^ k<9223372036854775808:=Nat.lt_of_le_of_lt (Nat.div_le_self _ _) hm;rw [h1];show IntKind.wrap .i64 (((TY 64 ((m / 2 ^ k:Nat):Int)&&&TY 64 (1:Int)).toNat:Nat):Int)=_;rw [Nat.testBit_eq_decide_div_mod_eq];generalize m / 2 ^ k=d at hlt;have h2:(TY 64 ((d:Nat):Int)).toNat=d:=by rw [Uj,Uk];omega
 rw [BitVec.toNat_and,h2,show (TY 64 (1:Int)).toNat=1 from rfl,Nat.and_one_is_mod]
 by_cases h:d % 2=1
 ·rw [h,if_pos (by simp)];exact wu (by omega)
 rw [show d % 2=0 by omega,if_neg (by simp)];exact wu (by omega)
def QN (f:Nat->Bool):Nat->Nat
 | 0=>0
 | n+1=>if f n then QN f n|||2 ^ n else QN f n
theorem jV (f:Nat->Bool):∀ (n j:Nat),(QN f n).testBit j=(Q3 (j<n)&&f j)
 | 0,j=>by simp [QN]
 | n+1,j=>by
  have ih:=jV f n j;unfold QN
  grind
theorem G3 (f:Nat->Bool):∀ n:Nat,QN f n<2 ^ n
 | 0=>by simp [QN]
 | n+1=>by
  have ih:=G3 f n;have h2:(2:Nat) ^ (n+1)=2*2 ^ n:=by omega
  unfold QN
  split
  ·exact Nat.or_lt_two_pow (by omega) (by omega)
  omega
theorem Dm (f g:Nat->Bool) (n:Nat):QN f n|||QN g n=QN (λj=>f j||g j) n:=by
 apply UE;intro j;rw [Nat.testBit_or,jV,jV,jV]
 grind
theorem aX {f:Nat->Bool} {n:Nat} (h:n<=62):QN f n<9223372036854775808:=by
 have h1:=G3 f n;have h2:(2:Nat) ^ n<=2 ^ 62:=Nat.pow_le_pow_right (by omega) h;omega
theorem yl {l:LI} (hl:l.length<=4000000) (n:Int):QM (fg l n) (· = plc l n):=by
 unfold fg;refine QM.sum (PS:=λ_=>n∉l) (PW:=(· = plc l n)) ?_ λ_ hn => .pure (by unfold plc;simp_all);refine QM.loop (λz=>∃ i:Nat,i<=l.length/\z=(i:Int)/\∀ j,j<i->l.getD j QW≠n) (λz=>((l.length:Int)-z).toNat) ⟨0,by omega,rfl,λj hj=>by omega⟩ λz ⟨i,h1,h2,h3⟩ => ?_;subst h2;unfold sS J;refine .bifD (λhk => .gdD ⟨by omega,hk⟩<|.bif (λhe => .pure ?_) λhe => .gdI (by omega)<|.pure ⟨⟨i+1,by omega,rfl,λj hj=>?_⟩,by omega⟩) λhk => .pure ?_
 ·simp only [tnn,beq_iff_eq] at he;have hi:i<l.length:=by omega
  have hm:n∈l:=by rw [<- he];exact vB hi
  unfold plc;rw [if_pos hm]
  congr 1
  have h4:=Us hm;rcases Nat.lt_trichotomy i (l.idxOf n) with h5 | h5 | h5
  ·exfalso;have : l.idxOf n<=i:=by
    have e:l=l.take i++l.drop i:=(UF i l).symm;rw [e,List.idxOf_append]
    split
    ·have := Us (by assumption:n∈l.take i);rw [Ul] at this;omega
    rw [UQ hi,show l[i]=n by rw [<- he,gdq,geq hi];rfl,List.idxOf_cons_self,Ul];omega
   omega
  ·exact h5
  grind
 ·grind
 intro hm;have h4:=Us hm
 grind
section
variable {p:List (List QH)} {x:XS} {F:LI}
structure XOk (p:List (List QH)) (x:XS):Prop where
 f:x.1.length=(evs p).length
 o:x.2.length=3
 r:∀ i:Nat,(x.2.getD i QW).length<=4000000
theorem Dq (hx:XOk p x) {l:Int} (hl:0<=l/\l<=2) (i k:Int):QM (dB ⟨x.1,x.2⟩ l i k) (· = Q3 (plc (od x l) i<plc (od x l) k)):=by
 unfold dB J;refine .gdD ⟨hl.1,by simp only [];rw [hx.o];omega⟩ ((yl (hx.r _) i).bind λv hv=>(yl (hx.r _) k).bind λw hw => .pure ?_);subst hv hw
 rfl
theorem K4 (hp:PV p) (hx:XOk p x) {i k:Nat} (hi:i<(evs p).length) (hk:k<(evs p).length) (name:BA) (f:Int->Int->Bool)
  (h:(name=⟨#[112,111]⟩/\f=poB p)\/(name=⟨#[114,102]⟩/\f=rfB p x)\/(name=⟨#[99,111]⟩/\f=coB p x)\/(name=⟨#[102,114]⟩/\f=frB p x)):QM (df p ⟨x.1,x.2⟩ (evs p) name (i:Int) (k:Int)) (· = f i k):=by
 have ei:(evs p).getD i QW=ev p (i:Int):=by unfold ev;simp_all
 have ek:(evs p).getD k QW=ev p (k:Int):=by unfold ev;simp_all
 have hl:=tj hp (n:=(i:Int)) (by omega) (by omega);unfold df J;simp only [tnn,ei,ek];refine .gdD ⟨by omega,by omega⟩ (.gdD ⟨by omega,by omega⟩ (QM.bind (P:=(· = (Q3 ((ev p i).Thread=(ev p k).Thread)&&Q3 (0<=(ev p i).Thread)))) (.bif (λh => .pure ?_) λh => .pure ?_) λsame hs=>?_))
 ·simp_all
 ·simp_all
 subst hs;rcases h with ⟨rfl,rfl⟩ | ⟨rfl,rfl⟩ | ⟨rfl,rfl⟩ | ⟨rfl,rfl⟩
 ·refine QM.sumR ?_;refine .bif (λ_=>QM.bind (P:=(· = poB p i k)) (.bif (λh => .pure ?_) λh => .pure ?_) λv hv => .pure<|by rw [hv]) λh=>absurd h (by decide)
  ·unfold poB;grind
  unfold poB;grind
 ·refine QM.sumR<|.bif (λh=>absurd h<|by decide) λ_ => .bif (λh=>absurd h<|by decide) λ_ => .bif (λh=>absurd h<|by decide) λ_ => .bif (λ_=>?_) λh=>absurd h (by decide);refine QM.bind (P:=(· = rfB p x i k)) (.bif (λh => .gdD ⟨by omega,by rw [hx.f];omega⟩<|.pure ?_) λh => .pure ?_) λv hv => .pure (by rw [hv])
  ·unfold rfB;grind
  unfold rfB;simp_all
 ·refine QM.sumR<|.bif (λh=>absurd h<|by decide) λ_ => .bif (λh=>absurd h<|by decide) λ_ => .bif (λh=>absurd h<|by decide) λ_ => .bif (λh=>absurd h<|by decide) λ_ => .bif (λ_=>?_) λh=>absurd h (by decide);refine QM.bind (P:=(· = ((ev p i).aH&&(ev p k).aH))) (.bif (λh => .pure<|by simp_all) λh => .pure<|by simp_all) λv1 h1=>?_;refine QM.bind (P:=(· = (((ev p i).aH&&(ev p k).aH)&&Q3 ((ev p i).Loc=(ev p k).Loc)))) (.bif (λh => .pure<|by grind) λh => .pure<|by simp_all) λv2 h2=>?_;refine QM.bind (P:=(· = coB p x i k)) (.bif (λh=>(Dq hx hl _ _).bind λv hv => .pure<|by unfold coB;simp_all) λh => .pure<|by unfold coB;simp_all) λv hv => .pure (by rw [hv])
 refine QM.sumR<|.bif (λh=>absurd h<|by decide) λ_ => .bif (λh=>absurd h<|by decide) λ_ => .bif (λh=>absurd h<|by decide) λ_ => .bif (λh=>absurd h<|by decide) λ_ => .bif (λh=>absurd h<|by decide) λ_ => .bif (λ_=>?_) λh=>absurd h (by decide);refine QM.bind (P:=(· = frB p x i k)) (.bif (λh1 => .bif (λh2 => .bif (λh3 => .bif (λh4 => .gdD ⟨by omega,by rw [hx.f];omega⟩<|(Dq hx hl _ _).bind λv hv => .pure ?_) λh4 => .pure ?_) λh3 => .pure ?_) λh2 => .pure ?_) λh1 => .pure ?_) λv hv => .pure (by rw [hv])
 ·have h4 : ¬ (i:Int)=(k:Int):=by simpa using h4
  unfold frB
  simp_all
 ·have h4:(i:Int)=(k:Int):=by simpa using h4
  unfold frB
  simp_all
 ·unfold frB
  simp_all
 ·unfold frB;simp_all
 unfold frB;simp_all
def D7 (p:List<|List QH) (f:Int->Int->Bool) (n:Nat):LI:=(TV n).map λ(i:Nat)=>((QN (λk=>f (i:Int) k) (evs p).length:Nat):Int)
theorem Ic (f:Int->Int->Bool) (n:Nat):D7 p f (n+1)=D7 p f n++[((QN (λk=>f n k) (evs p).length:Nat):Int)]:=by
 unfold D7;rw [Ue,Ug]
 rfl
theorem Jr (f:Int->Int->Bool) (n:Nat):(D7 p f n).length=n:=by simp [D7]
theorem xj (hp:PV p) (l:Int):QM (bR (evs p) l) (· = ((TV (evs p).length).map λ(i:Nat)=>(i:Int)).filter (Wl p l)):=by
 have hel:=jT hp.vs;unfold bR;refine QM.bind (P:=(· = ((TV (evs p).length).map λ(i:Nat)=>(i:Int)).filter (Wl p l))) ?_ λv hv => .pure hv;refine QM.loop (λz=>∃ n:Nat,n<=(evs p).length/\z=(((TV n).map λ(i:Nat)=>(i:Int)).filter<|Wl p l,(n:Int))) (λz=>(((evs p).length:Int)-z.2).toNat) ⟨0,by omega,rfl⟩ λz ⟨n,h1,h2⟩ => ?_;subst h2;unfold qm J;have en:(evs p).getD n QW=ev p (n:Int):=by unfold ev;rw [tnn]
 simp only [tnn,en];refine .bifD (λhk=>?_) λhk => .pure ?_
 ·have hsl:(((TV n).map λ(i:Nat)=>(i:Int)).filter<|Wl p l).length<=n:=TW (Ut _ _) (by simp);have hst:((TV<|n+1).map λ(i:Nat)=>(i:Int)).filter (Wl p l)=((TV n).map λ(i:Nat)=>(i:Int)).filter (Wl p l)++if Wl p l (n:Int) then [(n:Int)] else []:=by
   rw [Ue,Ug,Uf]
   congr 1
   by_cases h:Wl p l (n:Int)=QX
   ·rw [if_pos h];simp [h]
   rw [if_neg h];simp [h]
  refine QM.bind (P:=(· = ((TV<|n+1).map λ(i:Nat)=>(i:Int)).filter (Wl p l))) (.gdD ⟨by omega,hk⟩ (QM.bind (P:=(· = Wl p l (n:Int))) (.bif (λh => .pure ?_) λh => .pure ?_) λb hb => .bif (λh => .gd (aU (by omega) rfl)<|.pure ?_) λh => .pure ?_)) λv hv => .gdI (by omega)<|.pure ⟨⟨n+1,by omega,by rw [hv];rfl⟩,by simp only [];omega⟩
  ·unfold Wl;rw [h,Uu];exact KC _ _
  ·unfold Wl;rw [h];rfl
  ·rw [hst,<- hb,h];rfl
  rw [hst,<- hb,h];simp
 grind
theorem Qc (hp:PV p) (R:Cand p x F):XOk p x:=by
 refine ⟨R.flen,R.olen,λi=>?_⟩;rcases Uq i 3 with hi | hi
 ·have O:=R.ods (i:Int) (by omega);have h2:=jT hp.vs;have := List.Nodup.length_le_of_subset (l₂:=(TV (evs p).length).map λ(i:Nat)=>(i:Int)) O.nd λn hn=>by
   obtain ⟨a,b⟩:=(R.mem n).1 ((O.mem n).1 hn).1;exact Uc.2 ⟨n.toNat,Ua.2 (by omega),by omega⟩
  rw [llm,Ud] at this;have e:x.2.getD i QW=od x (i:Int):=by unfold od;rw [tnn,KZ]
  grind
 rw [gdq,gen (by rw [R.olen];exact hi)];exact T9 _
end
section
variable {p:List (List QH)} {x:XS} {F:LI}
def QO (p:List<|List QH) (l:Int):LI:=((TV (evs p).length).map λ(i:Nat)=>(i:Int)).filter<|Wl p l
theorem uf (n:Int):n∈(TV (evs p).length).map (λ(i:Nat)=>(i:Int))↔0<=n/\n<((evs p).length:Int):=by
 rw [Uc]
 constructor
 ·grind
 rintro ⟨h1,h2⟩;exact ⟨n.toNat,Ua.2 (by omega),by omega⟩
theorem Oq:((TV (evs p).length).map λ(i:Nat)=>(i:Int)).Nodup:=List.pairwise_map.2<|List.nodup_range.imp λh e=>h (by omega)
theorem Bl {l:Nat} (hl:l<3):∃ t,QO p (l:Int)=(l:Int)::t:=by
 have h3:3<=(evs p).length:=(F3 p<|T9 p.length).length_le;refine ⟨((UG 3<|(evs p).length-3).map λ(i:Nat)=>(i:Int)).filter<|Wl p (l:Int),?_⟩;have e:TV (evs p).length=[0,1,2]++UG 3 ((evs p).length-3):=by
  rw [List.range_eq_range',show [0,1,2]=UG 0 3 from rfl];have := List.range'_append (s:=0) (m:=3) (n:=(evs p).length-3) (step:=1);rw [show 3+((evs p).length-3)=(evs p).length by omega] at this;exact this.symm
 unfold QO;rw [e,Ug,Uf];have := W3 (p:=p) l hl
 simp_all
theorem StA.adv {a:Nat->Nat} {t:Nat} (h:StA p a) (hk:a t<(p.getD t QW).length):StA p (Go.Proofs.YtabfkkjdfhbngaaGreatDoor.adv a t):=λu hu=>by
 unfold Go.Proofs.YtabfkkjdfhbngaaGreatDoor.adv
 by_cases e:u=t
 ·grind
 rw [if_neg e];exact h u hu
end
section
variable {p:List (List QH)} {x:XS} {F:LI}
theorem EW {α:Type} (P:α->Bool) (d:α) (L:List α):((TV L.length).filter λi=>P<|L.getD i d).length=(L.filter P).length:=by
 induction L using D6 with
 | h0=>rfl
 | hs L b ih=>
  rw [lla,UR,Ue,Uf,lla,Uf,lla];have e1:(TV L.length).filter (λi=>P<|(L++[b]).getD i d)=(TV L.length).filter λi=>P (L.getD i d):=List.filter_congr λi hi=>by
   rw [gdq,gdq,gal (Ua.1 hi)]
  grind
def aP (pc:Z3i) (t:Nat):Nat:=if t<3 then (Z3i.get pc (t:Int)).toNat else 0
end
def LeO {α:Type} (x y:Option α):Prop:=∀ r,x=QZ r->y=QZ r
section
variable {α β S E:Type}
theorem LeO.refl (x:Option α):LeO x x:=λ_ h=>h
theorem LeO.bind {x y:Option α} {f g:α->Option β} (h:LeO x y) (k:∀ v,LeO (f v)<|g v):LeO (x.bind f) (y.bind g):=λr hr=>by
 obtain ⟨v,e,hv⟩:=qg hr;rw [h v e];exact k v r hv
theorem LeO.gd {b:Bool} {x y:Option α} (h:LeO x y):LeO (Go.Proofs.YtabfkkjdfhbngaaGreatDoor.gd b x) (Go.Proofs.YtabfkkjdfhbngaaGreatDoor.gd b y):=by
 cases b
 ·exact λ_ h=>h
 exact h
theorem LeO.sumK {x y:Option (S ⊕ E)} {f g:S->Option E} (h:LeO x y) (k:∀ v,LeO (f v)<|g v):LeO (Go.Proofs.YtabfkkjdfhbngaaGreatDoor.sumK x f) (Go.Proofs.YtabfkkjdfhbngaaGreatDoor.sumK y g):=λr hr=>by
 cases hx:x with
 | none=>rw [hx] at hr;cases hr
 | some v=>
  rw [hx] at hr;rw [h v hx]
  cases v with
  | inl s=>exact k s r hr
  | inr w=>exact hr
end
section
variable {p:List (List QH)} {x:XS} {F:LI}
abbrev Key:=Int×Int×Int
def aK (k:Key):Nat->Nat:=aP ⟨k.1,k.2.1,k.2.2⟩
def Js (p:List<|List QH) (x:XS) (F:LI) (l:List<|Key×Bool):Prop:=∀ e∈l,Dead p x F<|aK e.1
theorem Js.get {l:List (Key×Bool)} (h:Js p x F l) {k:Key} (hk:((Iy l k).getD QY)=QX):Dead p x F (aK k):=by
 unfold Iy at hk
 cases hm:IY l k with
 | none=>rw [hm] at hk;cases hk
 | some j=>
  obtain ⟨hj,v,hv⟩:=FK hm;exact h (k,v)<|List.mem_of_getElem? hv
theorem Js.put {l:List (Key×Bool)} (h:Js p x F l) {k:Key} (hk:Dead p x F<|aK k):Js p x F (P9 l k QX):=λe he=>by
 unfold P9 at he
 cases hm:IY l k with
 | none=>
  rw [hm] at he;rcases List.mem_append.1 he with he | he
  ·exact h e he
  rw [UD] at he;subst he;exact hk
 | some j=>
  rw [hm] at he;rcases List.mem_or_eq_of_mem_set he with he | he
  ·exact h e he
  subst he;exact hk
end

section
variable {p:List (List QH)} {x:XS} {F:LI}
theorem Gr.congr {F':LI} (hF:∀ n:Int,n∈F↔n∈F') {a:Nat->Nat} {r:LI} (h:Gr p x F a r):Gr p x F' a r:=by
 have key:∀ {a:Nat->Nat} {t:Nat},EU p x F a t↔EU p x F' a t:=λ{a t}=>by
  unfold EU LN;refine ⟨λh=>⟨h.1,h.2.1,λn hn i hi hb=>h.2.2 n hn i ((hF i).2 hi) hb⟩,λh=>⟨h.1,h.2.1,λn hn i hi hb=>h.2.2 n hn i ((hF i).1 hi) hb⟩⟩
 induction h with
 | nil h=>exact .nil h
 | cons h hl _ ih=>exact .cons (key.1 h) (λu hu hr=>hl u hu<|key.2 hr) ih
end

section
variable {α β:Type}
theorem rE {step:List α×Int->Option ((List α×Int) ⊕ List α)} (n:Nat) (a:List α) (h:Nat->List α) (hs:∀ k,k<n->QM (step (a++(TV k).flatMap h,(k:Int))) (· = .inl (a++(TV<|k+1).flatMap h,((k+1:Nat):Int))))
  (he:QM (step (a++(TV n).flatMap h,(n:Int))) (· = .inr (a++(TV n).flatMap h))):QM (aB step (a,(0:Int))) (· = a++(TV n).flatMap h):=by
 refine QM.loop (λs=>∃ k:Nat,k<=n/\s=(a++(TV k).flatMap h,(k:Int))) (λs=>((n:Int)-s.2).toNat) ⟨0,T9 _,by simp⟩ λs ⟨k,hk,e⟩ => ?_;subst e
 by_cases hlt:k<n
 ·refine (hs k hlt).mono λv hv=>?_;subst hv;exact ⟨⟨k+1,hlt,rfl⟩,by simp only [];omega⟩
 grind
theorem fZ (h:Nat->List α) (k:Nat):(TV<|k+1).flatMap h=(TV k).flatMap h++h k:=by
 rw [Ue,UT];simp
theorem Ce (h:Nat->List α) {k n:Nat} (hk:k<=n):((TV k).flatMap h).length<=((TV n).flatMap h).length:=by
 induction hk with
 | refl=>omega
 | step _ ih=>rw [fZ,lla];omega
theorem Ie {l:List α} {f g:α->List β} (h:∀ a∈l,f a=g a):l.flatMap f=l.flatMap g:=by
 induction l with
 | nil=>rfl
 | cons a l ih=>
  simp_all
theorem lu [Inhabited α] (l:List α) (f:α->List β):(TV l.length).flatMap (λk=>f<|l.getD k QW)=l.flatMap f:=by
 induction l using D6 with
 | h0=>rfl
 | hs l a ih=>
  have e:(l++[a]).getD l.length QW=a:=by rw [gdq,gar (Uv _)];simp
  rw [lla,UR,fZ,e,UT,<- ih]
  congr 1
  ·refine Ie λk hk=>?_
   grind
  simp
theorem Bm (l:List α) (f:α->β):l.flatMap (λa=>[f a])=l.map f:=by
 induction l with
 | nil=>rfl
 | cons a l ih=>simp_all
theorem nU {l:List α} {f:α->List β} {m:Nat} (h:∀ a∈l,(f a).length=m):(l.flatMap f).length=l.length*m:=by
 induction l with
 | nil=>simp
 | cons a l ih=>
  grind
def xk:List (List α)->List (List α)
 | []=>[[]]
 | c::cs=>c.flatMap λy=>(xk cs).map (y :: ·)
theorem rF:∀ {cs:List (List α)} {x:List α},x∈xk cs↔x.length=cs.length/\∀ (i:Nat) (h:i<cs.length),∃ y∈cs[i],x[i]? = QZ y
 | [],x=>by
  show x∈[[]]↔_;rw [UD]
  constructor
  ·rintro rfl;exact ⟨rfl,λi h=>by simp at h⟩
  rintro ⟨h,_⟩;exact UU h
 | c::cs,x=>by
  show x∈c.flatMap (λy=>(xk cs).map (y :: ·))↔_;simp only [UH,Uc]
  constructor
  ·rintro ⟨y,hy,z,hz,rfl⟩;obtain ⟨h1,h2⟩:=rF.1 hz;refine ⟨by simp [h1],λi hi=>?_⟩
   match i with
   | 0=>exact ⟨y,hy,rfl⟩
   | i+1=>exact h2 i (by simpa using hi)
  rintro ⟨h1,h2⟩
  match x,h1 with
  | y::z,h1=>
   obtain ⟨y',hy',e⟩:=h2 0 (by simp);obtain rfl:y=y':=by simpa using e
   exact ⟨y,hy',z,rF.2 ⟨by simpa using h1,λi hi=>h2 (i+1)<|by simpa using hi⟩,rfl⟩
def nV (l:List Nat):Nat:=l.foldr (· * ·) 1
theorem ug:∀ cs:List (List α),(xk cs).length=nV (cs.map List.length)
 | []=>rfl
 | c::cs=>by
  show (c.flatMap λy=>(xk cs).map (y :: ·)).length=c.length*nV (cs.map List.length);rw [<- ug cs];exact nU λy _=>llm _
theorem z7 (l k:List Nat):nV (l++k)=nV l*nV k:=by
 induction l with
 | nil=>show nV k=1*_;omega
 | cons a l ih=>
  show a*nV (l++k)=a*nV l*nV k
  grind
theorem Dr {l k:List Nat} (hl:l.length=k.length) (h:∀ i:Nat,i<l.length->l.getD i 0<=k.getD i 0):nV l<=nV k:=by
 induction l generalizing k with
 | nil=>
  grind
 | cons a l ih=>
  match k,hl with
  | b::k,hl=>
   refine UI ?_<|ih (by grind) λi hi=>?_
   ·have := h 0 (by simp)
    grind
   have := h (i+1) (by simpa using hi)
   simp_all
theorem ym {l:List Nat} (h:∀ a∈l,1<=a):1<=nV l:=by
 induction l with
 | nil=>exact Uv _
 | cons a l ih=>exact Uw (h a Uh) (ih λb hb=>h b<|UJ _ hb)
theorem Dt {l:List Nat} (h:∀ a∈l,1<=a) (k:Nat):nV (l.take k)<=nV l:=by
 have e:=z7 (l.take k)<|l.drop k;rw [UF] at e;have := ym (l:=l.drop k) λa ha=>h a<|List.mem_of_mem_drop ha;rw [e];exact Um _ this
theorem Du {l:List Nat} (h:∀ a∈l,1<=a) (k:Nat):nV (l.drop k)<=nV l:=by
 have e:=z7 (l.take k)<|l.drop k;rw [UF] at e;have := ym (l:=l.take k) λa ha=>h a<|List.mem_of_mem_take ha;rw [e];exact Un _ this
end
theorem Ig {α:Type} [Inhabited α] {l:List α} {k:Nat} (h:k<l.length):l.take (k+1)=l.take k++[l.getD k QW]:=by
 simp_all
theorem MO {n m:Nat} (hn:n<=1000000000) (hm:Nat.ble m 1000=QX):bq n m=QX:=by
 have h1:=nlb hm;have h2:n*m<=1000000000*1000:=UI hn h1;exact decide_eq_true ⟨by omega,by omega⟩
def prm:Nat->LI->LL
 | 0,_=>[[]]
 | n+1,l=>(TV l.length).flatMap λi=>(prm n<|l.take i++l.drop (i+1)).map (l.getD i QW :: ·)
theorem Cf:∀ (n:Nat) (l:LI),l.length=n->(prm n l).length=QL n
 | 0,_,_=>rfl
 | n+1,l,h=>by
  show ((TV l.length).flatMap λi=>(prm n<|l.take i++l.drop (i+1)).map (l.getD i QW :: ·)).length=QL n*(n+1);rw [nU (m:=QL n) λi hi=>?_,Ud,h,Nat.mul_comm];have := Ua.1 hi;rw [llm,Cf n _ (by grind)]
theorem G5 {l:LI} {i:Nat} (h:i<l.length):(l.getD i QW::(l.take i++l.drop (i+1))).Perm l:=by
 have e:l=l.take i++(l.getD i QW::l.drop (i+1)):=by
  rw [gdq,geq h];simp
 grind
theorem zf:∀ {n:Nat} {l:LI},l.length=n->∀ {o:LI},o∈prm n l↔o.Perm l
 | 0,l,h,o=>by
  obtain rfl:=UU h;show o∈[[]]↔_
  simp_all
 | n+1,l,h,o=>by
  show o∈(TV l.length).flatMap (λi=>(prm n<|l.take i++l.drop (i+1)).map (l.getD i QW :: ·))↔_;simp only [UH,Uc,Ua]
  constructor
  ·rintro ⟨i,hi,r,hr,rfl⟩;have := (zf<|by grind).1 hr;exact (this.cons _).trans<|G5 hi
  intro hp
  match o,hp.length_eq with
  | [],e=>simp_all
  | a::r,e=>
   have ha:a∈l:=hp.mem_iff.1 Uh;have hi:=Us ha;have hg:l.getD (l.idxOf a) QW=a:=by
    rw [gdq,geq hi];exact List.getElem_idxOf hi
   refine ⟨l.idxOf a,hi,r,(zf<|by grind).2 ?_,by rw [hg]⟩;have h2:=G5 hi;rw [hg] at h2;exact (hp.trans h2.symm).cons_inv
theorem G6 {a b:Nat} (h:a<=b):QL a<=QL b:=by
 induction h with
 | refl=>omega
 | step _ ih=>exact TW ih (Um _<|by omega)
theorem Ih {n:Nat} {l:LI} (hl:l.length=n+1) (hn:n+1<=12) {acc:Nat} (hacc:acc<l.length) {step:LL×Int->Option ((LL×Int) ⊕ LL)} {r:LL} (hr:r=prm n (l.take acc++l.drop (acc+1)))
  (hs:∀ s,step s=bif Q3 (s.2<(r.length:Int)) then
   gd (Q3<|0<=s.2/\s.2<(r.length:Int)) <|
   gd (bq (([l.getD acc QW]:LI).length+(r.getD s.2.toNat QW).length) 8) <|
   gd (bq (s.1.length+1) 24) <|
   gd (QF .i64<|s.2+(1:Int)) <|
   QZ (.inl ((s.1++[(([l.getD acc QW]:LI)++(r.getD s.2.toNat QW))]),(s.2+(1:Int)))) else QZ (.inr s.1)) :
  QM (aB step ((TV acc).flatMap (λi=>(prm n<|l.take i++l.drop (i+1)).map (l.getD i QW :: ·)),(0:Int))) (· = (TV<|acc+1).flatMap (λi=>(prm n<|l.take i++l.drop (i+1)).map (l.getD i QW :: ·))):=by
 have hrl:r.length=QL n:=by rw [hr];exact Cf n _ (by grind)
 have hf:QL n<=QL 11:=G6 (by omega);have h11:QL 11=39916800:=by decide
 have hrow:∀ k,(r.getD k QW).length<=12:=λk=>by
  by_cases hk:k<r.length
  ·have hm:r.getD k QW∈r:=by rw [gdq,geq hk];exact List.getElem_mem _
   have hll:(l.take acc++l.drop (acc+1)).length=n:=by rw [lla,Ul,Ux];omega
   have := ((zf hll).1<|show r.getD k QW∈prm n (l.take acc++l.drop (acc+1)) by rw [<- hr];exact hm).length_eq;omega
  rw [gdq,gen (by omega)];exact T9 _
 have hpre:((TV acc).flatMap (λi=>(prm n<|l.take i++l.drop (i+1)).map (l.getD i QW :: ·))).length<=12*39916800:=by
  have e:=nU (l:=TV acc) (f:=λi=>(prm n<|l.take i++l.drop (i+1)).map (l.getD i QW :: ·)) (m:=QL n) λi hi=>by
   have := Ua.1 hi;rw [llm,Cf n _ (by grind)]
  rw [e,Ud];exact UI (by omega) (by omega)
 refine (rE r.length _ (λk=>[l.getD acc QW::r.getD k QW]) (λk hk=>?_) ?_).mono λv hv=>?_
 ·rw [hs];have hkl:((TV k).flatMap λk=>[l.getD acc QW::r.getD k QW]).length=k*1:=by rw [nU (m:=1) λ_ _=>rfl,Ud]
  refine .bifD (λ_ => .gdD ⟨by omega,by omega⟩<|.gd (aU (by grind) rfl)<|.gd (MO (by grind) rfl)<|.gdI (by omega)<|.pure ?_) λh=>absurd (show (k:Int)<(r.length:Int) by omega) h;simp only [tnn,fZ,Uy]
  rfl
 ·rw [hs];exact .bifD (λh=>absurd h<|by omega) λ_ => .pure rfl
 rw [hv,fZ,lu r λx=>[l.getD acc QW::x],Bm,<- hr]
theorem EY:∀ (n:Nat) (l:LI),l.length=n->n<=12->∀ m,n<m->QM (ij m l) (· = prm n l)
 | _,_,_,_,0,h=>by omega
 | 0,l,hl,hn,m+1,_=>by
  show QM (dU _ l) _;unfold dU;exact .bif (λ_ => .pure rfl) λh=>by simp_all
 | n+1,l,hl,hn,m+1,hm=>by
  show QM (dU _ l) _;unfold dU;refine .bif (λh=>by grind) λ_=>QM.bind (P:=(· = prm (n+1) l)) ?_ λv hv => .pure hv;refine (rE l.length [] (λi=>(prm n<|l.take i++l.drop (i+1)).map (l.getD i QW :: ·)) (λk hk=>?_) ?_).mono λv hv=>?_
  ·unfold mY;simp only [Ui,tnn];refine .bifD (λ_=>?_) λh=>absurd (show (k:Int)<(l.length:Int) by omega) h;refine QM.bind (P:=(· = (TV<|k+1).flatMap λi=>(prm n<|l.take i++l.drop (i+1)).map (l.getD i QW :: ·))) ?_ λv hv => .gdI (by omega)<|.pure (by simp_all);have e1:((l.drop (0:Int).toNat).take<|k-(0:Int).toNat)=l.take k:=by simp
   have e2:((l.drop ((k:Int)+1).toNat).take<|l.length-((k:Int)+1).toNat)=l.drop (k+1):=by
    rw [show ((k:Int)+1).toNat=k+1 by omega];exact Uz (by simp_all)
   rw [e1,e2];have g1:(l.take k).length<=12:=by rw [Ul];omega
   have g2:(l.drop<|k+1).length<=12:=by rw [Ux];omega
   refine .gdD ⟨by omega,by omega,by omega⟩<|.gd (aU (by grind) rfl)<|.gdI (by omega)<|.gdD ⟨by omega,by omega,by omega⟩<|.gd (aU (by omega) rfl) ?_;refine (EY n _ (by grind) (by omega) m<|by omega).bind λv25 h25=>?_;refine Ih hl hn hk h25 λs=>?_;unfold rC J;simp only [tnn];rw [tV (decide_eq_true<|show 0<=(k:Int)/\(k:Int)<(l.length:Int) by omega)]
  ·unfold mY;exact .bifD (λh=>absurd h<|by omega) λ_ => .pure rfl
  rw [hv]
  rfl
theorem pQ {α:Type} {f:Nat->Option α} {v:α} (n:Nat) (h:∀ m,n<m->QM (f m) (· = v)):QM (DU f) (· = v):=QM.of (vp (n+1) λm hm=>(h m hm).eq) rfl
theorem Ot (l:LI) (h:l.length<=12):QM (rT l) (· = prm l.length l):=pQ l.length λm hm=>EY l.length l rfl h m hm
section
variable {p:List (List QH)}
def chE (p:List<|List QH) (i:Nat):LI:=if (ev p (i:Int)).Reads=QX then (QO p (ev p (i:Int)).Loc).filter (λn => !decide (n=(i:Int))) else [-1]
def chF (p:List<|List QH):LL:=(TV (evs p).length).map<|chE p
def chL (p:List<|List QH) (l:Nat):LL:=(prm (QO p (l:Int)).tail.length (QO p (l:Int)).tail).map ((l:Int) :: ·)
def chO (p:List<|List QH):List (LL):=[chL p 0,chL p 1,chL p 2]
def Cg (p:List<|List QH):List QI:=(xk<|chF p).flatMap λf=>(xk<|chO p).map λo=>⟨f,o⟩
abbrev QP (p:List<|List QH):List (List Ins):=p.map λr=>r.map iQ
theorem EZ (q:QJ->Bool) (f:Ins->Bool) (h:∀ t k x,x.Op≠4->q ⟨t,k,x.Loc,rdX x,wrX x⟩=f (iQ x)) (h4:∀ x:QH,x.Op=4->f (iQ x)=QY) (t:Nat) (row:List QH):∀ r:Nat,r<=row.length->((evR t row r).filter q).length=((row.take r).map iQ).countP f
 | 0,_=>by simp [evR]
 | r+1,hr=>by
  have ih:=EZ q f h h4 t row r (by omega);have e:row.getD r QW=row[r]:=by rw [gdq,geq (by omega)];rfl
  rw [evR,Uf,lla,ih,<- List.take_append_getElem (show r<row.length by omega),Ug,List.countP_append,e]
  congr 1
  unfold evX
  grind
theorem Ch (q:QJ->Bool) (f:Ins->Bool) (h:∀ (t k:Int) x,x.Op≠4->q ⟨t,k,x.Loc,rdX x,wrX x⟩=f (iQ x)) (h4:∀ x:QH,x.Op=4->f (iQ x)=QY):((evs p).filter q).length=(ev0.filter q).length+ub f (QP p):=by
 have key:∀ n:Nat,n<=p.length->((evP p n).filter q).length=(ev0.filter q).length+ub f ((QP p).take n):=λn=>by
  induction n with
  | zero=>intro _;simp [evP,ub]
  | succ n ih=>
   intro hn;have e:p.getD n QW=p[n]:=by rw [gdq,geq (by omega)];rfl
   have hn':n<(QP p).length:=by rw [llm];omega
   rw [evP,Uf,lla,ih (by omega),EZ q f (λt k=>h t k) h4 n _ _ (Uv _),eY f (QP p) n hn',UA,Nat.add_assoc,e]
   simp_all
 have := key p.length<|Uv _;rw [show (QP p).take p.length=QP p from Uz (by simp)] at this;exact this
theorem F4 {l:Nat} (hl:l<3):(QO p (l:Int)).length=cw (QP p) (l:Int)+1:=by
 have h1:(QO p (l:Int)).length=((evs p).filter λe=>e.aH&&Q3 (e.Loc=(l:Int))).length:=by
  rw [<- EW (λe:QJ=>e.aH&&Q3 (e.Loc=(l:Int))) QW (evs p)];unfold QO;rw [List.filter_map,llm]
  congr 2
 rw [h1,Ch _ (bu (l:Int) wrB) (λt k x ho=>?_) (λx ho=>?_)]
 ·have : (ev0.filter λe=>e.aH&&Q3 (e.Loc=(l:Int))).length=1:=by
   match l,hl with
   | 0,_=>rfl
   | 1,_=>rfl
   | 2,_=>rfl
  rw [this];unfold cw;omega
 ·unfold bu iQ wrB wrO wrX
  grind
 unfold bu iQ wrB wrO
 grind
theorem F5 {l:Nat} (hl:l<3):((evs p).filter λe=>e.Reads&&Q3 (e.Loc=(l:Int))).length=cr (QP p) (l:Int):=by
 rw [Ch _ (bu (l:Int) rdB) (λt k x ho=>?_) (λx ho=>?_)]
 ·have : (ev0.filter λe=>e.Reads&&Q3 (e.Loc=(l:Int))).length=0:=by
   match l,hl with
   | 0,_=>rfl
   | 1,_=>rfl
   | 2,_=>rfl
  rw [this];unfold cr;omega
 ·unfold bu iQ rdB rdO rdX
  grind
 unfold bu iQ rdB rdO
 grind
def gE (w:Nat->Nat) (e:QJ):Nat:=if e.Reads=QX then w e.Loc.toNat+1 else 1
theorem MP (w:Nat->Nat) (L:List QJ) (h:∀ e∈L,e.Reads=QX->0<=e.Loc/\e.Loc<=2):nV (L.map<|gE w)=(w 0+1) ^ (L.filter λe=>e.Reads&&Q3 (e.Loc=((0:Nat):Int))).length*(w 1+1) ^ (L.filter λe=>e.Reads&&Q3 (e.Loc=((1:Nat):Int))).length*(w 2+1) ^ (L.filter λe=>e.Reads&&Q3 (e.Loc=((2:Nat):Int))).length:=by
 induction L with
 | nil=>rfl
 | cons e L ih=>
  have ih:=ih λa ha=>h a<|UJ _ ha;show gE w e*nV (L.map<|gE w)=_;rw [ih];unfold gE
  by_cases hr:e.Reads=QX
  ·obtain ⟨h0,h2⟩:=h e Uh hr;have hc:e.Loc=0\/e.Loc=1\/e.Loc=2:=by omega
   rcases hc with hc | hc | hc <;> simp [hr,hc,Nat.pow_succ] <;> ac_rfl
  simp_all
theorem MQ (hp:PV p) {e:QJ} (h:e∈evs p):0<=e.Loc/\e.Loc<=2:=by
 obtain ⟨i,hi,rfl⟩:=UV h;have := tj hp (n:=(i:Int)) (by omega) (by omega);unfold ev at this
 simp_all
theorem MR (hp:PV p) {i:Nat} (hi:i<(evs p).length):(chE p i).length<=gE (λl=>cw (QP p) (l:Int)) ((evs p).getD i QW):=by
 have he:(evs p).getD i QW=ev p (i:Int):=by unfold ev;rw [tnn]
 have hl:=tj hp (n:=(i:Int)) (by omega) (by omega);rw [he];unfold chE gE
 split
 ·have := F4 (p:=p) (l:=(ev p (i:Int)).Loc.toNat) (by omega);rw [TZ hl.1] at this;have h2:=Ut (λn => !decide (n=(i:Int)))<|QO p (ev p (i:Int)).Loc;simp only [TZ hl.1];omega
 simp_all
theorem vC {l:Nat} (hl:l<3):(chL p l).length=QL (cw (QP p) (l:Int)):=by
 unfold chL;rw [llm,Cf _ _ rfl,List.length_tail,F4 hl,Nat.add_sub_cancel]
theorem K5 (hv:bf (QP p)=QX):nV ((evs p).map<|gE λl=>cw (QP p) (l:Int))*(QL (cw (QP p) 0)*QL (cw (QP p) 1)*QL (cw (QP p) 2))<=3000:=by
 have hp:=PV.of hv;simp only [bf,bae,dte] at hv;have h3:=hv.2;rw [MP _ _ λe he _=>MQ hp he,F5 (by omega),F5 (by omega),F5 (by omega)];refine TW (Nat.le_of_eq ?_) h3;show _=1*Oi (QP p) 0*Oi (QP p) 1*Oi (QP p) 2;unfold Oi
 grind
structure Few (p:List (List QH)):Prop where
 f:∀ k,(xk<|(chF p).take k).length<=3000/\(xk<|(chF p).drop k).length<=3000
 o:∀ k,(xk<|(chO p).take k).length<=3000/\(xk<|(chO p).drop k).length<=3000
 all:(xk<|chF p).length*(xk<|chO p).length<=3000
 w:∀ l:Nat,l<3->(QO p (l:Int)).length<=8/\(chL p l).length<=3000
theorem few (hv:bf (QP p)=QX):Few p:=by
 have hp:=PV.of hv;have hE:=K5 hv;have hgs:∀ a∈(evs p).map (gE λl=>cw (QP p) (l:Int)),1<=a:=λa ha=>by
  obtain ⟨e,_,rfl⟩:=Uc.1 ha;unfold gE
  grind
 have f0:=DY<|cw (QP p) 0;have f1:=DY<|cw (QP p) 1;have f2:=DY<|cw (QP p) 2;have g0:=ym hgs;have hfs:∀ a∈(chO p).map List.length,1<=a:=λa ha=>by
  simp only [chO,List.map_cons,List.map_nil,UB,List.not_mem_nil,or_false] at ha;rcases ha with rfl | rfl | rfl
  ·rw [vC (by omega)];omega
  ·rw [vC (by omega)];omega
  rw [vC (by omega)];omega
 have hO:nV ((chO p).map List.length)=QL (cw (QP p) 0)*QL (cw (QP p) 1)*QL (cw (QP p) 2):=by
  show (chL p 0).length*((chL p 1).length*((chL p 2).length*1))=_;rw [vC (by omega),vC (by omega),vC (by omega),Nat.mul_one,Nat.mul_assoc]
  rfl
 have hOpos:=ym hfs;have hA:nV ((evs p).map<|gE λl=>cw (QP p) (l:Int))<=3000:=TW (Um _<|by omega) hE;have hB:nV ((chO p).map List.length)<=3000:=by rw [hO];exact TW (Un _ g0) hE
 have hmono:∀ k,nV (((chF p).map List.length).take k)<=nV (((evs p).map<|gE λl=>cw (QP p) (l:Int)).take k)/\nV (((chF p).map List.length).drop k)<=nV (((evs p).map<|gE λl=>cw (QP p) (l:Int)).drop k):=λk=>by
  have hlen:(chF p).length=(evs p).length:=by simp [chF]
  have hget:∀ i:Nat,i<(evs p).length->((chF p).map List.length).getD i 0<=((evs p).map<|gE λl=>cw (QP p) (l:Int)).getD i 0:=λi hi=>by
   have := MR hp hi;rw [gdq,geq hi] at this;rw [gdq,gdq,List.getElem?_map,List.getElem?_map,geq hi];unfold chF
   simp_all
  constructor
  ·refine Dr (by simp [hlen]) λi hi=>?_
   grind
  refine Dr (by simp [hlen]) λi hi=>?_
  grind
 refine ⟨λk=>⟨?_,?_⟩,λk=>⟨?_,?_⟩,?_,λl hl=>?_⟩
 ·rw [ug,List.map_take];exact TW (hmono k).1<|TW (Dt hgs k) hA
 ·rw [ug,List.map_drop];exact TW (hmono k).2<|TW (Du hgs k) hA
 ·rw [ug,List.map_take];exact TW (Dt hfs k) hB
 ·rw [ug,List.map_drop];exact TW (Du hfs k) hB
 ·rw [ug,ug,hO];have := (hmono (evs p).length).1;rw [Uz (by simp [chF]),Uz (by simp)] at this;exact TW (Nat.mul_le_mul_right _ this) hE
 have hf:QL (cw (QP p) (l:Int))<=3000:=by
  rw [<- vC hl];have h0:(chL p l).length∈(chO p).map List.length:=by
   match l,hl with
   | 0,_=>simp [chO]
   | 1,_=>simp [chO]
   | 2,_=>simp [chO]
  refine TW ?_ hB
  match l,hl with
  | 0,_=>exact Um _ (Uw (hfs _<|by simp [chO])<|Uw (hfs _<|by simp [chO]) Nat.one_pos)
  | 1,_=>
   refine TW ?_<|Un _<|hfs _ (by simp [chO]);exact Um _<|Uw (hfs _<|by simp [chO]) Nat.one_pos
  | 2,_=>
   refine TW ?_<|Un _<|hfs _ (by simp [chO]);refine TW ?_<|Un _<|hfs _ (by simp [chO])
   simp_all
 refine ⟨?_,by rw [vC hl];exact hf⟩;rw [F4 hl];rcases Uq (cw (QP p) (l:Int)) 7 with h | h
 ·omega
 have := G6 h;have h7:QL 7=5040:=by decide
 omega
end
section
variable {p:List (List QH)}
theorem G7 (hp:PV p) (l:Int):QM (gY (evs p) l) (· = QO p l):=by
 have hel:=jT hp.vs;unfold gY;refine QM.bind (P:=(· = QO p l)) ?_ λv hv => .pure hv;refine QM.loop (λz=>∃ n:Nat,n<=(evs p).length/\z=(((TV n).map λ(i:Nat)=>(i:Int)).filter<|Wl p l,(n:Int))) (λz=>(((evs p).length:Int)-z.2).toNat) ⟨0,by omega,rfl⟩ λz ⟨n,h1,h2⟩ => ?_;subst h2;unfold qi J;have en:(evs p).getD n QW=ev p (n:Int):=by unfold ev;rw [tnn]
 simp only [tnn,en];refine .bifD (λhk=>?_) λhk => .pure ?_
 ·have hsl:(((TV n).map λ(i:Nat)=>(i:Int)).filter<|Wl p l).length<=n:=TW (Ut _ _) (by simp);have hst:((TV<|n+1).map λ(i:Nat)=>(i:Int)).filter (Wl p l)=((TV n).map λ(i:Nat)=>(i:Int)).filter (Wl p l)++if Wl p l (n:Int) then [(n:Int)] else []:=by
   rw [Ue,Ug,Uf]
   congr 1
   by_cases h:Wl p l (n:Int)=QX
   ·rw [if_pos h];simp [h]
   rw [if_neg h];simp [h]
  refine QM.bind (P:=(· = ((TV<|n+1).map λ(i:Nat)=>(i:Int)).filter (Wl p l))) (.gdD ⟨by omega,hk⟩ (QM.bind (P:=(· = Wl p l (n:Int))) (.bif (λh => .pure ?_) λh => .pure ?_) λb hb => .bif (λh => .gd (aU (by omega) rfl)<|.pure ?_) λh => .pure ?_)) λv hv => .gdI (by omega)<|.pure ⟨⟨n+1,by omega,by rw [hv];rfl⟩,by simp only [];omega⟩
  ·unfold Wl;rw [h,Uu];exact KC _ _
  ·unfold Wl;rw [h];rfl
  ·rw [hst,<- hb,h];rfl
  rw [hst,<- hb,h];simp
 have : n=(evs p).length:=by omega
 rw [this]
 rfl
theorem G8 (hp:PV p) (l:Int):QM (bR (evs p) l) (· = QO p l):=xj hp l
def nq (i:Int) (n:Int):Bool := !decide (n=i)
theorem Jt (x:QI) (h1:x.From.length<=100000) (h2:x.Order.length<=100000) (h3:∀ i,(x.Order.getD i QW).length<=100000):QM (lZ x) (· = x):=by
 unfold lZ;refine .gd (aU (by simp only [UK];omega) rfl) (QM.bind (P:=(· = x.Order)) ?_ λs hs => .pure<|by rw [hs];rfl);refine QM.loop (λz=>∃ k:Nat,k<=x.Order.length/\z=(x.Order.take k,(k:Int))) (λz=>((x.Order.length:Int)-z.2).toNat) ⟨0,by omega,by simp⟩ λz ⟨k,g1,g2⟩ => ?_;subst g2;unfold om J;simp only [tnn,Ui];refine .bifD (λhk=>?_) λhk => .pure ?_
 ·have hk':k<x.Order.length:=by omega
  refine .gdD ⟨by omega,hk⟩<|.gd (aU (by have := h3 k;simp only [UK];omega) rfl)<|.gd (aU (by rw [Ul];omega) rfl)<|.gdI (by omega)<|.pure ⟨⟨k+1,by omega,?_⟩,by simp only [];omega⟩;rw [Ig hk']
  rfl
 rw [show k=x.Order.length by omega,UA]
theorem LP (l:Nat) (hl:l<3):∃ t,QO p (l:Int)=(l:Int)::t:=Bl hl
theorem Ju {f:LI} (h:f∈xk (chF p)):f.length=(evs p).length:=by
 rw [(rF.1 h).1];simp [chF]
theorem MS (F:Few p) {o:LL} (h:o∈xk (chO p)):o.length=3/\∀ i,(o.getD i QW).length<=100:=by
 obtain ⟨h1,h2⟩:=rF.1 h;refine ⟨h1,λi=>?_⟩
 by_cases hi:i<3
 ·obtain ⟨y,hy,e⟩:=h2 i hi;rw [gdq,e];have hw:=(F.w i hi).1;have hy':y∈chL p i:=by
   match i,hi with
   | 0,_=>exact hy
   | 1,_=>exact hy
   | 2,_=>exact hy
  unfold chL at hy';obtain ⟨r,hr,rfl⟩:=Uc.1 hy';have := ((zf rfl).1 hr).length_eq;rw [List.length_tail] at this;show ((i:Int)::r).length<=100;rw [llc];omega
 rw [gdq,gen (by rw [h1];exact Nat.le_of_not_lt hi)];exact T9 _
theorem getD_in {α:Type} [Inhabited α] {l:List α} {i:Nat} (h:i<l.length):l.getD i QW∈l:=by
 rw [gdq,geq h];exact List.getElem_mem _
end
section
variable {p:List (List QH)}
theorem F6 {α β:Type} (q:α->Bool) (f:α->List β) (l:List α):(l.filter q).flatMap f=l.flatMap λy=>if q y=QX then f y else []:=by
 induction l with
 | nil=>rfl
 | cons a l ih=>
  grind
theorem Ii (i:Int) (rest:LL) (c:LI) (hc:c.length<=3000) (hr:rest.length<=3000) (hrow:∀ k,(rest.getD k QW).length<=100) (hall:((c.filter<|nq i).flatMap λy=>rest.map (y :: ·)).length<=3000) :
  QM (aB (iN i rest c) (([]:LL),(0:Int))) (· = (c.filter<|nq i).flatMap λy=>rest.map (y :: ·)):=by
 rw [F6] at hall ⊢;rw [<- lu c] at hall ⊢;generalize hg:(λk=>if nq i (c.getD k QW)=QX then rest.map (c.getD k QW :: ·) else [])=g at hall ⊢;have hgk:∀ k,g k=if nq i (c.getD k QW)=QX then rest.map (c.getD k QW :: ·) else []:=λk=>by grind
 refine (rE c.length [] g (λk hk=>?_) ?_).mono λv hv=>by simp_all
 ·have hpre:=TW (Ce g (show k+1<=c.length by omega)) hall;rw [fZ,lla] at hpre;unfold iN;simp only [Ui];refine .bifD (λ_=>?_) λh=>absurd (show (k:Int)<(c.length:Int) by omega) h;refine QM.bind (P:=(· = (TV (k+1)).flatMap g)) ?_ λv hv => .gdI (by omega) (.pure (by simp_all));rw [fZ];have hk1:=hgk k;generalize (TV k).flatMap g=pre at hpre ⊢;generalize g k=gk at hk1 hpre ⊢;subst hk1;have hstep:∀ s:LL×Int,iM i rest c (pre,(k:Int)) s=(Ub (bif Q3 (s.2<(rest.length:Int)) then gd (Q3 (0<=(k:Int)/\(k:Int)<(c.length:Int)))<|QZ ((c.getD k QW) != i) else QZ QY) λs23=>
    bif s23 then
     gd (Q3<|0<=(k:Int)/\(k:Int)<(c.length:Int))<|gd (Q3<|0<=s.2/\s.2<(rest.length:Int))<|gd (bq (([(c.getD k QW)]:LI).length+(rest.getD s.2.toNat QW).length) 8) <|
     gd (bq (s.1.length+1) 24)<|gd (QF .i64<|s.2+(1:Int))<|QZ (.inl ((s.1++[(([(c.getD k QW)]:LI)++(rest.getD s.2.toNat QW))]),(s.2+(1:Int))))
    else QZ (.inr s.1)):=λs=>by
   unfold iM J
   simp_all
  generalize iM i rest c (pre,(k:Int))=step at hstep ⊢;generalize c.getD k QW=y at hstep hpre ⊢
  by_cases hy:y=i
  ·have hn : ¬ nq i y=QX:=by unfold nq;rw [decide_eq_true hy];decide
   rw [if_neg hn] at hpre ⊢;rw [yg,hstep];have : QM (bif Q3 ((0:Int)<(rest.length:Int)) then gd (Q3<|0<=(k:Int)/\(k:Int)<(c.length:Int))<|QZ (y != i) else QZ QY) (· = QY) := .bifD (λ_ => .gdD ⟨by omega,by omega⟩<|.pure<|by simp_all) λ_ => .pure rfl;rw [show (bif Q3 (((pre,(0:Int)):LL×Int).2<(rest.length:Int)) then gd (Q3<|0<=(k:Int)/\(k:Int)<(c.length:Int))<|QZ (y != i) else QZ QY)=QZ QY from this.eq];exact .of rfl (by simp)
  have hn:nq i y=QX:=by unfold nq;rw [decide_eq_false hy];rfl
  have hne:(y != i)=QX:=by simpa using hy
  rw [if_pos hn,llm] at hpre;rw [if_pos hn];refine (rE rest.length pre (λj=>[y::rest.getD j QW]) (λj hj=>?_) ?_).mono λv hv=>?_
  ·have hil:((TV j).flatMap λj=>[y::rest.getD j QW]).length=j*1:=by rw [nU (m:=1) λ_ _=>rfl,Ud]
   rw [hstep];refine QM.bind (P:=(· = QX)) (.bifD (λ_ => .gdD ⟨by omega,by omega⟩<|.pure hne) λh=>absurd (show (j:Int)<(rest.length:Int) by omega) h) λb hb=>?_;subst hb;simp only [tnn,cond_true];refine .gdD ⟨by omega,by omega⟩<|.gdD ⟨by omega,by omega⟩<|.gd (aU (by grind) rfl)<|.gd (aU (by grind) rfl)<|.gdI (by omega)<|.pure ?_;rw [fZ,Uy]
   rfl
  ·rw [hstep];refine QM.bind (P:=(· = QY)) (.bifD (λh=>absurd h<|by omega) λ_ => .pure rfl) λb hb=>?_;subst hb;exact .pure rfl
  rw [hv,lu rest λx=>[y::x],Bm]
 unfold iN;exact .bifD (λh=>absurd h<|by omega) λ_ => .pure rfl
theorem K6 {i:Nat} (h:i<(evs p).length):(chF p).drop i=chE p i::(chF p).drop (i+1):=by
 have hl:i<(chF p).length:=by simp [chF];exact h
 rw [UQ hl]
 congr 1
 simp [chF]
theorem E0 (hv:bf (QP p)=QX):∀ (n m i:Nat),i+n=(evs p).length->n<m->QM (ig m (evs p) (i:Int)) (· = xk ((chF p).drop i))
 | _,0,_,_,h=>by omega
 | 0,m+1,i,hi,_=>by
  show QM (dS _ (evs p) (i:Int)) _;unfold dS J;refine .bif (λ_ => .pure ?_) λh=>by simp_all
  rw [UW (by simp [chF] <;> omega)]
  rfl
 | n+1,m+1,i,hi,hm=>by
  have hp:=PV.of hv;have F:=few hv;have hel:=jT hp.vs;have hen:∀ n:Nat,(evs p).getD n QW=ev p (n:Int):=λn=>by unfold ev;simp_all
  have hl:=tj hp (n:=(i:Int)) (by omega) (by omega);show QM (dS _ (evs p) (i:Int)) _;unfold dS J;refine .bif (λh=>by grind) λ_ => .gdI (by omega) ?_;refine (E0 hv n m (i+1) (by omega)<|by omega).bind λv3 h3=>?_;have hi':i<(evs p).length:=by omega
  have hr:=(F.f<|i+1).2;have hF:=(F.f i).2;have hrow:∀ k,(v3.getD k QW).length<=100:=λk=>by
   by_cases hk:k<v3.length
   ·have hm:=getD_in hk;rw [show v3=xk ((chF p).drop<|i+1) from h3] at hm;have := (rF.1 hm).1;rw [<- h3,Ux] at this;simp only [chF,llm,Ud] at this;omega
   rw [gdq,gen (by omega)];exact T9 _
  rw [K6 hi'] at hF ⊢;rw [<- h3] at hr;have hE:xk (chE p i::(chF p).drop (i+1))=(chE p i).flatMap λy=>v3.map (y :: ·):=by rw [h3];rfl
  rw [hE] at hF ⊢;clear hE;generalize hS:(if (ev p (i:Int)).Reads=QX then QO p (ev p (i:Int)).Loc else [-1])=c;have hcf:chE p i=c.filter (nq (i:Int)):=by
   unfold chE;rw [<- hS]
   split
   ·rfl
   unfold nq
   grind
  have hcl:c.length<=8:=by
   rw [<- hS]
   split
   ·have hw:=(F.w (ev p (i:Int)).Loc.toNat<|by omega).1
    grind
   decide
  refine QM.bind (P:=(· = c)) (.gdD ⟨by omega,by omega⟩ ?_) λs4 h4=>?_
  ·simp only [tnn,hen];refine .bif (λh=>((G8 hp _).bind λv7 h7 => .pure ?_)) λh => .pure ?_
   ·rw [h7,<- hS,if_pos h]
   simp_all
  subst s4;rw [hcf] at hF ⊢;exact (Ii (i:Int) v3 c (by omega) hr hrow hF).bind λs8 h8 => .pure h8
theorem Ou (hv:bf (QP p)=QX):QM (rS (evs p) 0) (· = xk (chF p)):=pQ (evs p).length λm hm=>E0 hv (evs p).length m 0 (by omega) hm
theorem F7 (l:Int) (v3:List<|LL) (v4:LI) (v6:LL) (h40:v4.getD 0 QW=l) (h4:0<v4.length) (hn6:v6.length<=3000) (hn3:v3.length<=3000) (hr6:∀ k,(v6.getD k QW).length<=100) (hr3:∀ k,(v3.getD k QW).length<=100) (hall:(v6.flatMap λr=>v3.map ((l::r) :: ·)).length<=3000) :
  QM (aB (gM v3 v4 v6) (([]:List<|LL),(0:Int))) (· = v6.flatMap λr=>v3.map ((l::r) :: ·)):=by
 rw [<- lu v6] at hall ⊢;generalize hg:(λk=>v3.map ((l::v6.getD k QW) :: ·))=g at hall ⊢;have hgk:∀ k,g k=v3.map ((l::v6.getD k QW) :: ·):=λk=>by grind
 refine (rE v6.length [] g (λk hk=>?_) ?_).mono λv hv=>by simp_all
 ·have hpre:=TW (Ce g<|show k+1<=v6.length by omega) hall;have hrk:=hr6 k;rw [fZ,lla] at hpre;unfold gM J;simp only [Ui,tnn,show (0:Int).toNat=0 from rfl,h40];refine .bifD (λ_=>?_) λh=>absurd (show (k:Int)<(v6.length:Int) by omega) h;refine QM.bind (P:=(· = (TV<|k+1).flatMap g)) (.gdD ⟨by omega,by omega⟩<|.gdD ⟨by omega,by omega⟩<|.gd (aU (by grind) rfl) ?_) λv hv => .gdI (by omega)<|.pure (by simp_all);rw [fZ];have hk1:=hgk k;generalize (TV k).flatMap g=pre at hpre ⊢;generalize g k=gk at hk1 hpre ⊢;subst hk1;rw [llm] at hpre;have hstep:∀ s:List (LL)×Int,gL v3 v4 v6 (pre,(k:Int)) s=bif Q3 (s.2<(v3.length:Int)) then
    gd (Q3<|0<=s.2/\s.2<(v3.length:Int))<|gd (bq (([(([l]:LI)++(v6.getD k QW))]:LL).length+(v3.getD s.2.toNat QW).length) 24)<|gd (bq (s.1.length+1) 24)<|gd (QF .i64<|s.2+(1:Int)) <|
    QZ (.inl ((s.1++[(([(([l]:LI)++(v6.getD k QW))]:LL)++(v3.getD s.2.toNat QW))]),(s.2+(1:Int)))) else QZ (.inr s.1):=λs=>by
   unfold gL J
   simp_all
  generalize gL v3 v4 v6 (pre,(k:Int))=step at hstep ⊢;generalize v6.getD k QW=y at hstep ⊢;refine (rE v3.length pre (λj=>[(l::y)::v3.getD j QW]) (λj hj=>?_) ?_).mono λv hv=>?_
  ·have hil:((TV j).flatMap λj=>[(l::y)::v3.getD j QW]).length=j*1:=by rw [nU (m:=1) λ_ _=>rfl,Ud]
   rw [hstep];simp only [tnn];refine .bifD (λ_ => .gdD ⟨by omega,by omega⟩<|.gd (aU (by grind) rfl)<|.gd (aU (by grind) rfl)<|.gdI (by omega)<|.pure ?_) λh=>absurd (show (j:Int)<(v3.length:Int) by omega) h;rw [fZ,Uy]
   rfl
  ·rw [hstep];exact .bifD (λh=>absurd h<|by omega) λ_ => .pure rfl
  rw [hv,lu v3 λx=>[(l::y)::x],Bm]
 unfold gM J;exact .bifD (λh=>absurd h<|by omega) λ_ => .pure rfl
theorem K7 {l:Nat} (h:l<3):(chO p).drop l=chL p l::(chO p).drop (l+1):=by
 match l,h with
 | 0,_=>rfl
 | 1,_=>rfl
 | 2,_=>rfl
theorem Ci (hv:bf (QP p)=QX):∀ (n m l:Nat),l+n=3->n<m->QM (fU m (evs p) (l:Int)) (· = xk ((chO p).drop l))
 | _,0,_,_,h=>by omega
 | 0,m+1,l,hl,_=>by
  show QM (dx _ (evs p) (l:Int)) _;unfold dx;refine .bifD (λ_ => .pure ?_) λh=>absurd (show (2:Int)<(l:Int) by omega) h;rw [UW (by simp [chO] <;> omega)]
  rfl
 | n+1,m+1,l,hl,hm=>by
  have hp:=PV.of hv;have F:=few hv;have hl3:l<3:=by omega
  show QM (dx _ (evs p) (l:Int)) _;unfold dx;refine .bifD (λh=>absurd h<|by omega) λ_ => .gdI (by omega) ?_;refine (Ci hv n m (l+1) (by omega)<|by omega).bind λv3 h3=>(G8 hp _).bind λv4 h4=>?_;subst v4;have hw:=(F.w l hl3).1;obtain ⟨t,ht⟩:=LP (p:=p) l hl3;refine .gdD ⟨by omega,by grind,by omega⟩ ?_;have e:(((QO p (l:Int)).drop (1:Int).toNat).take<|((QO p (l:Int)).length:Int).toNat-(1:Int).toNat)=(QO p (l:Int)).tail:=by
   rw [ht];simp
  rw [e];refine (Ot _<|by grind).bind λv6 h6=>?_;have hn6:v6.length<=3000:=by
   have := (F.w l hl3).2;rw [h6];unfold chL at this
   simp_all
  have hr6:∀ i,(v6.getD i QW).length<=100:=λi=>by
   by_cases hi:i<v6.length
   ·have hm:=getD_in hi;rw [show v6=prm (QO p (l:Int)).tail.length (QO p (l:Int)).tail from h6] at hm;have := ((zf rfl).1 hm).length_eq
    grind
   rw [gdq,gen (by omega)];exact T9 _
  have hn3:=(F.o<|l+1).2;have hO:=(F.o l).2;have hr3:∀ k,(v3.getD k QW).length<=100:=λk=>by
   by_cases hk:k<v3.length
   ·have hm:=getD_in hk;rw [show v3=xk ((chO p).drop<|l+1) from h3] at hm;have := (rF.1 hm).1;rw [<- h3,Ux] at this;simp only [chO,llc,UK] at this;omega
   rw [gdq,gen (by omega)];exact T9 _
  rw [K7 hl3] at hO ⊢;rw [<- h3] at hn3;have hE:xk (chL p l::(chO p).drop (l+1))=v6.flatMap λr=>v3.map (((l:Int)::r) :: ·):=by
   show ((prm (QO p (l:Int)).tail.length (QO p (l:Int)).tail).map ((l:Int) :: ·)).flatMap (λy=>(xk<|(chO p).drop<|l+1).map (y :: ·))=_;rw [<- h6,<- h3,List.flatMap_map]
  rw [hE] at hO ⊢;exact (F7 (l:Int) v3 (QO p (l:Int)) v6 (by simp_all) (by simp_all) hn6 hn3 hr6 hr3 hO).bind λs7 h7 => .pure h7
theorem MU (hv:bf (QP p)=QX):QM (qB (evs p) 0) (· = xk (chO p)):=pQ 3 λm hm=>Ci hv 3 m 0 (by omega) hm
theorem MV (FF:LL) (OO:List<|LL) (hall:FF.length*OO.length<=3000) (hn:FF.length<=3000) (hn2:OO.length<=3000) (hf:∀ f∈FF,f.length<=24) (ho:∀ o∈OO,o.length=3/\∀ i,(o.getD i QW).length<=100) :
  QM (aB (iV FF OO) (([]:List QI),(0:Int))) (· = FF.flatMap λf=>OO.map λo=>(⟨f,o⟩:QI)):=by
 have hpre:∀ j,j<=FF.length->((TV j).flatMap λj=>OO.map λo=>(⟨FF.getD j QW,o⟩:QI)).length<=3000:=λj hj=>by
  have := Ce (λj=>OO.map λo=>(⟨FF.getD j QW,o⟩:QI)) hj;rw [lu FF λf=>OO.map λo=>(⟨f,o⟩:QI),nU (l:=FF) (f:=λf=>OO.map λo=>(⟨f,o⟩:QI)) (m:=OO.length) λ_ _=>llm _] at this;omega
 refine (rE FF.length [] (λj=>OO.map λo=>(⟨FF.getD j QW,o⟩:QI)) (λj hj=>?_) ?_).mono λv hv=>?_
 ·have hfj:=hf _<|getD_in hj;have hpj:=hpre (j+1) hj;rw [fZ,lla,llm] at hpj;unfold iV;simp only [Ui];refine .bifD (λ_=>?_) λh=>absurd (show (j:Int)<(FF.length:Int) by omega) h;refine QM.bind (P:=(· = (TV<|j+1).flatMap λj=>OO.map λo=>(⟨FF.getD j QW,o⟩:QI))) ?_ λv hv => .gdI (by omega)<|.pure (by simp_all);generalize hpe:(TV j).flatMap (λj=>OO.map λo=>(⟨FF.getD j QW,o⟩:QI))=pre at hpj ⊢;generalize hfg:FF.getD j QW=f at hfj;have hstep:∀ s:List QI×Int,ik FF OO (pre,(j:Int)) s=bif Q3 (s.2<(OO.length:Int)) then
    gd (Q3<|0<=(j:Int)/\(j:Int)<(FF.length:Int))<|gd (Q3<|0<=s.2/\s.2<(OO.length:Int))<|Ub (lZ (⟨f,OO.getD s.2.toNat QW⟩:QI)) λv99=>
    gd (bq (s.1.length+1) 48)<|gd (QF .i64<|s.2+(1:Int))<|QZ (.inl ((s.1++[v99]),(s.2+(1:Int)))) else QZ (.inr s.1):=λs=>by
   unfold ik J
   simp_all
  generalize ik FF OO (pre,(j:Int))=step at hstep ⊢;refine (rE OO.length pre (λi=>[(⟨f,OO.getD i QW⟩:QI)]) (λi hi=>?_) ?_).mono λv hv=>?_
  ·have hil:((TV i).flatMap λi=>[(⟨f,OO.getD i QW⟩:QI)]).length=i*1:=by rw [nU (m:=1) λ_ _=>rfl,Ud]
   obtain ⟨ho1,ho2⟩:=ho _<|getD_in hi;rw [hstep];simp only [tnn];refine .bifD (λ_ => .gdD ⟨by omega,by omega⟩<|.gdD ⟨by omega,by omega⟩<|(Jt ⟨f,OO.getD i QW⟩ (TW hfj<|by omega) (by simp_all) λi=>TW (ho2 i)<|by omega).bind λv99 h99 => .gd (aU (by grind) rfl)<|.gdI (by omega)<|.pure ?_) λh=>absurd (show (i:Int)<(OO.length:Int) by omega) h;rw [h99,fZ,Uy]
   rfl
  ·rw [hstep];exact .bifD (λh=>absurd h<|by omega) λ_ => .pure rfl
  rw [hv,lu OO λo=>[(⟨f,o⟩:QI)],Bm,fZ,hpe,hfg]
 ·unfold iV;exact .bifD (λh=>absurd h<|by omega) λ_ => .pure rfl
 rw [hv,Ui];exact lu FF λf=>OO.map λo=>(⟨f,o⟩:QI)
theorem Jv (hv:bf (QP p)=QX):QM (rD p) (· = Cg p):=by
 have hp:=PV.of hv;have F:=few hv;have hel:=jT hp.vs;unfold rD;refine (Cc hp.vs).bind λv1 e1=>?_;subst v1;refine (Ou hv).bind λv2 h2=>(MU hv).bind λv3 h3=>?_;subst v2 v3;have h0:=(F.f (chF p).length).1;rw [UA] at h0;have h1:=(F.o (chO p).length).1;rw [UA] at h1;exact (MV (xk<|chF p) (xk<|chO p) F.all h0 h1 (λf hf=>by rw [Ju hf];omega) λo ho=>MS F ho).bind λs4 h4 => .pure h4
end
section
variable {p:List (List QH)} {x:XS} {F F':LI}
def MW (p:List<|List QH):LI:=(TV (evs p).length).map λ(i:Nat)=>(i:Int)
theorem Cand.congr (C:Cand p x F) (h:∀ n,n∈F'↔n∈F):Cand p x F':=
 ⟨λn=>(h n).trans<|C.mem n,C.flen,C.olen,λl hl=>⟨(C.ods l hl).nd,λn=>by rw [(C.ods l hl).mem,h]⟩,C.hd,λi hi hr=>C.rdc i ((h i).1 hi) hr,λi hi hr=>C.ne i ((h i).1 hi) hr,λi hi hr=>C.frN i ((h i).1 hi) hr⟩
theorem Jw (l:Int):(QO p l).Nodup:=List.Pairwise.filter _ Oq
theorem F8 {c:QI} (hp:PV p) (h:c∈Cg p):Cand p (c.From,c.Order) (MW p):=by
 unfold Cg at h;simp only [UH,Uc] at h;obtain ⟨f,hf,o,ho,rfl⟩:=h;obtain ⟨f1,f2⟩:=rF.1 hf;obtain ⟨o1,o2⟩:=rF.1 ho;have hfl:=Ju hf;have oget:∀ l:Nat,l<3->∃ r,o.getD l []=(l:Int)::r/\r.Perm (QO p (l:Int)).tail:=λl hl=>by
  obtain ⟨y,hy,e⟩:=o2 l hl;have hy':y∈chL p l:=by
   match l,hl with
   | 0,_=>exact hy
   | 1,_=>exact hy
   | 2,_=>exact hy
  unfold chL at hy';obtain ⟨r,hr,rfl⟩:=Uc.1 hy';exact ⟨r,by rw [gdq,e];rfl,(zf rfl).1 hr⟩
 have operm:∀ l:Nat,l<3->(o.getD l []).Perm (QO p (l:Int)):=λl hl=>by
  obtain ⟨r,e,hr⟩:=oget l hl;obtain ⟨t,ht⟩:=LP (p:=p) l hl;rw [e];rw [ht] at hr ⊢;exact hr.cons _
 have fget:∀ i:Nat,i<(evs p).length->f.getD i QW∈chE p i:=λi hi=>by
  obtain ⟨y,hy,e⟩:=f2 i (by simp [chF];exact hi);rw [gdq,e];simpa [chF] using hy
 have odn:∀ l:Int,0<=l/\l<=2->(od (f,o) l).Perm (QO p l):=λl hl=>by
  have := operm l.toNat (by omega);rw [TZ hl.1] at this;exact this
 have rd:∀ i:Int,i∈MW p->(ev p i).Reads=QX->f.getD i.toNat QW∈QO p (ev p i).Loc/\f.getD i.toNat QW≠i:=λi hi hr=>by
  obtain ⟨i0,i1⟩:=(uf i).1 hi;have := fget i.toNat (by omega);unfold chE at this;rw [TZ i0,if_pos hr,Ur] at this;exact ⟨this.1,by simpa using this.2⟩
 refine ⟨λn=>uf n,hfl,o1,λl hl=>⟨(odn l hl).nodup_iff.2<|Jw l,λn=>?_⟩,λl hl=>?_,λi hi hr=>?_,λi hi hr=>(rd i hi hr).2,λi hi hr=>?_⟩
 ·rw [(odn l hl).mem_iff];unfold QO;rw [Ur];unfold Wl;rw [bae,dte];exact Iff.rfl
 ·obtain ⟨r,e,_⟩:=oget l hl;exact ⟨r,by unfold od;rw [tnn];exact e⟩
 ·obtain ⟨i0,i1⟩:=(uf i).1 hi;exact (odn _<|tj hp i0 i1).mem_iff.2 (rd i hi hr).1
 obtain ⟨i0,i1⟩:=(uf i).1 hi;have := fget i.toNat (by omega);unfold chE at this;rw [TZ i0,if_neg (by rw [hr];decide)] at this;simpa using this
end
def tab (N:Nat) (g:Nat->Int):LI:=(TV N).map g
section
variable {N:Nat} {g h:Nat->Int}
theorem vD:(tab N g).length=N:=by simp [tab]
theorem F9 {i:Nat} (hi:i<N):(tab N g).getD i QW=g i:=by
 unfold tab
 simp_all
theorem f9 (e:∀ i,i<N->g i=h i):tab N g=tab N h:=List.map_congr_left λi hi=>e i<|Ua.1 hi
theorem D8 (i:Nat) (v:Int):(tab N g).set i v=tab N λj=>if j=i then v else g j:=by
 apply List.ext_getElem
 ·simp [tab]
 intro j h1 h2;rw [List.getElem_set];simp only [tab,List.getElem_map,List.getElem_range];omega
theorem Bn:Uo N (QW:Int)=tab N λ_=>0:=by
 apply List.ext_getElem
 ·simp [tab]
 intro j h1 h2;simp only [tab,List.getElem_map,List.getElem_replicate]
 rfl
theorem Bp:tab (N+1) g=tab N g++[g N]:=by
 unfold tab;rw [Ue,Ug]
 rfl
end
theorem cK {f g:Nat->Bool}:∀ {n:Nat},(∀ k,k<n->f k=g k)->QN f n=QN g n
 | 0,_=>rfl
 | n+1,h=>by
  unfold QN;rw [h n (by omega),cK λk hk=>h k (by omega)]
theorem Jy (f g:Nat->Bool) (n:Nat):QN f n&&&QN g n=QN (λj=>f j&&g j) n:=by
 apply UE;intro j;rw [Nat.testBit_and,jV,jV,jV]
 grind
theorem Bq (n:Nat):QN (λ_=>QY) n=0:=by
 induction n with
 | zero=>rfl
 | succ n ih=>unfold QN;grind
def QQ (N:Nat) (f:Int->Int->Bool):LI:=tab N λi=>((QN (λk=>f (i:Int) (k:Int)) N:Nat):Int)
section
variable {N:Nat} {f g:Int->Int->Bool}
theorem aS:(QQ N f).length=N:=vD
theorem iA {i:Nat} (h:i<N):(QQ N f).getD i QW=((QN (λk=>f (i:Int) (k:Int)) N:Nat):Int):=F9 h
theorem kv (h:∀ i k:Nat,i<N->k<N->f i k=g i k):QQ N f=QQ N g:=f9 λi hi=>by rw [cK λk hk=>h i k hi hk]
def P15 (n:Int) (is:Int->Int->Option Bool) (s6:(LI)×Int):((LI)×Int)->Option (((LI)×Int) ⊕ (LI)):=λs14=>
 bif Q3 (s14.2<n) then
  Ub (
   Ub (is s6.2 s14.2) λv19=>
   bif v19 then
    gd (Q3<|0<=s6.2/\s6.2<(s14.1.length:Int)) <|
    gd (Q3<|0<=s14.2) <|
    QZ (s14.1.set s6.2.toNat<|bOr .i64 (s14.1.getD s6.2.toNat QW)<|De .i64 (1:Int) s14.2)
   else
    QZ s14.1
  ) λs18=>
  gd (QF .i64<|s14.2+(1:Int)) <|
  QZ (.inl (s18,(s14.2+(1:Int))))
 else
  QZ (.inr s14.1)
def P7 (n:Int) (is:Int->Int->Option Bool):((LI)×Int)->Option (((LI)×Int) ⊕ (LI)):=λs6=>
 bif Q3 (s6.2<n) then
  Ub (
   aB (P15 n is s6) (s6.1,(0:Int))
  ) λs10=>
  gd (QF .i64<|s6.2+(1:Int)) <|
  QZ (.inl (s10,(s6.2+(1:Int))))
 else
  QZ (.inr s6.1)
def LQ (n:Int) (is:Int->Int->Option Bool):Option (LI):=
 gd (Q3<|0<=n/\n<=n/\n*((8:Nat):Int)<=140737488355328/\n<=140737488355328) <|
 Ub (
  aB (P7 n is) ((Uo n.toNat (QW:Int)),(0:Int))
 ) λs2=>
 QZ s2
def part (N:Nat) (f:Int->Int->Bool) (i k:Nat):LI:=tab N λj=>if j<i then ((QN (λk=>f (j:Int) (k:Int)) N:Nat):Int) else if j=i then ((QN (λk=>f (j:Int) (k:Int)) k:Nat):Int) else 0
theorem E5 (hN:N<=60) {is:Int->Int->Option Bool} (hi:∀ i k:Nat,i<N->k<N->QM (is (i:Int) (k:Int)) (· = f i k)):QM (LQ (N:Int) is) (· = QQ N f):=by
 unfold LQ;refine .gdD ⟨by omega,by omega,by omega,by omega⟩ (QM.bind (P:=(· = QQ N f)) ?_ λv hv => .pure hv);have e0:Uo (N:Int).toNat (QW:Int)=part N f 0 0:=by
  rw [tnn,Bn];refine f9 λj _=>?_;rw [if_neg (by omega)]
  split <;> simp [QN]
 rw [e0];refine QM.loop (λz=>∃ i:Nat,i<=N/\z=(part N f i 0,(i:Int))) (λz=>((N:Int)-z.2).toNat) ⟨0,by omega,rfl⟩ λz ⟨i,h1,h2⟩ => ?_;subst h2;unfold P7;simp only [];refine .bifD (λhk=>?_) λhk => .pure ?_
 ·refine QM.bind (P:=(· = part N f (i+1) 0)) ?_ λv hv => .gdI (by omega)<|.pure ⟨⟨i+1,by omega,by simp_all⟩,by omega⟩;refine QM.loop (λz=>∃ k:Nat,k<=N/\z=(part N f i k,(k:Int))) (λz=>((N:Int)-z.2).toNat) ⟨0,by omega,rfl⟩ λz ⟨k,k1,k2⟩ => ?_;subst k2;unfold P15;simp only [tnn];refine .bifD (λhkk=>?_) λhkk => .pure ?_
  ·refine QM.bind (P:=(· = part N f i (k+1))) ((hi i k (by omega)<|by omega).bind λv hv => .bif (λhb => .gdD ⟨by omega,by unfold part;rw [vD];omega⟩<|.gdD (by omega)<|.pure ?_) λhb => .pure ?_) λv hv => .gdI (by omega) (.pure ⟨⟨k+1,by omega,by simp_all⟩,by omega⟩)
   ·unfold part;rw [F9 (by omega),if_neg (by omega),if_pos rfl,Bj (by omega),rU (aX<|by omega) (by have := UN (a:=2) (by omega) (show k<63 by omega);omega),D8];refine f9 λj _=>?_
    by_cases e:j=i
    ·subst e;rw [if_pos rfl,if_neg (by omega),if_pos rfl];rw [hv] at hb;rw [QN,if_pos hb]
    omega
   unfold part;refine f9 λj _=>?_
   by_cases e:j=i
   ·subst e;rw [if_neg (by omega),if_pos rfl,if_neg (by omega),if_pos rfl];rw [hv] at hb;rw [QN,if_neg (by rw [hb];decide)]
   omega
  have : k=N:=by omega
  subst this;unfold part;refine f9 λj _=>?_
  by_cases e:j=i
  ·omega
  by_cases e2:j<i
  ·omega
  rw [if_neg e2,if_neg e,if_neg (by omega)]
  split <;> simp [QN]
 have : i=N:=by omega
 subst this;exact f9 λj hj=>by omega
theorem Ov (i:Nat):(QN (λk=>f (i:Int) (k:Int)) N)<2 ^ N:=G3 _ _
theorem MX {m n:Nat} (hm:m<2 ^ n) (hn:n<=62):jw .i64 (m:Int) (n:Int)=0:=by
 show (m:Int).fdiv (2 ^ (min (n:Int).toNat 64))=_;have hq:min (n:Int).toNat 64=n:=by omega
 rw [hq,show (2:Int) ^ n=((2 ^ n:Nat):Int) by simp,UO _ (Int.natCast_nonneg _)];have : m / 2 ^ n=0:=Nat.div_eq_of_lt hm;omega
theorem mZ (hN:N<=16):QM (bB<|QQ N f) (· = QX):=by
 unfold bB aQ aW;refine QM.bind (P:=(· = QX)) (.bifD (λ_=>?_) λh=>absurd (show ((QQ N f).length:Int)<=16 by rw [aS];omega) h) λv hv => .pure hv;refine QM.bind (P:=(· = QY)) (QM.bind (P:=(· = -1)) (QM.sum (PS:=λ_=>True) (PW:=(· = (-1:Int))) ?_ λ_ _ => .pure rfl) λv hv => .pure<|by simp_all) λv hv => .pure (by simp_all);refine QM.loop (λz=>∃ i:Nat,i<=N/\z=(i:Int)) (λz=>((N:Int)-z).toNat) ⟨0,by omega,rfl⟩ λz ⟨i,h1,h2⟩ => ?_;subst h2;unfold bI mU J;simp only [aS,tnn];refine .bifD (λhk=>?_) λhk => .pure trivial;have hg:=iA (f:=f) (show i<N by omega);refine .gdD ⟨by omega,hk⟩ (QM.bind (P:=(· = QY)) (QM.bind (P:=(· = QY)) (.bifD (λh=>absurd h<|by omega) λ_ => .gdD (by omega)<|.pure<|decide_eq_false<|by rw [hg,MX (Ov i) (by omega)];omega) λv hv => .pure hv) λv hv => .bif (λh=>by simp_all) λ_ => .gdI (by omega)<|.pure ⟨⟨i+1,by omega,rfl⟩,by omega⟩)
theorem Jz (hN:N<=16):QM (di (QQ N f)<|QQ N g) (· = QX):=by
 unfold di;refine QM.bind (P:=(· = QX)) (.bif (λ_=>(mZ hN).bind λv hv => .pure hv) λh=>?_) λv hv=>?_
 ·rw [aS,aS] at h
  grind
 subst hv;exact QM.bind (P:=(· = QX)) (.bif (λ_=>(mZ hN).bind λv hv => .pure hv) λh=>by cases h) λv hv => .pure hv
theorem kY (hN:N<=60) {i k:Nat} (hi:i<N) (hk:k<N):QM (cA (QQ N f) (i:Int) (k:Int)) (· = f i k):=by
 unfold cA J;simp only [aS,tnn];rw [iA hi,LO (aX<|by omega) (by omega),jV,decide_eq_true hk,Uu];refine .gdD ⟨by omega,by omega⟩<|.gdD (by omega)<|.pure ?_
 grind
theorem D9 {a b:Nat} (ha:a<9223372036854775808) (hb:b<9223372036854775808):fH .i64 (a:Int) (b:Int)=((a&&&b:Nat):Int):=by
 have hlt:(a&&&b)<2 ^ 63:=Nat.and_lt_two_pow a hb;show IntKind.wrap .i64 (((TY 64 (a:Int)&&&TY 64 (b:Int)).toNat:Nat):Int)=_;have h1:(TY 64 (a:Int)).toNat=a:=by rw [Uj,Uk];omega
 have h2:(TY 64 (b:Int)).toNat=b:=by rw [Uj,Uk];omega
 rw [BitVec.toNat_and,h1,h2];exact wu hlt
theorem E8 (f g:Nat->Bool) {n:Nat} (hn:n<=62):mP .i64 ((QN f n:Nat):Int) ((QN g n:Nat):Int)=((QN (λj=>f j && !g j) n:Nat):Int):=by
 have ha:=aX (f:=f) hn;have hb:=aX (f:=g) hn;show IntKind.wrap .i64 (((TY 64 ((QN f n:Nat):Int) &&& ~~~ TY 64 ((QN g n:Nat):Int)).toNat:Nat):Int)=_;have key:(TY 64 ((QN f n:Nat):Int) &&& ~~~ TY 64 ((QN g n:Nat):Int)).toNat=QN (λj=>f j && !g j) n:=by
  apply UE;intro j;rw [jV];have h1:∀ m:Nat,m<9223372036854775808->∀ j,(TY 64 ((m:Nat):Int)).getLsbD j=m.testBit j:=λm hm j=>by
   grind
  show (TY 64 ((QN f n:Nat):Int) &&& ~~~ TY 64 ((QN g n:Nat):Int)).getLsbD j=_;rw [BitVec.getLsbD_and,BitVec.getLsbD_not,h1 _ ha,h1 _ hb,jV,jV]
  by_cases hj:j<n
  ·grind
  grind
 rw [key];exact wu<|aX hn
theorem Ea (hN:N<=16) {by_:Int->Int->Option Int} {q:Int->Int->Bool} (step:((LI)×Int)->Option (((LI)×Int) ⊕ (LI)))
  (hs:∀ s8:(LI)×Int,step s8=bif Q3 (s8.2<((QQ N f).length:Int)) then
   gd (Q3<|0<=s8.2/\s8.2<((QQ N f).length:Int))<|gd (Q3<|0<=s8.2/\s8.2<((QQ N g).length:Int)) <|
   Ub (by_ ((QQ N f).getD s8.2.toNat QW)<|(QQ N g).getD s8.2.toNat QW) λv14=>
   gd (Q3 (0<=s8.2/\s8.2<(s8.1.length:Int)))<|gd (QF .i64 (s8.2+(1:Int)))<|QZ (.inl ((s8.1.set s8.2.toNat v14),(s8.2+(1:Int)))) else QZ (.inr s8.1))
  (hb:∀ i:Nat,i<N->QM (by_ ((QN (λk=>f (i:Int) (k:Int)) N:Nat):Int) ((QN (λk=>g (i:Int) (k:Int)) N:Nat):Int)) (· = ((QN (λk=>q (i:Int) (k:Int)) N:Nat):Int))) :
  QM (Ub (di (QQ N f) (QQ N g)) λv1=>bif !v1 then QZ ([]:LI) else
   gd (Q3<|0<=((QQ N f).length:Int)/\((QQ N f).length:Int)<=((QQ N f).length:Int)/\((QQ N f).length:Int)*((8:Nat):Int)<=140737488355328/\((QQ N f).length:Int)<=140737488355328) <|
   Ub (aB step ((Uo ((QQ N f).length:Int).toNat (QW:Int)),(0:Int))) λs4=>QZ s4) (· = QQ N q):=by
 refine (Jz hN).bind λv hv=>?_;subst hv;refine .bif (λh=>by cases h) λ_=>?_;refine .gdD ⟨by omega,by omega,by rw [aS];omega,by rw [aS];omega⟩ (QM.bind (P:=(· = QQ N q)) ?_ λv hv => .pure hv);rw [aS,tnn,Bn];refine QM.loop (λz=>∃ i:Nat,i<=N/\z=(tab N (λj=>if j<i then ((QN (λk=>q (j:Int) (k:Int)) N:Nat):Int) else 0),(i:Int))) (λz=>((N:Int)-z.2).toNat) ⟨0,by omega,rfl⟩ λz ⟨i,h1,h2⟩ => ?_;subst h2;rw [hs];simp only [aS,tnn];refine .bifD (λhk=>?_) λhk => .pure ?_
 ·rw [iA (by omega),iA (by omega)];refine .gdD ⟨by omega,hk⟩<|.gdD ⟨by omega,hk⟩<|(hb i<|by omega).bind λv hv => .gdD ⟨by omega,by rw [vD];omega⟩<|.gdI (by omega)<|.pure ⟨⟨i+1,by omega,?_⟩,by simp only [];omega⟩;rw [D8,hv]
  grind
 have : i=N:=by omega
 subst this;exact f9 λj hj=>by omega
theorem MZ (hN:N<=16):QM (lK (QQ N f)<|QQ N g) (· = QQ N λi k=>f i k||g i k):=by
 unfold lK;refine QM.bind (P:=(· = QQ N λi k=>f i k||g i k)) (Ea hN (by_:=mV) _ (λ_=>rfl) λi hi => .pure ?_) λv hv => .pure hv;rw [rU (aX<|by omega) (aX<|by omega),Dm]
theorem Ox (hN:N<=16):QM (nG (QQ N f)<|QQ N g) (· = QQ N λi k=>f i k&&g i k):=by
 unfold nG;refine QM.bind (P:=(· = QQ N λi k=>f i k&&g i k)) (Ea hN (by_:=oh) _ (λ_=>rfl) λi hi => .pure ?_) λv hv => .pure hv;rw [D9 (aX<|by omega) (aX<|by omega),Jy]
theorem M0 (hN:N<=16):QM (lL (QQ N f)<|QQ N g) (· = QQ N λi k=>f i k && !g i k):=by
 unfold lL;refine QM.bind (P:=(· = QQ N λi k=>f i k && !g i k)) (Ea hN (by_:=mW) _ (λ_=>rfl) λi hi => .pure ?_) λv hv => .pure hv;rw [E8 _ _ (by omega)]
end
section
variable {p:List (List QH)} {x:XS} {F F':LI}
theorem JA (l:Int):(QO p l).length<=(evs p).length:=by
 unfold QO;have := Ut (Wl p l)<|(TV (evs p).length).map λ(i:Nat)=>(i:Int);simpa using this
theorem JB (l:Int):(QO p l).Pairwise (· <= ·):=List.Pairwise.filter _<|List.pairwise_map.2 ((List.pairwise_lt_range).imp λh=>by omega)
structure Chk (p:List (List QH)) (x:XS):Prop where
 f:x.1.length=(evs p).length
 o:x.2.length=3
 r:∀ n:Nat,n<(evs p).length->if (ev p (n:Int)).Reads=QX then x.1.getD n QW∈QO p (ev p (n:Int)).Loc/\x.1.getD n QW≠n else x.1.getD n QW = -1
 ords:∀ l:Nat,l<3->(x.2.getD l QW).Perm (QO p (l:Int))/\(x.2.getD l QW).getD 0 QW=l
theorem Chk.cand (hp:PV p) (h:Chk p x):Cand p x (MW p):=by
 have e:∀ l:Int,0<=l/\l<=2->(od x l).Perm (QO p l):=λl hl=>by
  have := (h.ords l.toNat<|by omega).1;rw [TZ hl.1] at this;exact this
 refine ⟨λn=>uf n,h.f,h.o,λl hl=>⟨(e l hl).nodup_iff.2<|Jw l,λn=>?_⟩,λl hl=>?_,λi hi hr=>?_,λi hi hr=>?_,λi hi hr=>?_⟩
 ·rw [(e l hl).mem_iff];unfold QO;rw [Ur];unfold Wl;rw [bae,dte];exact Iff.rfl
 ·obtain ⟨h1,h2⟩:=h.ords l hl;obtain ⟨t,ht⟩:=Bl (p:=p) hl;have hlen:=h1.length_eq;rw [ht] at hlen;unfold od;rw [tnn]
  cases hq:x.2.getD l QW with
  | nil=>rw [hq] at hlen;simp at hlen
  | cons a r=>
   rw [hq] at h2;have h2:a=(l:Int):=h2;exact ⟨r,by rw [<- h2]⟩
 ·obtain ⟨i0,i1⟩:=(uf i).1 hi;have := h.r i.toNat (by omega);rw [TZ i0,if_pos hr] at this;exact (e _<|tj hp i0 i1).mem_iff.2 this.1
 ·obtain ⟨i0,i1⟩:=(uf i).1 hi;have := h.r i.toNat (by omega);rw [TZ i0,if_pos hr] at this;exact this.2
 obtain ⟨i0,i1⟩:=(uf i).1 hi;have := h.r i.toNat (by omega);rw [TZ i0,if_neg (by rw [hr];decide)] at this;exact this
theorem JC:∀ {w l:LI},w.Nodup->l.length=w.length->(∀ n∈w,n∈l)->l.Perm w
 | [],l,_,h,_=>by rw [List.length_eq_zero_iff.1 h]
 | a::w,l,hn,h,hs=>by
  have ha:=hs a Uh;have hp:=List.perm_cons_erase ha;obtain ⟨n1,n2⟩:=List.nodup_cons.1 hn;refine hp.trans<|List.Perm.cons a<|JC n2 ?_ λn hm=>?_
  ·have := hp.length_eq;rw [h] at this;simp only [llc] at this;omega
  exact (List.mem_erase_of_ne<|by rintro rfl;exact n1 hm).2<|hs n<|UJ _ hm
theorem Ij {l w:LI} (hl:l.length<=4000000) (hw:w.Nodup) (hwl:w.length<=4000000) (h0:0<w.length):QM (nC l w) λb=>b=QX↔l.Perm w/\l.getD 0 QW=w.getD 0 QW:=by
 unfold nC J;refine QM.sum (PS:=λ_=>l.length=w.length/\l.getD 0 QW=w.getD 0 QW) (PW:=λb=>b=QX↔l.Perm w/\l.getD 0 QW=w.getD 0 QW) (QM.bind (P:=λb:Bool=>b=QY↔l.length=w.length/\l.getD 0 QW=w.getD 0 QW) (.bif (λh=>?_) λh=>?_) λv hv => .bif (λh=>?_) λh => .pure<|hv.1 h) λ_ ⟨e1,e2⟩ => ?_
 ·have h : ¬ (l.length:Int)=(w.length:Int):=by simpa using h
  exact .pure ⟨λe=>(by cases e),λe=>absurd e.1<|by omega⟩
 ·have h:(l.length:Int)=(w.length:Int):=by simpa using h
  refine .gdD ⟨by omega,by omega⟩<|.gdD ⟨by omega,by omega⟩<|.pure ?_;show (l.getD 0 QW != w.getD 0 QW)=QY↔_;rw [bne_eq_false_iff_eq];exact ⟨λe=>⟨by omega,e⟩,λe=>e.2⟩
 ·refine .pure ⟨λe=>(by cases e),λe=>?_⟩;have : v=QY:=hv.2 ⟨e.1.length_eq,e.2⟩;rw [this] at h
  cases h
 refine QM.sum (PS:=λ_=>∀ n∈w,n∈l) (PW:=λb=>b=QX↔l.Perm w/\l.getD 0 QW=w.getD 0 QW) ?_ λ_ hs => .pure ⟨λ_=>⟨JC hw e1 hs,e2⟩,λ_=>rfl⟩;refine QM.loop (λz=>∃ i:Nat,i<=w.length/\z=(i:Int)/\∀ j:Nat,j<i->w.getD j QW∈l) (λz=>((w.length:Int)-z).toNat) ⟨0,by omega,rfl,λj hj=>absurd hj<|by omega⟩ λz ⟨i,h1,h2,h3⟩ => ?_;subst h2;unfold qZ J;simp only [tnn];refine .bifD (λhk => .gdD ⟨by omega,hk⟩<|(yl hl _).bind λv hv => .bifD (λhneg => .pure ?_) λhpos => .gdI (by omega)<|.pure ⟨⟨i+1,by omega,rfl,λj hj=>?_⟩,by omega⟩) λhk => .pure λn hn=>?_
 ·refine ⟨λe=>(by cases e),λe=>?_⟩;have hm:w.getD i QW∈l:=e.1.mem_iff.2<|getD_in (by omega);rw [hv,MN hm] at hneg;omega
 ·by_cases ej:j=i
  ·subst ej
   by_cases hm:w.getD j QW∈l
   ·exact hm
   rw [hv] at hpos;unfold plc at hpos;rw [if_neg hm] at hpos;omega
  exact h3 j (by omega)
 obtain ⟨j,hj,rfl⟩:=UV hn;have := h3 j (by omega);rw [gdq,geq hj] at this;exact this
theorem JD {l:LI} (n:Int):plc l n<0↔n∉l:=by
 unfold plc
 split
 ·rename_i h;exact ⟨λe=>by omega,λe=>absurd h e⟩
 rename_i h;exact ⟨λ_=>h,λ_=>by omega⟩
theorem Oy (hp:PV p) (hv:bf (p.map λr=>r.map iQ)=QX) (hsz:p.length<=1048576/\total p<=1048576) (hx:∀ r∈x.2,r.length<=1048576):QM (gZ p ⟨x.1,x.2⟩) λb=>b=QX↔Chk p x:=by
 have hel:=jT hp.vs;have hS:aV p=QZ (bf<|p.map λr=>r.map iQ):=tV<|decide_eq_true hsz;unfold gZ;refine (QM.of (P:=(· = QX)) hS hv).bind λv1 h1=>?_;subst h1;refine .bif (λh=>by cases h) λ_=>(Cc hp.vs).bind λv3 h3=>?_;subst h3;refine QM.bind (P:=λb:Bool=>b=QY↔x.1.length=(evs p).length/\x.2.length=3) (.bif (λh => .pure ⟨λe=>(by cases e),λe=>?_⟩) λh => .pure ?_) λv4 h4 => .bif (λh => .pure ⟨λe=>(by cases e),λe=>?_⟩) λh=>?_
 ·have h : ¬ (x.1.length:Int)=((evs p).length:Int):=by simpa using h
  omega
 ·have h:(x.1.length:Int)=((evs p).length:Int):=by simpa using h
  show ((x.2.length:Int) != 3)=QY↔_;rw [bne_eq_false_iff_eq];exact ⟨λe=>⟨by omega,by omega⟩,λe=>by omega⟩
 ·have := h4.2 ⟨e.f,e.o⟩;rw [this] at h
  cases h
 obtain ⟨hf,ho⟩:=h4.1 h;refine QM.sum (PS:=λ_=>∀ n:Nat,n<(evs p).length->if (ev p (n:Int)).Reads=QX then x.1.getD n QW∈QO p (ev p (n:Int)).Loc/\x.1.getD n QW≠n else x.1.getD n QW = -1) (PW:=λb=>b=QX↔Chk p x) ?_ λ_ hr=>?_
 ·refine QM.loop (λz=>∃ n:Nat,n<=(evs p).length/\z=(n:Int)/\∀ j:Nat,j<n->if (ev p (j:Int)).Reads=QX then x.1.getD j QW∈QO p (ev p (j:Int)).Loc/\x.1.getD j QW≠j else x.1.getD j QW = -1) (λz=>(((evs p).length:Int)-z).toNat) ⟨0,by omega,rfl,λj hj=>absurd hj<|by omega⟩ λz ⟨n,n1,n2,n3⟩ => ?_;subst n2;unfold o5 J;have en:(evs p).getD n QW=ev p (n:Int):=by unfold ev;rw [tnn]
  simp only [tnn,en];refine .bifD (λhk=>?_) λhk => .pure λm hm=>n3 m (by omega);have hl:=tj hp (n:=(n:Int)) (by omega) hk;refine QM.sum (PS:=λ_=>if (ev p (n:Int)).Reads=QX then x.1.getD n QW∈QO p (ev p (n:Int)).Loc/\x.1.getD n QW≠n else x.1.getD n QW = -1) ?_ λ_ hn => .gdI (by omega)<|.pure ⟨⟨n+1,by omega,rfl,λj hj=>?_⟩,by omega⟩
  ·refine QM.sum (PS:=λ_=>(ev p (n:Int)).Reads=QX->x.1.getD n QW∈QO p (ev p (n:Int)).Loc) ?_ λ_ hin=>?_
   ·refine QM.bind (P:=λb:Bool=>b=QY↔((ev p (n:Int)).Reads=QX->x.1.getD n QW∈QO p (ev p (n:Int)).Loc)) (.gdD ⟨by omega,hk⟩<|.bif (λhrd=>(xj hp _).bind λv18 h18 => .gdD ⟨by omega,by omega⟩ ?_) λhrd => .pure ⟨λ_ e=>(by rw [hrd] at e;cases e),λ_=>rfl⟩) λv hv => .bif (λh => .pure ⟨λe=>(by cases e),λe=>?_⟩) λh => .pure (hv.1 h)
    ·have h18:v18=QO p (ev p (n:Int)).Loc:=h18;subst h18;refine (yl (by have := JA (p:=p) (ev p (n:Int)).Loc;omega) _).bind λv20 h20 => .pure ?_;rw [decide_eq_false_iff_not,h20,JD];exact ⟨λe _=>Decidable.not_not.1 e,λe=>Decidable.not_not.2<|e hrd⟩
    have := e.r n (by omega);have h0:v=QY:=hv.2 λhrd=>by
     rw [if_pos hrd] at this;exact this.1
    rw [h0] at h
    cases h
   refine .gdD ⟨by omega,hk⟩<|QM.bind (P:=λb:Bool=>b=QY↔((ev p (n:Int)).Reads=QY->x.1.getD n QW = -1)) (.bif (λhrd => .gdD ⟨by omega,by omega⟩<|.pure ?_) λhrd => .pure ⟨λ_ e=>by simp [e] at hrd,λ_=>rfl⟩) λv23 h23=>?_
   ·have hrd:(ev p (n:Int)).Reads=QY:=by simpa using hrd
    show (x.1.getD n QW != -1)=QY↔_;rw [bne_eq_false_iff_eq];exact ⟨λe _=>e,λe=>e hrd⟩
   refine QM.bind (P:=λb:Bool=>b=QY↔v23=QY/\x.1.getD n QW≠n) (.bif (λh => .pure ⟨λe=>(by cases e),λe=>by rw [h] at e;exact absurd e.1<|by decide⟩) λh => .gdD ⟨by omega,by omega⟩<|.pure ?_) λv26 h26 => .bif (λh => .pure ⟨λe=>(by cases e),λe=>?_⟩) λh => .pure ?_
   ·show (x.1.getD n QW==(n:Int))=QY↔_;rw [beq_eq_false_iff_ne];exact ⟨λe=>⟨h,e⟩,λe=>e.2⟩
   ·have hc:=e.r n (by omega);have h0:v26=QY:=h26.2 (by
     cases hrd:(ev p (n:Int)).Reads with
     | true=>
      rw [if_pos hrd] at hc;exact ⟨h23.2 λe=>(by rw [hrd] at e;cases e),hc.2⟩
     | false=>
      rw [if_neg (by rw [hrd];decide)] at hc;exact ⟨h23.2 λ_=>hc,by rw [hc];omega⟩)
    rw [h0] at h
    cases h
   obtain ⟨g1,g2⟩:=h26.1 h;have g3:=h23.1 g1;have key:if (ev p (n:Int)).Reads=QX then x.1.getD n QW∈QO p (ev p (n:Int)).Loc/\x.1.getD n QW≠n else x.1.getD n QW = -1:=by
    by_cases hrd:(ev p (n:Int)).Reads=QX
    ·rw [if_pos hrd];exact ⟨hin hrd,g2⟩
    rw [if_neg hrd];exact g3 (by simpa using hrd)
   exact key
  by_cases ej:j=n
  ·subst ej;exact hn
  exact n3 j (by omega)
 refine QM.sum (PS:=λ_=>∀ l:Nat,l<3->(x.2.getD l QW).Perm (QO p (l:Int))/\(x.2.getD l QW).getD 0 QW=l) (PW:=λb=>b=QX↔Chk p x) ?_ λ_ hod => .pure ⟨λ_=>⟨hf,ho,hr,hod⟩,λ_=>rfl⟩;refine QM.loop (λz=>∃ n:Nat,n<=3/\z=(n:Int)/\∀ l:Nat,l<n->(x.2.getD l QW).Perm (QO p (l:Int))/\(x.2.getD l QW).getD 0 QW=l) (λz=>(3-z).toNat) ⟨0,by omega,rfl,λl hl=>absurd hl<|by omega⟩ λz ⟨n,n1,n2,n3⟩ => ?_;subst n2;unfold o6 J;simp only [tnn];refine .bifD (λhk => .gdD ⟨by omega,by omega⟩<|(xj hp _).bind λv38 h38=>?_) λhk => .pure λl hl=>n3 l (by omega);have h38:v38=QO p (n:Int):=h38;subst h38;obtain ⟨t,ht⟩:=Bl (p:=p) (l:=n) (by omega);have hwl:=JA (p:=p) (n:Int);refine (Ij (l:=x.2.getD n QW) (by have := hx _<|getD_in (show n<x.2.length by omega);omega) (Jw _) (by omega)<|by rw [ht];simp).bind λv39 h39 => .bif (λh => .pure ⟨λe=>(by cases e),λe=>?_⟩) λh => .gdI (by omega) (.pure ⟨⟨n+1,by omega,rfl,λl hl=>?_⟩,by omega⟩)
 ·obtain ⟨g1,g2⟩:=e.ords n (by omega);have : v39=QX:=h39.2 ⟨g1,by rw [g2,ht];rfl⟩;rw [this] at h
  cases h
 by_cases el:l=n
 ·subst el;obtain ⟨g1,g2⟩:=h39.1 (by simpa using h);exact ⟨g1,by rw [g2,ht];rfl⟩
 exact n3 l (by omega)
theorem JE:∀ {l k:LI},l.Perm k->l.Pairwise (· <= ·)->k.Pairwise (· <= ·)->l=k
 | [],k,h,_,_=>h.nil_eq
 | a::l,[],h,_,_=>absurd h.length_eq (by simp)
 | a::l,b::k,h,h1,h2=>by
  have hab:a=b:=by
   rcases UB.1 (h.subset<|Uh) with e | e
   ·exact e
   rcases UB.1 (h.symm.subset<|Uh) with e2 | e2
   ·exact e2.symm
   have := (UC.1 h1).1 b e2;have := (UC.1 h2).1 a e;omega
  subst hab;rw [JE (List.perm_cons a |>.1 h) (UC.1 h1).2 (UC.1 h2).2]
theorem JF {l w:LI} (hw:w.Pairwise (· <= ·)):KV l=w↔l.Perm w:=
 ⟨λe=>by rw [<- e];exact (qh l).symm,λh=>JE ((qh l).trans h) (FX l) hw⟩
theorem zg {l:LI} (h:l.length<=4000000):QM (bz l) (· = l):=by
 unfold bz
 cases l with
 | nil=>exact .of (v:=[]) (by show nilK QX (QZ ([]:LI)) (QZ [])=QZ [];unfold nilK;exact if_pos rfl) rfl
 | cons a l=>exact (QM.gd (aU (by simp at h ⊢;omega) rfl) (.pure<|by simp):QM (gd (bq (([]:LI).length+(a::l).length) 8)<|QZ (([]:LI)++a::l)) (· = a::l))
theorem LR (hp:PV p) (hv:bf (p.map λr=>r.map iQ)=QX) (hsz:p.length<=1048576/\total p<=1048576) (hx:∀ r∈x.2,r.length<=1048576):QM (bH p ⟨x.1,x.2⟩) λb=>b=QX↔Chk p x:=by
 have hel:=jT hp.vs;have hS:dA p=QZ (bf<|p.map λr=>r.map iQ):=tV<|decide_eq_true hsz;unfold bH;refine (QM.of (P:=(· = QX)) hS hv).bind λv1 h1=>?_;subst h1;refine .bif (λh=>by cases h) λ_=>(D5 hp.vs).bind λv3 h3=>?_;subst h3;refine QM.bind (P:=λb:Bool=>b=QY↔x.1.length=(evs p).length/\x.2.length=3) (.bif (λh => .pure ⟨λe=>(by cases e),λe=>?_⟩) λh => .pure ?_) λv4 h4 => .bif (λh => .pure ⟨λe=>(by cases e),λe=>?_⟩) λh=>?_
 ·have h : ¬ (x.1.length:Int)=((evs p).length:Int):=by simpa using h
  omega
 ·have h:(x.1.length:Int)=((evs p).length:Int):=by simpa using h
  show ((x.2.length:Int) != 3)=QY↔_;rw [bne_eq_false_iff_eq];exact ⟨λe=>⟨by omega,by omega⟩,λe=>by omega⟩
 ·have := h4.2 ⟨e.f,e.o⟩;rw [this] at h
  cases h
 obtain ⟨hf,ho⟩:=h4.1 h;refine QM.sum (PS:=λ_=>∀ n:Nat,n<(evs p).length->if (ev p (n:Int)).Reads=QX then x.1.getD n QW∈QO p (ev p (n:Int)).Loc/\x.1.getD n QW≠n else x.1.getD n QW = -1) (PW:=λb=>b=QX↔Chk p x) ?_ λ_ hr=>?_
 ·refine QM.loop (λz=>∃ n:Nat,n<=(evs p).length/\z=(n:Int)/\∀ j:Nat,j<n->if (ev p (j:Int)).Reads=QX then x.1.getD j QW∈QO p (ev p (j:Int)).Loc/\x.1.getD j QW≠j else x.1.getD j QW = -1) (λz=>(((evs p).length:Int)-z).toNat) ⟨0,by omega,rfl,λj hj=>absurd hj<|by omega⟩ λz ⟨n,n1,n2,n3⟩ => ?_;subst n2;unfold oU J;have en:(evs p).getD n QW=ev p (n:Int):=by unfold ev;rw [tnn]
  simp only [tnn,en];refine .bifD (λhk => .gdD ⟨by omega,hk⟩<|.gdD ⟨by omega,by omega⟩ ?_) λhk => .pure λm hm=>n3 m (by omega);have hl:=tj hp (n:=(n:Int)) (by omega) hk;refine QM.bind (P:=λb:Bool=>b=QY↔((ev p (n:Int)).Reads=QY->x.1.getD n QW = -1)) (.bif (λhrd => .pure ?_) λhrd => .pure ⟨λ_ e=>(by simp [e] at hrd),λ_=>rfl⟩) λs15 h15=>?_
  ·have hrd:(ev p (n:Int)).Reads=QY:=by simpa using hrd
   show (x.1.getD n QW != -1)=QY↔_;rw [bne_eq_false_iff_eq];exact ⟨λe _=>e,λe=>e hrd⟩
  refine QM.bind (P:=λb:Bool=>b=QY↔if (ev p (n:Int)).Reads=QX then x.1.getD n QW∈QO p (ev p (n:Int)).Loc/\x.1.getD n QW≠n else x.1.getD n QW = -1) ?_ λs17 h17 => .bif (λh => .pure ⟨λe=>(by cases e),λe=>?_⟩) λh => .gdI (by omega)<|.pure ⟨⟨n+1,by omega,rfl,λj hj=>?_⟩,by omega⟩
  ·refine .bif (λh => .pure ⟨λe=>(by cases e),λe=>?_⟩) λh=>?_
   ·have h0:s15=QY:=h15.2 λhrd=>by
     rw [if_neg (by rw [hrd];decide)] at e;exact e
    rw [h0] at h
    cases h
   refine QM.bind (P:=λb:Bool=>b=QY↔if (ev p (n:Int)).Reads=QX then x.1.getD n QW∈QO p (ev p (n:Int)).Loc/\x.1.getD n QW≠n else x.1.getD n QW = -1) (.bif (λhrd=>?_) λhrd => .pure ⟨λ_=>by rw [if_neg (by rw [hrd];decide)];exact h15.1 h hrd,λ_=>rfl⟩) λv hv => .pure hv;refine QM.bind (P:=λb:Bool=>b=QY↔x.1.getD n QW∈QO p (ev p (n:Int)).Loc/\x.1.getD n QW≠n) (.bif (λhe => .pure ⟨λe=>(by cases e),λe=>?_⟩) λhe=>(G7 hp _).bind λv23 h23=>(ET _ _ (by rw [h23];have := JA (p:=p) (ev p (n:Int)).Loc;omega)).bind λv24 h24 => .pure ?_) λv hv => .pure (by rw [if_pos hrd];exact hv)
   ·have he:x.1.getD n QW=n:=by simpa using he
    exact absurd he e.2
   have he:x.1.getD n QW≠n:=by simpa using he
   subst h23;rw [h24];show (!decide (x.1.getD n QW∈QO p (ev p (n:Int)).Loc))=QY↔_;rw [Bool.not_eq_false',dte];exact ⟨λe=>⟨e,he⟩,λe=>e.1⟩
  ·have h0:s17=QY:=h17.2<|e.r n (by omega);rw [h0] at h
   cases h
  by_cases ej:j=n
  ·subst ej;exact h17.1 h
  exact n3 j (by omega)
 refine QM.sum (PS:=λ_=>∀ l:Nat,l<3->(x.2.getD l QW).Perm (QO p (l:Int))/\(x.2.getD l QW).getD 0 QW=l) (PW:=λb=>b=QX↔Chk p x) ?_ λ_ hod => .pure ⟨λ_=>⟨hf,ho,hr,hod⟩,λ_=>rfl⟩;refine QM.loop (λz=>∃ n:Nat,n<=3/\z=(n:Int)/\∀ l:Nat,l<n->(x.2.getD l QW).Perm (QO p (l:Int))/\(x.2.getD l QW).getD 0 QW=l) (λz=>(3-z).toNat) ⟨0,by omega,rfl,λl hl=>absurd hl<|by omega⟩ λz ⟨n,n1,n2,n3⟩ => ?_;subst n2;unfold oZ J;simp only [tnn];refine .bifD (λhk => .gdD ⟨by omega,by omega⟩ ?_) λhk => .pure λl hl=>n3 l (by omega);have hrl:=hx _<|getD_in (show n<x.2.length by omega);refine (zg (l:=x.2.getD n QW)<|by omega).bind λv34 h34=>?_;subst h34;refine QM.bind (P:=(· = KV (x.2.getD n QW))) (.gdD (by omega)<|.pure rfl) λv38 h38=>(G7 hp _).bind λv39 h39=>?_;subst h38 h39;have hsl:(KV<|x.2.getD n QW).length=(x.2.getD n QW).length:=(qh _).length_eq;refine (Ib<|by omega).bind λv40 h40=>?_;subst h40;obtain ⟨t,ht⟩:=Bl (p:=p) (l:=n) (by omega);refine QM.bind (P:=λb:Bool=>b=QY↔(x.2.getD n QW).Perm (QO p (n:Int))/\(x.2.getD n QW).getD 0 QW=n) (.bif (λh => .pure ⟨λe=>(by cases e),λe=>?_⟩) λh=>?_) λs41 h41 => .bif (λh => .pure ⟨λe=>(by cases e),λe=>?_⟩) λh => .gdI (by omega)<|.pure ⟨⟨n+1,by omega,rfl,λl hl=>?_⟩,by omega⟩
 ·rw [decide_eq_true ((JF<|JB _).2 e.1)] at h
  cases h
 ·have hp2:(x.2.getD n QW).Perm (QO p (n:Int)):=(JF<|JB _).1 (by simpa using h);have hpos:0<(x.2.getD n QW).length:=by rw [hp2.length_eq,ht];simp
  refine .gdD ⟨by omega,by show (0:Int)<((x.2.getD n QW).length:Int);omega⟩ (.pure ?_);show ((x.2.getD n QW).getD 0 QW != (n:Int))=QY↔_;rw [bne_eq_false_iff_eq];exact ⟨λe=>⟨hp2,e⟩,λe=>e.2⟩
 ·have h0:s41=QY:=h41.2<|e.ords n (by omega);rw [h0] at h
  cases h
 by_cases el:l=n
 ·subst el;exact h41.1 h
 exact n3 l (by omega)
end
section
variable {N:Nat} {f g:Int->Int->Bool}
theorem Ga (i:Nat) (h:Int->Int->Bool) (hi:∀ j k:Nat,j<N->k<N->h j k=if j=i then g i k else f j k):(QQ N f).set i ((QN (λk=>g (i:Int) (k:Int)) N:Nat):Int)=QQ N h:=by
 unfold QQ;rw [D8];refine f9 λj hj=>?_
 by_cases e:j=i
 ·subst e;rw [if_pos rfl];exact congrArg (λn:Nat=>(n:Int))<|cK λk hk=>((hi j k hj hk).trans<|if_pos rfl).symm
 rw [if_neg e];exact congrArg (λn:Nat=>(n:Int))<|cK λk hk=>((hi j k hj hk).trans<|if_neg e).symm
theorem JG (hN:N<=16):QM (jk<|QQ N f) (· = QQ N λi k=>f k i):=by
 unfold jk;refine (mZ hN).bind λv hv=>?_;subst hv;refine .bif (λh=>by cases h) λ_=>?_;rw [aS];exact QM.bind (P:=(· = QQ N λi k=>f k i)) (E5 (by omega) (is:=λi k=>kS i k<|QQ N f) λi k hi hk=>(kY (by omega) hk hi).bind λv hv => .pure hv) λv hv => .pure hv
def CL (f g:Int->Int->Bool) (M:Nat) (i k:Int):Bool:=(TV M).any λm=>f i (m:Int)&&g (m:Int) k
theorem yn (M:Nat) (i k:Int):CL f g (M+1) i k=(CL f g M i k||(f i (M:Int)&&g (M:Int) k)):=by
 unfold CL;rw [Ue,List.any_append];simp
theorem JH (hN:N<=16):QM (jl (QQ N f)<|QQ N g) (· = QQ N (CL f g N)):=by
 unfold jl;refine (Jz hN).bind λv hv=>?_;subst hv;refine .bif (λh=>by cases h) λ_=>?_;refine .gdD ⟨by omega,by omega,by rw [aS];omega,by rw [aS];omega⟩ (QM.bind (P:=(· = QQ N (CL f g N))) ?_ λv hv => .pure hv);have e0:Uo ((QQ N f).length:Int).toNat (QW:Int)=QQ N λi k=>Q3 (i<(0:Nat))&&CL f g N i k:=by
  rw [aS,tnn,Bn];refine f9 λi hi=>?_;rw [cK (g:=λ_=>QY) λk hk=>by show (Q3 ((i:Int)<((0:Nat):Int))&&_)=QY;rw [decide_eq_false (by omega)];rfl,Bq]
  rfl
 rw [e0];refine QM.loop (λz=>∃ i:Nat,i<=N/\z=(QQ N λj k=>Q3 (j<(i:Int))&&CL f g N j k,(i:Int))) (λz=>((N:Int)-z.2).toNat) ⟨0,by omega,rfl⟩ λz ⟨i,h1,h2⟩ => ?_;subst h2;unfold o7;simp only [aS];refine .bifD (λhk=>?_) λhk => .pure ?_
 ·refine QM.bind (P:=(· = QQ N (λj k=>Q3 (j<((i+1:Nat):Int))&&CL f g N j k))) ?_ λv hv => .gdI (by omega)<|.pure ⟨⟨i+1,by omega,by rw [hv];rfl⟩,by simp only [];omega⟩;refine QM.loop (λz=>∃ m:Nat,m<=N/\z=(QQ N (λj k=>if j=(i:Int) then CL f g m j k else Q3 (j<(i:Int))&&CL f g N j k),(m:Int))) (λz=>((N:Int)-z.2).toNat) ⟨0,by omega,congrArg (λl=>(l,(0:Int)))<|kv λj k hj hk=>?_⟩ λz ⟨m,m1,m2⟩ => ?_
  ·by_cases e:(j:Int)=(i:Int)
   ·rw [if_pos e,decide_eq_false (by omega)];rfl
   rw [if_neg e]
  subst m2;unfold nT J;simp only [aS];refine .bifD (λhkk=>?_) λhkk => .pure<|kv λj k hj hk=>?_
  ·refine QM.bind (P:=(· = QQ N (λj k=>if j=(i:Int) then CL f g (m+1) j k else Q3 (j<(i:Int))&&CL f g N j k))) ?_ λv hv => .gdI (by omega)<|.pure ⟨⟨m+1,by omega,by rw [hv];rfl⟩,by simp only [];omega⟩;refine (kY (by omega) (i:=i) (k:=m) (by omega)<|by omega).bind λv hv => .bif (λhb=>?_) λhb => .pure<|kv λj k hj hk=>?_
   ·simp only [tnn];refine .gdD ⟨by omega,by omega⟩<|.gdD ⟨by omega,by omega⟩<|.pure ?_;rw [iA (by omega),iA (by omega),rU (aX<|by omega) (aX<|by omega),Dm];refine Ga (g:=λj k=>(if j=(i:Int) then CL f g m j k else Q3 (j<(i:Int))&&CL f g N j k)||g (m:Int) k) i _ λj k hj hk=>?_;rw [hv] at hb
    by_cases e:j=i
    ·subst e;rw [if_pos rfl,if_pos rfl,if_pos rfl,yn,hb,Uu]
    rw [if_neg (by omega),if_neg (by omega),if_neg (by omega)]
   rw [hv] at hb
   by_cases e:(j:Int)=(i:Int)
   ·rw [if_pos e,if_pos e,yn,e,hb];simp
   rw [if_neg e,if_neg e]
  have : m=N:=by omega
  subst this
  by_cases e:(j:Int)=(i:Int)
  ·rw [if_pos e,decide_eq_true (by omega)];rfl
  rw [if_neg e]
  congr 1
  exact decide_eq_decide.2 (by omega)
 have : i=N:=by omega
 subst this;exact kv λj k hj hk=>by rw [decide_eq_true (by omega)];rfl
def QR (f:Int->Int->Bool):Nat->Int->Int->Bool
 | 0=>f
 | m+1=>λi k=>QR f m i k||(QR f m i (m:Int)&&QR f m (m:Int) k)
theorem JI (m:Nat) (k:Int):QR f (m+1) (m:Int) k=QR f m (m:Int) k:=by
 show (QR f m (m:Int) k||(QR f m (m:Int) (m:Int)&&QR f m (m:Int) k))=_
 cases QR f m (m:Int) k <;> simp
theorem K8 (hN:N<=16) {m:Nat} (hk:m<N):QM (aB (iS (QQ N<|QR f m,(m:Int))) (QQ N<|QR f m,(0:Int))) (· = QQ N (QR f<|m+1)):=by
 refine QM.loop (λz=>∃ i:Nat,i<=N/\z=(QQ N (λj k=>if j<(i:Int) then QR f (m+1) j k else QR f m j k),(i:Int))) (λz=>((N:Int)-z.2).toNat) ⟨0,by omega,congrArg (λl=>(l,(0:Int)))<|kv (g:=λj k=>if j<((0:Nat):Int) then QR f (m+1) j k else QR f m j k) λj k _ _=>(if_neg<|by omega).symm⟩ λz ⟨i,i1,i2⟩ => ?_;subst i2;unfold iS J;simp only [aS];refine .bifD (λhkk=>?_) λhkk => .pure (kv λj k hj _=>by rw [if_pos (by omega)]);refine QM.bind (P:=(· = QQ N (λj k=>if j<((i+1:Nat):Int) then QR f (m+1) j k else QR f m j k))) ?_ λv hv => .gdI (by omega)<|.pure ⟨⟨i+1,by omega,by rw [hv];rfl⟩,by simp only [];omega⟩;refine (kY (by omega) (i:=i) (k:=m) (by omega)<|by omega).bind λv hv=>?_;rw [if_neg (by omega)] at hv;refine .bif (λhb=>?_) λhb => .pure<|kv λj k hj hk=>?_
 ·simp only [tnn];refine .gdD ⟨by omega,by omega⟩<|.gdD ⟨by omega,by omega⟩<|.pure ?_;rw [iA (by omega),iA (by omega),rU (aX<|by omega) (aX<|by omega),Dm];have e1:QN (λj=>(if (i:Int)<(i:Int) then QR f (m+1) (i:Int) (j:Int) else QR f m (i:Int) (j:Int))||(if (m:Int)<(i:Int) then QR f (m+1) (m:Int) (j:Int) else QR f m (m:Int) (j:Int))) N=QN (λk=>QR f (m+1) (i:Int) (k:Int)) N:=cK λk hk=>by
   rw [if_neg (by omega),JI];rw [hv] at hb;show _=(QR f m (i:Int) (k:Int)||(QR f m (i:Int) (m:Int)&&QR f m (m:Int) (k:Int)));rw [hb];simp
  rw [e1];refine Ga (g:=QR f<|m+1) i _ λj k hj hk=>?_
  by_cases e:j=i
  ·subst e;rw [if_pos (by omega),if_pos rfl]
  rw [if_neg e]
  by_cases e2:(j:Int)<(i:Int)
  ·rw [if_pos e2,if_pos (by omega)]
  rw [if_neg e2,if_neg (by omega)]
 by_cases e:(j:Int)<(i:Int)
 ·rw [if_pos e,if_pos (by omega)]
 rw [if_neg e]
 by_cases e2:j=i
 ·subst e2;rw [if_pos (by omega)];rw [hv] at hb;show _=(QR f m (j:Int) (k:Int)||(QR f m (j:Int) (m:Int)&&QR f m (m:Int) (k:Int)));rw [hb];simp
 rw [if_neg (by omega)]
theorem E9 (hN:N<=16):QM (fQ<|QQ N f) (· = QQ N (QR f N)):=by
 unfold fQ;refine (mZ hN).bind λv hv=>?_;subst hv;refine .bif (λh=>by cases h) λ_=>(zg<|by rw [aS];omega).bind λv3 h3=>?_;subst h3;refine QM.bind (P:=(· = QQ N (QR f N))) ?_ λv hv => .pure hv;refine QM.loop (λz=>∃ m:Nat,m<=N/\z=(QQ N<|QR f m,(m:Int))) (λz=>((N:Int)-z.2).toNat) ⟨0,by omega,rfl⟩ λz ⟨m,h1,h2⟩ => ?_;subst h2;unfold nS;simp only [aS];refine .bifD (λhk=>?_) λhk => .pure ?_
 ·exact QM.bind (P:=(· = QQ N (QR f<|m+1))) (K8 hN<|by omega) λv hv => .gdI (by omega)<|.pure ⟨⟨m+1,by omega,by rw [hv];rfl⟩,by simp only [];omega⟩
 have : m=N:=by omega
 subst this
 rfl
def wT (N:Nat) (f:Int->Int->Bool):Bool:=(TV N).all λi => !f (i:Int) (i:Int)
theorem Fa:wT N f=QX↔∀ i:Nat,i<N->f i i=QY:=by
 unfold wT;rw [List.all_eq_true];exact ⟨λh i hi=>by simpa using h i (Ua.2 hi),λh i hi=>by simp [h i (Ua.1 hi)]⟩
theorem Gb (hN:N<=16):QM (da<|QQ N f) (· = wT N f):=by
 unfold da;refine QM.sum (PS:=λ_=>∀ i:Nat,i<N->f i i=QY) (PW:=(· = wT N f)) ?_ λ_ h => .pure (Fa.2 h).symm;refine QM.loop (λz=>∃ i:Nat,i<=N/\z=(i:Int)/\∀ j:Nat,j<i->f j j=QY) (λz=>((N:Int)-z).toNat) ⟨0,by omega,rfl,λj hj=>absurd hj<|by omega⟩ λz ⟨i,h1,h2,h3⟩ => ?_;subst h2;unfold lM;simp only [aS];refine .bifD (λhk=>(kY (by omega) (i:=i) (k:=i) (by omega)<|by omega).bind λv hv => .bif (λhb => .pure ?_) λhb => .gdI (by omega)<|.pure ⟨⟨i+1,by omega,rfl,λj hj=>?_⟩,by omega⟩) λhk => .pure λj hj=>h3 j (by omega)
 ·show QY=_
  symm
  rw [Bool.eq_false_iff];intro hl;have := Fa.1 hl i (by omega);rw [<- hv,hb] at this
  cases this
 by_cases e:j=i
 ·subst e;rw [<- hv];exact hb
 exact h3 j (by omega)
theorem JJ (hN:N<=16):QM (jm<|QQ N f) (· = wT N (QR f N)):=by
 unfold jm;refine (mZ hN).bind λv hv=>?_;subst hv;exact QM.bind (P:=(· = wT N (QR f N))) (.bif (λ_=>(E9 hN).bind λv hv=>by subst hv;exact (Gb hN).bind λw hw => .pure hw) λh=>by cases h) λv hv => .pure hv
end
def Gc (base:BA->Int->Int->Bool) (N:Nat) (op:Int) (nm:BA) (rs:List<|Int->Int->Bool):Int->Int->Bool:=
 if op=1 then base nm else
 let a:=rs.getD 0 λ_ _=>QY;let b:=rs.getD 1 λ_ _=>QY
 if op=6 then λi k=>a k i else if op=7 then QR a N else
 if op=2 then λi k=>a i k||b i k else if op=3 then λi k=>a i k&&b i k else if op=4 then λi k=>a i k && !b i k else CL a b N
mutual
def z8 (base:BA->Int->Int->Bool) (N:Nat):ZTE->Int->Int->Bool
 | .mk op nm ks=>Gc base N op nm (ww base N ks)
def ww (base:BA->Int->Int->Bool) (N:Nat):List ZTE->List (Int->Int->Bool)
 | []=>[]
 | t::l=>z8 base N t::ww base N l
end
mutual
def VT:ZTE->Prop
 | .mk op nm ks=>(op=1/\nm∈Bh)\/((op=6\/op=7)/\ks.length=1/\VL ks)\/((op=2\/op=3\/op=4\/op=5)/\ks.length=2/\VL ks)
def VL:List ZTE->Prop
 | []=>True
 | t::l=>VT t/\VL l
end
theorem LU {α:Type} {l:List α} (h:l.length=1):∃ a,l=[a]:=by
 match l,h with
 | [a],_=>exact ⟨a,rfl⟩
theorem LV {α:Type} {l:List α} (h:l.length=2):∃ a b,l=[a,b]:=by
 match l,h with
 | [a,b],_=>exact ⟨a,b,rfl⟩
section
variable {p:List (List QH)} {x:QI} {N:Nat} {base:BA->Int->Int->Bool}
def EvT (p:List<|List QH) (x:QI) (N:Nat) (base:BA->Int->Int->Bool) (d:Nat) (t:ZTE):Prop:=∀ m,d<m->QM (bT m p x t.out) (· = QQ N (z8 base N t))
mutual
theorem Oz (hN:N<=16) (hb:∀ nm∈Bh,QM (gG p x nm) (· = QQ N (base nm))):∀ t:ZTE,VT t->∃ d,EvT p x N base d t
 | .mk op nm ks,h=>by
  rw [VT] at h;rcases h with ⟨h1,h2⟩ | ⟨h1,h2,h3⟩ | ⟨h1,h2,h3⟩
  ·refine ⟨0,λm hm=>?_⟩;obtain ⟨m,rfl⟩:∃ q,m=q+1:=⟨m-1,by omega⟩;show QM (bS (bT m) p x ⟨op,nm,ks⟩) _;unfold bS J;simp only [];subst h1;refine .bif (λ_=>(hb nm h2).bind λv hv => .pure ?_) λh=>absurd h (by decide);rw [hv,z8,Gc,if_pos rfl]
  ·obtain ⟨d,hd⟩:=M3 hN hb ks h3;obtain ⟨a,rfl⟩:=LU h2;refine ⟨d+1,λm hm=>?_⟩;obtain ⟨m,rfl⟩:∃ q,m=q+1:=⟨m-1,by omega⟩;have ha:=hd a (by simp) m (by omega);show QM (bS (bT m) p x ⟨op,nm,[a]⟩) _;unfold bS J;simp only [];refine .bif (λh=>absurd (eq_of_beq h)<|by omega) λ_ => .gdD ⟨by decide,by simp⟩<|ha.bind λv hv=>?_;subst hv;rcases h1 with rfl | rfl
   ·refine .bif (λ_=>(JG hN).bind λv hv => .pure ?_) λh=>absurd h (by decide);rw [hv,z8,ww,ww,Gc,if_neg (by decide),if_pos rfl]
    rfl
   refine .bif (λh=>absurd h<|by decide) λ_ => .bif (λ_=>(E9 hN).bind λv hv => .pure ?_) λh=>absurd h (by decide);rw [hv,z8,ww,ww,Gc,if_neg (by decide),if_neg (by decide),if_pos rfl]
   rfl
  obtain ⟨d,hd⟩:=M3 hN hb ks h3;obtain ⟨a,b,rfl⟩:=LV h2;refine ⟨d+1,λm hm=>?_⟩;obtain ⟨m,rfl⟩:∃ q,m=q+1:=⟨m-1,by omega⟩;have ha:=hd a (by simp) m (by omega);have hbb:=hd b (by simp) m (by omega);show QM (bS (bT m) p x ⟨op,nm,[a,b]⟩) _;unfold bS J;simp only [];refine .bif (λh=>absurd (eq_of_beq h)<|by omega) λ_ => .gdD ⟨by decide,by simp⟩<|ha.bind λv hv=>?_;subst hv;refine .bif (λh=>absurd (eq_of_beq h)<|by omega) λ_ => .bif (λh=>absurd (eq_of_beq h)<|by omega) λ_ => .gdD ⟨by decide,by simp⟩<|hbb.bind λw hw=>?_;subst hw;rcases h1 with rfl | rfl | rfl | rfl
  ·refine .bif (λ_=>(MZ hN).bind λv hv => .pure ?_) λh=>absurd h (by decide);rw [hv,z8,ww,ww,ww,Gc,if_neg (by decide),if_neg (by decide),if_neg (by decide),if_pos rfl]
   rfl
  ·refine .bif (λh=>absurd h<|by decide) λ_ => .bif (λ_=>(Ox hN).bind λv hv => .pure ?_) λh=>absurd h (by decide);rw [hv,z8,ww,ww,ww,Gc,if_neg (by decide),if_neg (by decide),if_neg (by decide),if_neg (by decide),if_pos rfl]
   rfl
  ·refine .bif (λh=>absurd h<|by decide) λ_ => .bif (λh=>absurd h<|by decide) λ_ => .bif (λ_=>(M0 hN).bind λv hv => .pure ?_) λh=>absurd h (by decide);rw [hv,z8,ww,ww,ww,Gc,if_neg (by decide),if_neg (by decide),if_neg (by decide),if_neg (by decide),if_neg (by decide),if_pos rfl]
   rfl
  refine .bif (λh=>absurd h<|by decide) λ_ => .bif (λh=>absurd h<|by decide) λ_ => .bif (λh=>absurd h<|by decide) λ_=>(JH hN).bind λv hv => .pure ?_;rw [hv,z8,ww,ww,ww,Gc,if_neg (by decide),if_neg (by decide),if_neg (by decide),if_neg (by decide),if_neg (by decide),if_neg (by decide)]
  rfl
theorem M3 (hN:N<=16) (hb:∀ nm∈Bh,QM (gG p x nm) (· = QQ N (base nm))):∀ l:List ZTE,VL l->∃ d,∀ t∈l,EvT p x N base d t
 | [],_=>⟨0,λt h=>by cases h⟩
 | t::l,h=>by
  rw [VL] at h;obtain ⟨d1,h1⟩:=Oz hN hb t h.1;obtain ⟨d2,h2⟩:=M3 hN hb l h.2;refine ⟨max d1 d2,λu hu=>?_⟩;rcases UB.1 hu with rfl | hu
  ·exact λm hm=>h1 m (by omega)
  exact λm hm=>h2 u hu m (by omega)
end
theorem OA (hN:N<=16) (hb:∀ nm∈Bh,QM (gG p x nm) (· = QQ N (base nm))) {t:ZTE} (h:VT t):QM (rP p x t.out) (· = QQ N (z8 base N t)):=by
 obtain ⟨d,hd⟩:=Oz hN hb t h;exact pQ d hd
end
end
end Go.Proofs.YtabfkkjdfhbngaaGreatDoor
