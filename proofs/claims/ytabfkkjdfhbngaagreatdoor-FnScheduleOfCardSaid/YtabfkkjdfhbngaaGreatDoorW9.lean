/- Texts joined. No conditions. -/
import Derived.Test.YtabfkkjdfhbngaaGreatDoorW8
namespace Go.Proofs.YtabfkkjdfhbngaaGreatDoor
noncomputable section
open _root_.Inhabited renaming default -> Rh
open _root_.Bool renaming true -> Ri
open _root_.Bool renaming false -> Rj
open _root_.Option renaming some -> Rk
open _root_.Option renaming none -> Rl
open _root_.Decidable renaming decide -> Rm
open _root_.Option renaming bind -> VU, bind_eq_some_iff -> WE
open _root_.List renaming range -> VV, mem_cons -> V2, mem_singleton -> V3, nil_append -> V4, replicate -> V5, take_length -> V6, mem_cons_self -> V7, getElem_of_mem -> V8, mem_map -> V9, length_take -> We, length_range -> Wi, pairwise_cons -> Wj, filter_append -> Wm, take_of_length_le -> Wn, length_filter_le -> Wo, length_nil -> Wq, append_assoc -> Ws, length_drop -> Wt, mem_filter -> Wu, mem_range -> Wv, idxOf_lt_length_of_mem -> Ww, mem_cons_of_mem -> Wx, drop_eq_getElem_cons -> Wy, drop_eq_nil_of_le -> Wz
open _root_.Nat renaming le_trans -> VW, le_mul_of_pos_left -> Wd, zero_le -> Wh, le_mul_of_pos_right -> Wp, eq_of_testBit_eq -> WA
open _root_.BitVec renaming ofInt -> VX, ofInt_natCast -> WB, toNat_ofNat -> WC
open _root_.Bool renaming true_and -> VY
open _root_.Int renaming toNat_of_nonneg -> VZ
open Go.RowKit
set_option maxRecDepth 100000
section
variable {p:List (List QV)}
def chE (p:List<|List QV) (i:Nat):LI:=if (ev p (i:Int)).Reads=Ri then (Q6 p (ev p (i:Int)).Loc).filter (λn => !decide (n=(i:Int))) else [-1]
def chF (p:List<|List QV):LL:=(VV (evs p).length).map<|chE p
def chL (p:List<|List QV) (l:Nat):LL:=(prm (Q6 p (l:Int)).tail.length (Q6 p (l:Int)).tail).map ((l:Int) :: ·)
def chO (p:List<|List QV):List (LL):=[chL p 0,chL p 1,chL p 2]
def Ce (p:List<|List QV):List QW:=(wW<|chF p).flatMap λf=>(wW<|chO p).map λo=>⟨f,o⟩
abbrev Q7 (p:List<|List QV):List (List Ins):=p.map λr=>r.map jl
theorem E5 (q:QX->Bool) (f:Ins->Bool) (h:∀ t k x,x.Op≠4->q ⟨t,k,x.Loc,rdX x,wrX x⟩=f (jl x)) (h4:∀ x:QV,x.Op=4->f (jl x)=Rj) (t:Nat) (row:List QV):∀ r:Nat,r<=row.length->((evR t row r).filter q).length=((row.take r).map jl).countP f
 | 0,_=>by simp [evR]
 | r+1,hr=>by
  have ih:=E5 q f h h4 t row r (by omega);have e:row.getD r Rh=row[r]:=by rw [gdq,geq (by omega)];rfl
  rw [evR,Wm,lla,ih,<- List.take_append_getElem (show r<row.length by omega),List.map_append,List.countP_append,e]
  congr 1
  unfold evX
  grind
theorem Cf (q:QX->Bool) (f:Ins->Bool) (h:∀ (t k:Int) x,x.Op≠4->q ⟨t,k,x.Loc,rdX x,wrX x⟩=f (jl x)) (h4:∀ x:QV,x.Op=4->f (jl x)=Rj):((evs p).filter q).length=(ev0.filter q).length+ui f (Q7 p):=by
 have key:∀ n:Nat,n<=p.length->((evP p n).filter q).length=(ev0.filter q).length+ui f ((Q7 p).take n):=λn=>by
  induction n with
  | zero=>intro _;simp [evP,ui]
  | succ n ih=>
   intro hn;have e:p.getD n Rh=p[n]:=by rw [gdq,geq (by omega)];rfl
   have hn':n<(Q7 p).length:=by rw [llm];omega
   rw [evP,Wm,lla,ih (by omega),E5 q f (λt k=>h t k) h4 n _ _ (Nat.le_refl _),fI f (Q7 p) n hn',V6,Nat.add_assoc,e]
   simp_all
 have := key p.length<|Nat.le_refl _;rw [show (Q7 p).take p.length=Q7 p from Wn (by simp)] at this;exact this
theorem Gd {l:Nat} (hl:l<3):(Q6 p (l:Int)).length=cw (Q7 p) (l:Int)+1:=by
 have h1:(Q6 p (l:Int)).length=((evs p).filter λe=>e.bK&&Rm (e.Loc=(l:Int))).length:=by
  rw [<- Ae (λe:QX=>e.bK&&Rm (e.Loc=(l:Int))) Rh (evs p)];unfold Q6;rw [List.filter_map,llm]
  congr 2
 rw [h1,Cf _ (bI (l:Int) wrB) (λt k x ho=>?_) (λx ho=>?_)]
 ·have : (ev0.filter λe=>e.bK&&Rm (e.Loc=(l:Int))).length=1:=by
   match l,hl with
   | 0,_=>rfl
   | 1,_=>rfl
   | 2,_=>rfl
  rw [this];unfold cw;omega
 ·unfold bI jl wrB wrO wrX
  grind
 unfold bI jl wrB wrO
 grind
theorem Gf {l:Nat} (hl:l<3):((evs p).filter λe=>e.Reads&&Rm (e.Loc=(l:Int))).length=cr (Q7 p) (l:Int):=by
 rw [Cf _ (bI (l:Int) rdB) (λt k x ho=>?_) (λx ho=>?_)]
 ·have : (ev0.filter λe=>e.Reads&&Rm (e.Loc=(l:Int))).length=0:=by
   match l,hl with
   | 0,_=>rfl
   | 1,_=>rfl
   | 2,_=>rfl
  rw [this];unfold cr;omega
 ·unfold bI jl rdB rdO rdX
  grind
 unfold bI jl rdB rdO
 grind
def gE (w:Nat->Nat) (e:QX):Nat:=if e.Reads=Ri then w e.Loc.toNat+1 else 1
theorem NA (w:Nat->Nat) (L:List QX) (h:∀ e∈L,e.Reads=Ri->0<=e.Loc/\e.Loc<=2):oz (L.map<|gE w)=(w 0+1) ^ (L.filter λe=>e.Reads&&Rm (e.Loc=((0:Nat):Int))).length*(w 1+1) ^ (L.filter λe=>e.Reads&&Rm (e.Loc=((1:Nat):Int))).length*(w 2+1) ^ (L.filter λe=>e.Reads&&Rm (e.Loc=((2:Nat):Int))).length:=by
 induction L with
 | nil=>rfl
 | cons e L ih=>
  have ih:=ih λa ha=>h a<|Wx _ ha;show gE w e*oz (L.map<|gE w)=_;rw [ih];unfold gE
  by_cases hr:e.Reads=Ri
  ·obtain ⟨h0,h2⟩:=h e V7 hr;have hc:e.Loc=0\/e.Loc=1\/e.Loc=2:=by omega
   rcases hc with hc | hc | hc <;> simp [hr,hc,Nat.pow_succ] <;> ac_rfl
  simp_all
theorem NB (hp:PV p) {e:QX} (h:e∈evs p):0<=e.Loc/\e.Loc<=2:=by
 obtain ⟨i,hi,rfl⟩:=V8 h;have := ny hp (n:=(i:Int)) (by omega) (by omega);unfold ev at this
 simp_all
theorem NC (hp:PV p) {i:Nat} (hi:i<(evs p).length):(chE p i).length<=gE (λl=>cw (Q7 p) (l:Int)) ((evs p).getD i Rh):=by
 have he:(evs p).getD i Rh=ev p (i:Int):=by unfold ev;rw [tnn]
 have hl:=ny hp (n:=(i:Int)) (by omega) (by omega);rw [he];unfold chE gE
 split
 ·have := Gd (p:=p) (l:=(ev p (i:Int)).Loc.toNat) (by omega);rw [VZ hl.1] at this;have h2:=Wo (λn => !decide (n=(i:Int)))<|Q6 p (ev p (i:Int)).Loc;simp only [VZ hl.1];omega
 simp_all
theorem vA {l:Nat} (hl:l<3):(chL p l).length=Q3 (cw (Q7 p) (l:Int)):=by
 unfold chL;rw [llm,Cc _ _ rfl,List.length_tail,Gd hl,Nat.add_sub_cancel]
theorem LK (hv:bq (Q7 p)=Ri):oz ((evs p).map<|gE λl=>cw (Q7 p) (l:Int))*(Q3 (cw (Q7 p) 0)*Q3 (cw (Q7 p) 1)*Q3 (cw (Q7 p) 2))<=3000:=by
 have hp:=PV.of hv;simp only [bq,bae,dte] at hv;have h3:=hv.2;rw [NA _ _ λe he _=>NB hp he,Gf (by omega),Gf (by omega),Gf (by omega)];refine VW (Nat.le_of_eq ?_) h3;show _=1*OM (Q7 p) 0*OM (Q7 p) 1*OM (Q7 p) 2;unfold OM
 grind
structure Few (p:List (List QV)):Prop where
 f:∀ k,(wW<|(chF p).take k).length<=3000/\(wW<|(chF p).drop k).length<=3000
 o:∀ k,(wW<|(chO p).take k).length<=3000/\(wW<|(chO p).drop k).length<=3000
 all:(wW<|chF p).length*(wW<|chO p).length<=3000
 w:∀ l:Nat,l<3->(Q6 p (l:Int)).length<=8/\(chL p l).length<=3000
theorem few (hv:bq (Q7 p)=Ri):Few p:=by
 have hp:=PV.of hv;have hE:=LK hv;have hgs:∀ a∈(evs p).map (gE λl=>cw (Q7 p) (l:Int)),1<=a:=λa ha=>by
  obtain ⟨e,_,rfl⟩:=V9.1 ha;unfold gE
  grind
 have f0:=DW<|cw (Q7 p) 0;have f1:=DW<|cw (Q7 p) 1;have f2:=DW<|cw (Q7 p) 2;have g0:=yz hgs;have hfs:∀ a∈(chO p).map List.length,1<=a:=λa ha=>by
  simp only [chO,List.map_cons,List.map_nil,V2,List.not_mem_nil,or_false] at ha;rcases ha with rfl | rfl | rfl
  ·rw [vA (by omega)];omega
  ·rw [vA (by omega)];omega
  rw [vA (by omega)];omega
 have hO:oz ((chO p).map List.length)=Q3 (cw (Q7 p) 0)*Q3 (cw (Q7 p) 1)*Q3 (cw (Q7 p) 2):=by
  show (chL p 0).length*((chL p 1).length*((chL p 2).length*1))=_;rw [vA (by omega),vA (by omega),vA (by omega),Nat.mul_one,Nat.mul_assoc]
  rfl
 have hOpos:=yz hfs;have hA:oz ((evs p).map<|gE λl=>cw (Q7 p) (l:Int))<=3000:=VW (Wp _<|by omega) hE;have hB:oz ((chO p).map List.length)<=3000:=by rw [hO];exact VW (Wd _ g0) hE
 have hmono:∀ k,oz (((chF p).map List.length).take k)<=oz (((evs p).map<|gE λl=>cw (Q7 p) (l:Int)).take k)/\oz (((chF p).map List.length).drop k)<=oz (((evs p).map<|gE λl=>cw (Q7 p) (l:Int)).drop k):=λk=>by
  have hlen:(chF p).length=(evs p).length:=by simp [chF]
  have hget:∀ i:Nat,i<(evs p).length->((chF p).map List.length).getD i 0<=((evs p).map<|gE λl=>cw (Q7 p) (l:Int)).getD i 0:=λi hi=>by
   have := NC hp hi;rw [gdq,geq hi] at this;rw [gdq,gdq,List.getElem?_map,List.getElem?_map,geq hi];unfold chF
   simp_all
  constructor
  ·refine Dr (by simp [hlen]) λi hi=>?_
   grind
  refine Dr (by simp [hlen]) λi hi=>?_
  grind
 refine ⟨λk=>⟨?_,?_⟩,λk=>⟨?_,?_⟩,?_,λl hl=>?_⟩
 ·rw [uo,List.map_take];exact VW (hmono k).1<|VW (Dt hgs k) hA
 ·rw [uo,List.map_drop];exact VW (hmono k).2<|VW (Du hgs k) hA
 ·rw [uo,List.map_take];exact VW (Dt hfs k) hB
 ·rw [uo,List.map_drop];exact VW (Du hfs k) hB
 ·rw [uo,uo,hO];have := (hmono (evs p).length).1;rw [Wn (by simp [chF]),Wn (by simp)] at this;exact VW (Nat.mul_le_mul_right _ this) hE
 have hf:Q3 (cw (Q7 p) (l:Int))<=3000:=by
  rw [<- vA hl];have h0:(chL p l).length∈(chO p).map List.length:=by
   match l,hl with
   | 0,_=>simp [chO]
   | 1,_=>simp [chO]
   | 2,_=>simp [chO]
  refine VW ?_ hB
  match l,hl with
  | 0,_=>exact Wp _ (Nat.mul_pos (hfs _<|by simp [chO])<|Nat.mul_pos (hfs _<|by simp [chO]) Nat.one_pos)
  | 1,_=>
   refine VW ?_<|Wd _<|hfs _ (by simp [chO]);exact Wp _<|Nat.mul_pos (hfs _<|by simp [chO]) Nat.one_pos
  | 2,_=>
   refine VW ?_<|Wd _<|hfs _ (by simp [chO]);refine VW ?_<|Wd _<|hfs _ (by simp [chO])
   simp_all
 refine ⟨?_,by rw [vA hl];exact hf⟩;rw [Gd hl];rcases Nat.lt_or_ge (cw (Q7 p) (l:Int)) 7 with h | h
 ·omega
 have := Hl h;have h7:Q3 7=5040:=by decide
 omega
end
section
variable {p:List (List QV)}
theorem Hm (hp:PV p) (l:Int):Q4 (iL (evs p) l) (· = Q6 p l):=by
 have hel:=jX hp.vs;unfold iL;refine Q4.bind (P:=(· = Q6 p l)) ?_ λv hv => .pure hv;refine Q4.loop (λz=>∃ n:Nat,n<=(evs p).length/\z=(((VV n).map λ(i:Nat)=>(i:Int)).filter<|Wl p l,(n:Int))) (λz=>(((evs p).length:Int)-z.2).toNat) ⟨0,by omega,rfl⟩ λz ⟨n,h1,h2⟩ => ?_;subst h2;unfold qJ J;have en:(evs p).getD n Rh=ev p (n:Int):=by unfold ev;rw [tnn]
 simp only [tnn,en];refine .bifD (λhk=>?_) λhk => .pure ?_
 ·have hsl:(((VV n).map λ(i:Nat)=>(i:Int)).filter<|Wl p l).length<=n:=VW (Wo _ _) (by simp);have hst:((VV<|n+1).map λ(i:Nat)=>(i:Int)).filter (Wl p l)=((VV n).map λ(i:Nat)=>(i:Int)).filter (Wl p l)++if Wl p l (n:Int) then [(n:Int)] else []:=by
   rw [List.range_succ,List.map_append,Wm]
   congr 1
   by_cases h:Wl p l (n:Int)=Ri
   ·rw [if_pos h];simp [h]
   rw [if_neg h];simp [h]
  refine Q4.bind (P:=(· = ((VV<|n+1).map λ(i:Nat)=>(i:Int)).filter (Wl p l))) (.gdD ⟨by omega,hk⟩ (Q4.bind (P:=(· = Wl p l (n:Int))) (.bif (λh => .pure ?_) λh => .pure ?_) λb hb => .bif (λh => .gd (bJ (by omega) rfl)<|.pure ?_) λh => .pure ?_)) λv hv => .gdI (by omega)<|.pure ⟨⟨n+1,by omega,by rw [hv];rfl⟩,by simp only [];omega⟩
  ·unfold Wl;rw [h,VY];exact Nr _ _
  ·unfold Wl;rw [h];rfl
  ·rw [hst,<- hb,h];rfl
  rw [hst,<- hb,h];simp
 have : n=(evs p).length:=by omega
 rw [this]
 rfl
theorem Hn (hp:PV p) (l:Int):Q4 (cJ (evs p) l) (· = Q6 p l):=wV hp l
def nq (i:Int) (n:Int):Bool := !decide (n=i)
theorem J6 (x:QW) (h1:x.From.length<=100000) (h2:x.Order.length<=100000) (h3:∀ i,(x.Order.getD i Rh).length<=100000):Q4 (mN x) (· = x):=by
 unfold mN;refine .gd (bJ (by simp only [Wq];omega) rfl) (Q4.bind (P:=(· = x.Order)) ?_ λs hs => .pure<|by rw [hs];rfl);refine Q4.loop (λz=>∃ k:Nat,k<=x.Order.length/\z=(x.Order.take k,(k:Int))) (λz=>((x.Order.length:Int)-z.2).toNat) ⟨0,by omega,by simp⟩ λz ⟨k,g1,g2⟩ => ?_;subst g2;unfold o5 J;simp only [tnn,V4];refine .bifD (λhk=>?_) λhk => .pure ?_
 ·have hk':k<x.Order.length:=by omega
  refine .gdD ⟨by omega,hk⟩<|.gd (bJ (by have := h3 k;simp only [Wq];omega) rfl)<|.gd (bJ (by rw [We];omega) rfl)<|.gdI (by omega)<|.pure ⟨⟨k+1,by omega,?_⟩,by simp only [];omega⟩;rw [Ip hk']
  rfl
 rw [show k=x.Order.length by omega,V6]
theorem MG (l:Nat) (hl:l<3):∃ t,Q6 p (l:Int)=(l:Int)::t:=Bd hl
theorem J7 {f:LI} (h:f∈wW (chF p)):f.length=(evs p).length:=by
 rw [(rR.1 h).1];simp [chF]
theorem ND (F:Few p) {o:LL} (h:o∈wW (chO p)):o.length=3/\∀ i,(o.getD i Rh).length<=100:=by
 obtain ⟨h1,h2⟩:=rR.1 h;refine ⟨h1,λi=>?_⟩
 by_cases hi:i<3
 ·obtain ⟨y,hy,e⟩:=h2 i hi;rw [gdq,e];have hw:=(F.w i hi).1;have hy':y∈chL p i:=by
   match i,hi with
   | 0,_=>exact hy
   | 1,_=>exact hy
   | 2,_=>exact hy
  unfold chL at hy';obtain ⟨r,hr,rfl⟩:=V9.1 hy';have := ((zx rfl).1 hr).length_eq;rw [List.length_tail] at this;show ((i:Int)::r).length<=100;rw [llc];omega
 rw [gdq,gen (by rw [h1];exact Nat.le_of_not_lt hi)];exact Wh _
theorem getD_in {α:Type} [Inhabited α] {l:List α} {i:Nat} (h:i<l.length):l.getD i Rh∈l:=by
 rw [gdq,geq h];exact List.getElem_mem _
end
section
variable {p:List (List QV)}
theorem Gg {α β:Type} (q:α->Bool) (f:α->List β) (l:List α):(l.filter q).flatMap f=l.flatMap λy=>if q y=Ri then f y else []:=by
 induction l with
 | nil=>rfl
 | cons a l ih=>
  grind
theorem Ir (i:Int) (rest:LL) (c:LI) (hc:c.length<=3000) (hr:rest.length<=3000) (hrow:∀ k,(rest.getD k Rh).length<=100) (hall:((c.filter<|nq i).flatMap λy=>rest.map (y :: ·)).length<=3000) :
  Q4 (loopO (ji i rest c) (([]:LL),(0:Int))) (· = (c.filter<|nq i).flatMap λy=>rest.map (y :: ·)):=by
 rw [Gg] at hall ⊢;rw [<- lY c] at hall ⊢;generalize hg:(λk=>if nq i (c.getD k Rh)=Ri then rest.map (c.getD k Rh :: ·) else [])=g at hall ⊢;have hgk:∀ k,g k=if nq i (c.getD k Rh)=Ri then rest.map (c.getD k Rh :: ·) else []:=λk=>by grind
 refine (rQ c.length [] g (λk hk=>?_) ?_).mono λv hv=>by simp_all
 ·have hpre:=VW (Cb g (show k+1<=c.length by omega)) hall;rw [gP,lla] at hpre;unfold ji;simp only [V4];refine .bifD (λ_=>?_) λh=>absurd (show (k:Int)<(c.length:Int) by omega) h;refine Q4.bind (P:=(· = (VV (k+1)).flatMap g)) ?_ λv hv => .gdI (by omega) (.pure (by simp_all));rw [gP];have hk1:=hgk k;generalize (VV k).flatMap g=pre at hpre ⊢;generalize g k=gk at hk1 hpre ⊢;subst hk1;have hstep:∀ s:LL×Int,jh i rest c (pre,(k:Int)) s=(VU (bif Rm (s.2<(rest.length:Int)) then gd (Rm (0<=(k:Int)/\(k:Int)<(c.length:Int)))<|Rk ((c.getD k Rh) != i) else Rk Rj) λs23=>
    bif s23 then
     gd (Rm<|0<=(k:Int)/\(k:Int)<(c.length:Int))<|gd (Rm<|0<=s.2/\s.2<(rest.length:Int))<|gd (bT (([(c.getD k Rh)]:LI).length+(rest.getD s.2.toNat Rh).length) 8) <|
     gd (bT (s.1.length+1) 24)<|gd (QS .i64<|s.2+(1:Int))<|Rk (.inl ((s.1++[(([(c.getD k Rh)]:LI)++(rest.getD s.2.toNat Rh))]),(s.2+(1:Int))))
    else Rk (.inr s.1)):=λs=>by
   unfold jh J
   simp_all
  generalize jh i rest c (pre,(k:Int))=step at hstep ⊢;generalize c.getD k Rh=y at hstep hpre ⊢
  by_cases hy:y=i
  ·have hn : ¬ nq i y=Ri:=by unfold nq;rw [decide_eq_true hy];decide
   rw [if_neg hn] at hpre ⊢;rw [uf,hstep];have : Q4 (bif Rm ((0:Int)<(rest.length:Int)) then gd (Rm<|0<=(k:Int)/\(k:Int)<(c.length:Int))<|Rk (y != i) else Rk Rj) (· = Rj) := .bifD (λ_ => .gdD ⟨by omega,by omega⟩<|.pure<|by simp_all) λ_ => .pure rfl;rw [show (bif Rm (((pre,(0:Int)):LL×Int).2<(rest.length:Int)) then gd (Rm<|0<=(k:Int)/\(k:Int)<(c.length:Int))<|Rk (y != i) else Rk Rj)=Rk Rj from this.eq];exact .of rfl (by simp)
  have hn:nq i y=Ri:=by unfold nq;rw [decide_eq_false hy];rfl
  have hne:(y != i)=Ri:=by simpa using hy
  rw [if_pos hn,llm] at hpre;rw [if_pos hn];refine (rQ rest.length pre (λj=>[y::rest.getD j Rh]) (λj hj=>?_) ?_).mono λv hv=>?_
  ·have hil:((VV j).flatMap λj=>[y::rest.getD j Rh]).length=j*1:=by rw [ou (m:=1) λ_ _=>rfl,Wi]
   rw [hstep];refine Q4.bind (P:=(· = Ri)) (.bifD (λ_ => .gdD ⟨by omega,by omega⟩<|.pure hne) λh=>absurd (show (j:Int)<(rest.length:Int) by omega) h) λb hb=>?_;subst hb;simp only [tnn,cond_true];refine .gdD ⟨by omega,by omega⟩<|.gdD ⟨by omega,by omega⟩<|.gd (bJ (by grind) rfl)<|.gd (bJ (by grind) rfl)<|.gdI (by omega)<|.pure ?_;rw [gP,Ws]
   rfl
  ·rw [hstep];refine Q4.bind (P:=(· = Rj)) (.bifD (λh=>absurd h<|by omega) λ_ => .pure rfl) λb hb=>?_;subst hb;exact .pure rfl
  rw [hv,lY rest λx=>[y::x],Be]
 unfold ji;exact .bifD (λh=>absurd h<|by omega) λ_ => .pure rfl
theorem LM {i:Nat} (h:i<(evs p).length):(chF p).drop i=chE p i::(chF p).drop (i+1):=by
 have hl:i<(chF p).length:=by simp [chF];exact h
 rw [Wy hl]
 congr 1
 simp [chF]
theorem E8 (hv:bq (Q7 p)=Ri):∀ (n m i:Nat),i+n=(evs p).length->n<m->Q4 (iP m (evs p) (i:Int)) (· = wW ((chF p).drop i))
 | _,0,_,_,h=>by omega
 | 0,m+1,i,hi,_=>by
  show Q4 (fw _ (evs p) (i:Int)) _;unfold fw J;refine .bif (λ_ => .pure ?_) λh=>by simp_all
  rw [Wz (by simp [chF] <;> omega)]
  rfl
 | n+1,m+1,i,hi,hm=>by
  have hp:=PV.of hv;have F:=few hv;have hel:=jX hp.vs;have hen:∀ n:Nat,(evs p).getD n Rh=ev p (n:Int):=λn=>by unfold ev;simp_all
  have hl:=ny hp (n:=(i:Int)) (by omega) (by omega);show Q4 (fw _ (evs p) (i:Int)) _;unfold fw J;refine .bif (λh=>by grind) λ_ => .gdI (by omega) ?_;refine (E8 hv n m (i+1) (by omega)<|by omega).bind λv3 h3=>?_;have hi':i<(evs p).length:=by omega
  have hr:=(F.f<|i+1).2;have hF:=(F.f i).2;have hrow:∀ k,(v3.getD k Rh).length<=100:=λk=>by
   by_cases hk:k<v3.length
   ·have hm:=getD_in hk;rw [show v3=wW ((chF p).drop<|i+1) from h3] at hm;have := (rR.1 hm).1;rw [<- h3,Wt] at this;simp only [chF,llm,Wi] at this;omega
   rw [gdq,gen (by omega)];exact Wh _
  rw [LM hi'] at hF ⊢;rw [<- h3] at hr;have hE:wW (chE p i::(chF p).drop (i+1))=(chE p i).flatMap λy=>v3.map (y :: ·):=by rw [h3];rfl
  rw [hE] at hF ⊢;clear hE;generalize hS:(if (ev p (i:Int)).Reads=Ri then Q6 p (ev p (i:Int)).Loc else [-1])=c;have hcf:chE p i=c.filter (nq (i:Int)):=by
   unfold chE;rw [<- hS]
   split
   ·rfl
   unfold nq
   grind
  have hcl:c.length<=8:=by
   rw [<- hS]
   split
   ·have hw:=(F.w (ev p (i:Int)).Loc.toNat<|by omega).1
    grind
   decide
  refine Q4.bind (P:=(· = c)) (.gdD ⟨by omega,by omega⟩ ?_) λs4 h4=>?_
  ·simp only [tnn,hen];refine .bif (λh=>((Hn hp _).bind λv7 h7 => .pure ?_)) λh => .pure ?_
   ·rw [h7,<- hS,if_pos h]
   simp_all
  subst s4;rw [hcf] at hF ⊢;exact (Ir (i:Int) v3 c (by omega) hr hrow hF).bind λs8 h8 => .pure h8
theorem O1 (hv:bq (Q7 p)=Ri):Q4 (sj (evs p) 0) (· = wW (chF p)):=Bf (evs p).length λm hm=>E8 hv (evs p).length m 0 (by omega) hm
theorem Gh (l:Int) (v3:List<|LL) (v4:LI) (v6:LL) (h40:v4.getD 0 Rh=l) (h4:0<v4.length) (hn6:v6.length<=3000) (hn3:v3.length<=3000) (hr6:∀ k,(v6.getD k Rh).length<=100) (hr3:∀ k,(v3.getD k Rh).length<=100) (hall:(v6.flatMap λr=>v3.map ((l::r) :: ·)).length<=3000) :
  Q4 (loopO (iC v3 v4 v6) (([]:List<|LL),(0:Int))) (· = v6.flatMap λr=>v3.map ((l::r) :: ·)):=by
 rw [<- lY v6] at hall ⊢;generalize hg:(λk=>v3.map ((l::v6.getD k Rh) :: ·))=g at hall ⊢;have hgk:∀ k,g k=v3.map ((l::v6.getD k Rh) :: ·):=λk=>by grind
 refine (rQ v6.length [] g (λk hk=>?_) ?_).mono λv hv=>by simp_all
 ·have hpre:=VW (Cb g<|show k+1<=v6.length by omega) hall;have hrk:=hr6 k;rw [gP,lla] at hpre;unfold iC J;simp only [V4,tnn,show (0:Int).toNat=0 from rfl,h40];refine .bifD (λ_=>?_) λh=>absurd (show (k:Int)<(v6.length:Int) by omega) h;refine Q4.bind (P:=(· = (VV<|k+1).flatMap g)) (.gdD ⟨by omega,by omega⟩<|.gdD ⟨by omega,by omega⟩<|.gd (bJ (by grind) rfl) ?_) λv hv => .gdI (by omega)<|.pure (by simp_all);rw [gP];have hk1:=hgk k;generalize (VV k).flatMap g=pre at hpre ⊢;generalize g k=gk at hk1 hpre ⊢;subst hk1;rw [llm] at hpre;have hstep:∀ s:List (LL)×Int,iB v3 v4 v6 (pre,(k:Int)) s=bif Rm (s.2<(v3.length:Int)) then
    gd (Rm<|0<=s.2/\s.2<(v3.length:Int))<|gd (bT (([(([l]:LI)++(v6.getD k Rh))]:LL).length+(v3.getD s.2.toNat Rh).length) 24)<|gd (bT (s.1.length+1) 24)<|gd (QS .i64<|s.2+(1:Int)) <|
    Rk (.inl ((s.1++[(([(([l]:LI)++(v6.getD k Rh))]:LL)++(v3.getD s.2.toNat Rh))]),(s.2+(1:Int)))) else Rk (.inr s.1):=λs=>by
   unfold iB J
   simp_all
  generalize iB v3 v4 v6 (pre,(k:Int))=step at hstep ⊢;generalize v6.getD k Rh=y at hstep ⊢;refine (rQ v3.length pre (λj=>[(l::y)::v3.getD j Rh]) (λj hj=>?_) ?_).mono λv hv=>?_
  ·have hil:((VV j).flatMap λj=>[(l::y)::v3.getD j Rh]).length=j*1:=by rw [ou (m:=1) λ_ _=>rfl,Wi]
   rw [hstep];simp only [tnn];refine .bifD (λ_ => .gdD ⟨by omega,by omega⟩<|.gd (bJ (by grind) rfl)<|.gd (bJ (by grind) rfl)<|.gdI (by omega)<|.pure ?_) λh=>absurd (show (j:Int)<(v3.length:Int) by omega) h;rw [gP,Ws]
   rfl
  ·rw [hstep];exact .bifD (λh=>absurd h<|by omega) λ_ => .pure rfl
  rw [hv,lY v3 λx=>[(l::y)::x],Be]
 unfold iC J;exact .bifD (λh=>absurd h<|by omega) λ_ => .pure rfl
theorem LN {l:Nat} (h:l<3):(chO p).drop l=chL p l::(chO p).drop (l+1):=by
 match l,h with
 | 0,_=>rfl
 | 1,_=>rfl
 | 2,_=>rfl
theorem Cg (hv:bq (Q7 p)=Ri):∀ (n m l:Nat),l+n=3->n<m->Q4 (gL m (evs p) (l:Int)) (· = wW ((chO p).drop l))
 | _,0,_,_,h=>by omega
 | 0,m+1,l,hl,_=>by
  show Q4 (dZ _ (evs p) (l:Int)) _;unfold dZ;refine .bifD (λ_ => .pure ?_) λh=>absurd (show (2:Int)<(l:Int) by omega) h;rw [Wz (by simp [chO] <;> omega)]
  rfl
 | n+1,m+1,l,hl,hm=>by
  have hp:=PV.of hv;have F:=few hv;have hl3:l<3:=by omega
  show Q4 (dZ _ (evs p) (l:Int)) _;unfold dZ;refine .bifD (λh=>absurd h<|by omega) λ_ => .gdI (by omega) ?_;refine (Cg hv n m (l+1) (by omega)<|by omega).bind λv3 h3=>(Hn hp _).bind λv4 h4=>?_;subst v4;have hw:=(F.w l hl3).1;obtain ⟨t,ht⟩:=MG (p:=p) l hl3;refine .gdD ⟨by omega,by grind,by omega⟩ ?_;have e:(((Q6 p (l:Int)).drop (1:Int).toNat).take<|((Q6 p (l:Int)).length:Int).toNat-(1:Int).toNat)=(Q6 p (l:Int)).tail:=by
   rw [ht];simp
  rw [e];refine (O0 _<|by grind).bind λv6 h6=>?_;have hn6:v6.length<=3000:=by
   have := (F.w l hl3).2;rw [h6];unfold chL at this
   simp_all
  have hr6:∀ i,(v6.getD i Rh).length<=100:=λi=>by
   by_cases hi:i<v6.length
   ·have hm:=getD_in hi;rw [show v6=prm (Q6 p (l:Int)).tail.length (Q6 p (l:Int)).tail from h6] at hm;have := ((zx rfl).1 hm).length_eq
    grind
   rw [gdq,gen (by omega)];exact Wh _
  have hn3:=(F.o<|l+1).2;have hO:=(F.o l).2;have hr3:∀ k,(v3.getD k Rh).length<=100:=λk=>by
   by_cases hk:k<v3.length
   ·have hm:=getD_in hk;rw [show v3=wW ((chO p).drop<|l+1) from h3] at hm;have := (rR.1 hm).1;rw [<- h3,Wt] at this;simp only [chO,llc,Wq] at this;omega
   rw [gdq,gen (by omega)];exact Wh _
  rw [LN hl3] at hO ⊢;rw [<- h3] at hn3;have hE:wW (chL p l::(chO p).drop (l+1))=v6.flatMap λr=>v3.map (((l:Int)::r) :: ·):=by
   show ((prm (Q6 p (l:Int)).tail.length (Q6 p (l:Int)).tail).map ((l:Int) :: ·)).flatMap (λy=>(wW<|(chO p).drop<|l+1).map (y :: ·))=_;rw [<- h6,<- h3,List.flatMap_map]
  rw [hE] at hO ⊢;exact (Gh (l:Int) v3 (Q6 p (l:Int)) v6 (by simp_all) (by simp_all) hn6 hn3 hr6 hr3 hO).bind λs7 h7 => .pure h7
theorem NE (hv:bq (Q7 p)=Ri):Q4 (qP (evs p) 0) (· = wW (chO p)):=Bf 3 λm hm=>Cg hv 3 m 0 (by omega) hm
theorem NF (FF:LL) (OO:List<|LL) (hall:FF.length*OO.length<=3000) (hn:FF.length<=3000) (hn2:OO.length<=3000) (hf:∀ f∈FF,f.length<=24) (ho:∀ o∈OO,o.length=3/\∀ i,(o.getD i Rh).length<=100) :
  Q4 (loopO (jS FF OO) (([]:List QW),(0:Int))) (· = FF.flatMap λf=>OO.map λo=>(⟨f,o⟩:QW)):=by
 have hpre:∀ j,j<=FF.length->((VV j).flatMap λj=>OO.map λo=>(⟨FF.getD j Rh,o⟩:QW)).length<=3000:=λj hj=>by
  have := Cb (λj=>OO.map λo=>(⟨FF.getD j Rh,o⟩:QW)) hj;rw [lY FF λf=>OO.map λo=>(⟨f,o⟩:QW),ou (l:=FF) (f:=λf=>OO.map λo=>(⟨f,o⟩:QW)) (m:=OO.length) λ_ _=>llm _] at this;omega
 refine (rQ FF.length [] (λj=>OO.map λo=>(⟨FF.getD j Rh,o⟩:QW)) (λj hj=>?_) ?_).mono λv hv=>?_
 ·have hfj:=hf _<|getD_in hj;have hpj:=hpre (j+1) hj;rw [gP,lla,llm] at hpj;unfold jS;simp only [V4];refine .bifD (λ_=>?_) λh=>absurd (show (j:Int)<(FF.length:Int) by omega) h;refine Q4.bind (P:=(· = (VV<|j+1).flatMap λj=>OO.map λo=>(⟨FF.getD j Rh,o⟩:QW))) ?_ λv hv => .gdI (by omega)<|.pure (by simp_all);generalize hpe:(VV j).flatMap (λj=>OO.map λo=>(⟨FF.getD j Rh,o⟩:QW))=pre at hpj ⊢;generalize hfg:FF.getD j Rh=f at hfj;have hstep:∀ s:List QW×Int,iR FF OO (pre,(j:Int)) s=bif Rm (s.2<(OO.length:Int)) then
    gd (Rm<|0<=(j:Int)/\(j:Int)<(FF.length:Int))<|gd (Rm<|0<=s.2/\s.2<(OO.length:Int))<|VU (mN (⟨f,OO.getD s.2.toNat Rh⟩:QW)) λv99=>
    gd (bT (s.1.length+1) 48)<|gd (QS .i64<|s.2+(1:Int))<|Rk (.inl ((s.1++[v99]),(s.2+(1:Int)))) else Rk (.inr s.1):=λs=>by
   unfold iR J
   simp_all
  generalize iR FF OO (pre,(j:Int))=step at hstep ⊢;refine (rQ OO.length pre (λi=>[(⟨f,OO.getD i Rh⟩:QW)]) (λi hi=>?_) ?_).mono λv hv=>?_
  ·have hil:((VV i).flatMap λi=>[(⟨f,OO.getD i Rh⟩:QW)]).length=i*1:=by rw [ou (m:=1) λ_ _=>rfl,Wi]
   obtain ⟨ho1,ho2⟩:=ho _<|getD_in hi;rw [hstep];simp only [tnn];refine .bifD (λ_ => .gdD ⟨by omega,by omega⟩<|.gdD ⟨by omega,by omega⟩<|(J6 ⟨f,OO.getD i Rh⟩ (VW hfj<|by omega) (by simp_all) λi=>VW (ho2 i)<|by omega).bind λv99 h99 => .gd (bJ (by grind) rfl)<|.gdI (by omega)<|.pure ?_) λh=>absurd (show (i:Int)<(OO.length:Int) by omega) h;rw [h99,gP,Ws]
   rfl
  ·rw [hstep];exact .bifD (λh=>absurd h<|by omega) λ_ => .pure rfl
  rw [hv,lY OO λo=>[(⟨f,o⟩:QW)],Be,gP,hpe,hfg]
 ·unfold jS;exact .bifD (λh=>absurd h<|by omega) λ_ => .pure rfl
 rw [hv,V4];exact lY FF λf=>OO.map λo=>(⟨f,o⟩:QW)
theorem J8 (hv:bq (Q7 p)=Ri):Q4 (rO p) (· = Ce p):=by
 have hp:=PV.of hv;have F:=few hv;have hel:=jX hp.vs;unfold rO;refine (D6 hp.vs).bind λv1 e1=>?_;subst v1;refine (O1 hv).bind λv2 h2=>(NE hv).bind λv3 h3=>?_;subst v2 v3;have h0:=(F.f (chF p).length).1;rw [V6] at h0;have h1:=(F.o (chO p).length).1;rw [V6] at h1;exact (NF (wW<|chF p) (wW<|chO p) F.all h0 h1 (λf hf=>by rw [J7 hf];omega) λo ho=>ND F ho).bind λs4 h4 => .pure h4
end
section
variable {p:List (List QV)} {x:XS} {F F':LI}
def NH (p:List<|List QV):LI:=(VV (evs p).length).map λ(i:Nat)=>(i:Int)
theorem J9 (l:Int):(Q6 p l).Nodup:=List.Pairwise.filter _ MB
theorem Gi {c:QW} (hp:PV p) (h:c∈Ce p):Cand p (c.From,c.Order) (NH p):=by
 unfold Ce at h;simp only [List.mem_flatMap,V9] at h;obtain ⟨f,hf,o,ho,rfl⟩:=h;obtain ⟨f1,f2⟩:=rR.1 hf;obtain ⟨o1,o2⟩:=rR.1 ho;have hfl:=J7 hf;have oget:∀ l:Nat,l<3->∃ r,o.getD l []=(l:Int)::r/\r.Perm (Q6 p (l:Int)).tail:=λl hl=>by
  obtain ⟨y,hy,e⟩:=o2 l hl;have hy':y∈chL p l:=by
   match l,hl with
   | 0,_=>exact hy
   | 1,_=>exact hy
   | 2,_=>exact hy
  unfold chL at hy';obtain ⟨r,hr,rfl⟩:=V9.1 hy';exact ⟨r,by rw [gdq,e];rfl,(zx rfl).1 hr⟩
 have operm:∀ l:Nat,l<3->(o.getD l []).Perm (Q6 p (l:Int)):=λl hl=>by
  obtain ⟨r,e,hr⟩:=oget l hl;obtain ⟨t,ht⟩:=MG (p:=p) l hl;rw [e];rw [ht] at hr ⊢;exact hr.cons _
 have fget:∀ i:Nat,i<(evs p).length->f.getD i Rh∈chE p i:=λi hi=>by
  obtain ⟨y,hy,e⟩:=f2 i (by simp [chF];exact hi);rw [gdq,e];simpa [chF] using hy
 have odn:∀ l:Int,0<=l/\l<=2->(od (f,o) l).Perm (Q6 p l):=λl hl=>by
  have := operm l.toNat (by omega);rw [VZ hl.1] at this;exact this
 have rd:∀ i:Int,i∈NH p->(ev p i).Reads=Ri->f.getD i.toNat Rh∈Q6 p (ev p i).Loc/\f.getD i.toNat Rh≠i:=λi hi hr=>by
  obtain ⟨i0,i1⟩:=(o6 i).1 hi;have := fget i.toNat (by omega);unfold chE at this;rw [VZ i0,if_pos hr,Wu] at this;exact ⟨this.1,by simpa using this.2⟩
 refine ⟨λn=>o6 n,hfl,o1,λl hl=>⟨(odn l hl).nodup_iff.2<|J9 l,λn=>?_⟩,λl hl=>?_,λi hi hr=>?_,λi hi hr=>(rd i hi hr).2,λi hi hr=>?_⟩
 ·rw [(odn l hl).mem_iff];unfold Q6;rw [Wu];unfold Wl;rw [bae,dte];exact Iff.rfl
 ·obtain ⟨r,e,_⟩:=oget l hl;exact ⟨r,by unfold od;rw [tnn];exact e⟩
 ·obtain ⟨i0,i1⟩:=(o6 i).1 hi;exact (odn _<|ny hp i0 i1).mem_iff.2 (rd i hi hr).1
 obtain ⟨i0,i1⟩:=(o6 i).1 hi;have := fget i.toNat (by omega);unfold chE at this;rw [VZ i0,if_neg (by rw [hr];decide)] at this;simpa using this
end
section
variable {p:List (List QV)} {x:XS} {F F':LI}
theorem Ka (l:Int):(Q6 p l).length<=(evs p).length:=by
 unfold Q6;have := Wo (Wl p l)<|(VV (evs p).length).map λ(i:Nat)=>(i:Int);simpa using this
theorem Kb (l:Int):(Q6 p l).Pairwise (· <= ·):=List.Pairwise.filter _<|List.pairwise_map.2 ((List.pairwise_lt_range).imp λh=>by omega)
structure Chk (p:List (List QV)) (x:XS):Prop where
 f:x.1.length=(evs p).length
 o:x.2.length=3
 r:∀ n:Nat,n<(evs p).length->if (ev p (n:Int)).Reads=Ri then x.1.getD n Rh∈Q6 p (ev p (n:Int)).Loc/\x.1.getD n Rh≠n else x.1.getD n Rh = -1
 ords:∀ l:Nat,l<3->(x.2.getD l Rh).Perm (Q6 p (l:Int))/\(x.2.getD l Rh).getD 0 Rh=l
theorem Chk.cand (hp:PV p) (h:Chk p x):Cand p x (NH p):=by
 have e:∀ l:Int,0<=l/\l<=2->(od x l).Perm (Q6 p l):=λl hl=>by
  have := (h.ords l.toNat<|by omega).1;rw [VZ hl.1] at this;exact this
 refine ⟨λn=>o6 n,h.f,h.o,λl hl=>⟨(e l hl).nodup_iff.2<|J9 l,λn=>?_⟩,λl hl=>?_,λi hi hr=>?_,λi hi hr=>?_,λi hi hr=>?_⟩
 ·rw [(e l hl).mem_iff];unfold Q6;rw [Wu];unfold Wl;rw [bae,dte];exact Iff.rfl
 ·obtain ⟨h1,h2⟩:=h.ords l hl;obtain ⟨t,ht⟩:=Bd (p:=p) hl;have hlen:=h1.length_eq;rw [ht] at hlen;unfold od;rw [tnn]
  cases hq:x.2.getD l Rh with
  | nil=>rw [hq] at hlen;simp at hlen
  | cons a r=>
   rw [hq] at h2;have h2:a=(l:Int):=h2;exact ⟨r,by rw [<- h2]⟩
 ·obtain ⟨i0,i1⟩:=(o6 i).1 hi;have := h.r i.toNat (by omega);rw [VZ i0,if_pos hr] at this;exact (e _<|ny hp i0 i1).mem_iff.2 this.1
 ·obtain ⟨i0,i1⟩:=(o6 i).1 hi;have := h.r i.toNat (by omega);rw [VZ i0,if_pos hr] at this;exact this.2
 obtain ⟨i0,i1⟩:=(o6 i).1 hi;have := h.r i.toNat (by omega);rw [VZ i0,if_neg (by rw [hr];decide)] at this;exact this
theorem Kc:∀ {w l:LI},w.Nodup->l.length=w.length->(∀ n∈w,n∈l)->l.Perm w
 | [],l,_,h,_=>by rw [List.length_eq_zero_iff.1 h]
 | a::w,l,hn,h,hs=>by
  have ha:=hs a V7;have hp:=List.perm_cons_erase ha;obtain ⟨n1,n2⟩:=List.nodup_cons.1 hn;refine hp.trans<|List.Perm.cons a<|Kc n2 ?_ λn hm=>?_
  ·have := hp.length_eq;rw [h] at this;simp only [llc] at this;omega
  exact (List.mem_erase_of_ne<|by rintro rfl;exact n1 hm).2<|hs n<|Wx _ hm
theorem Iu {l w:LI} (hl:l.length<=4000000) (hw:w.Nodup) (hwl:w.length<=4000000) (h0:0<w.length):Q4 (nV l w) λb=>b=Ri↔l.Perm w/\l.getD 0 Rh=w.getD 0 Rh:=by
 unfold nV J;refine Q4.sum (PS:=λ_=>l.length=w.length/\l.getD 0 Rh=w.getD 0 Rh) (PW:=λb=>b=Ri↔l.Perm w/\l.getD 0 Rh=w.getD 0 Rh) (Q4.bind (P:=λb:Bool=>b=Rj↔l.length=w.length/\l.getD 0 Rh=w.getD 0 Rh) (.bif (λh=>?_) λh=>?_) λv hv => .bif (λh=>?_) λh => .pure<|hv.1 h) λ_ ⟨e1,e2⟩ => ?_
 ·have h : ¬ (l.length:Int)=(w.length:Int):=by simpa using h
  exact .pure ⟨λe=>(by cases e),λe=>absurd e.1<|by omega⟩
 ·have h:(l.length:Int)=(w.length:Int):=by simpa using h
  refine .gdD ⟨by omega,by omega⟩<|.gdD ⟨by omega,by omega⟩<|.pure ?_;show (l.getD 0 Rh != w.getD 0 Rh)=Rj↔_;rw [bne_eq_false_iff_eq];exact ⟨λe=>⟨by omega,e⟩,λe=>e.2⟩
 ·refine .pure ⟨λe=>(by cases e),λe=>?_⟩;have : v=Rj:=hv.2 ⟨e.1.length_eq,e.2⟩;rw [this] at h
  cases h
 refine Q4.sum (PS:=λ_=>∀ n∈w,n∈l) (PW:=λb=>b=Ri↔l.Perm w/\l.getD 0 Rh=w.getD 0 Rh) ?_ λ_ hs => .pure ⟨λ_=>⟨Kc hw e1 hs,e2⟩,λ_=>rfl⟩;refine Q4.loop (λz=>∃ i:Nat,i<=w.length/\z=(i:Int)/\∀ j:Nat,j<i->w.getD j Rh∈l) (λz=>((w.length:Int)-z).toNat) ⟨0,by omega,rfl,λj hj=>absurd hj<|by omega⟩ λz ⟨i,h1,h2,h3⟩ => ?_;subst h2;unfold rH J;simp only [tnn];refine .bifD (λhk => .gdD ⟨by omega,hk⟩<|(yu hl _).bind λv hv => .bifD (λhneg => .pure ?_) λhpos => .gdI (by omega)<|.pure ⟨⟨i+1,by omega,rfl,λj hj=>?_⟩,by omega⟩) λhk => .pure λn hn=>?_
 ·refine ⟨λe=>(by cases e),λe=>?_⟩;have hm:w.getD i Rh∈l:=e.1.mem_iff.2<|getD_in (by omega);rw [hv,gM hm] at hneg;omega
 ·by_cases ej:j=i
  ·subst ej
   by_cases hm:w.getD j Rh∈l
   ·exact hm
   rw [hv] at hpos;unfold plc at hpos;rw [if_neg hm] at hpos;omega
  exact h3 j (by omega)
 obtain ⟨j,hj,rfl⟩:=V8 hn;have := h3 j (by omega);rw [gdq,geq hj] at this;exact this
theorem Ke {l:LI} (n:Int):plc l n<0↔n∉l:=by
 unfold plc
 split
 ·rename_i h;exact ⟨λe=>by omega,λe=>absurd h e⟩
 rename_i h;exact ⟨λ_=>h,λ_=>by omega⟩
theorem O2 (hp:PV p) (hv:bq (p.map λr=>r.map jl)=Ri) (hsz:p.length<=1048576/\total p<=1048576) (hx:∀ r∈x.2,r.length<=1048576):Q4 (iM p ⟨x.1,x.2⟩) λb=>b=Ri↔Chk p x:=by
 have hel:=jX hp.vs;have hS:bf p=Rk (bq<|p.map λr=>r.map jl):=oP<|decide_eq_true hsz;unfold iM;refine (Q4.of (P:=(· = Ri)) hS hv).bind λv1 h1=>?_;subst h1;refine .bif (λh=>by cases h) λ_=>(D6 hp.vs).bind λv3 h3=>?_;subst h3;refine Q4.bind (P:=λb:Bool=>b=Rj↔x.1.length=(evs p).length/\x.2.length=3) (.bif (λh => .pure ⟨λe=>(by cases e),λe=>?_⟩) λh => .pure ?_) λv4 h4 => .bif (λh => .pure ⟨λe=>(by cases e),λe=>?_⟩) λh=>?_
 ·have h : ¬ (x.1.length:Int)=((evs p).length:Int):=by simpa using h
  omega
 ·have h:(x.1.length:Int)=((evs p).length:Int):=by simpa using h
  show ((x.2.length:Int) != 3)=Rj↔_;rw [bne_eq_false_iff_eq];exact ⟨λe=>⟨by omega,by omega⟩,λe=>by omega⟩
 ·have := h4.2 ⟨e.f,e.o⟩;rw [this] at h
  cases h
 obtain ⟨hf,ho⟩:=h4.1 h;refine Q4.sum (PS:=λ_=>∀ n:Nat,n<(evs p).length->if (ev p (n:Int)).Reads=Ri then x.1.getD n Rh∈Q6 p (ev p (n:Int)).Loc/\x.1.getD n Rh≠n else x.1.getD n Rh = -1) (PW:=λb=>b=Ri↔Chk p x) ?_ λ_ hr=>?_
 ·refine Q4.loop (λz=>∃ n:Nat,n<=(evs p).length/\z=(n:Int)/\∀ j:Nat,j<n->if (ev p (j:Int)).Reads=Ri then x.1.getD j Rh∈Q6 p (ev p (j:Int)).Loc/\x.1.getD j Rh≠j else x.1.getD j Rh = -1) (λz=>(((evs p).length:Int)-z).toNat) ⟨0,by omega,rfl,λj hj=>absurd hj<|by omega⟩ λz ⟨n,n1,n2,n3⟩ => ?_;subst n2;unfold pW J;have en:(evs p).getD n Rh=ev p (n:Int):=by unfold ev;rw [tnn]
  simp only [tnn,en];refine .bifD (λhk=>?_) λhk => .pure λm hm=>n3 m (by omega);have hl:=ny hp (n:=(n:Int)) (by omega) hk;refine Q4.sum (PS:=λ_=>if (ev p (n:Int)).Reads=Ri then x.1.getD n Rh∈Q6 p (ev p (n:Int)).Loc/\x.1.getD n Rh≠n else x.1.getD n Rh = -1) ?_ λ_ hn => .gdI (by omega)<|.pure ⟨⟨n+1,by omega,rfl,λj hj=>?_⟩,by omega⟩
  ·refine Q4.sum (PS:=λ_=>(ev p (n:Int)).Reads=Ri->x.1.getD n Rh∈Q6 p (ev p (n:Int)).Loc) ?_ λ_ hin=>?_
   ·refine Q4.bind (P:=λb:Bool=>b=Rj↔((ev p (n:Int)).Reads=Ri->x.1.getD n Rh∈Q6 p (ev p (n:Int)).Loc)) (.gdD ⟨by omega,hk⟩<|.bif (λhrd=>(wV hp _).bind λv18 h18 => .gdD ⟨by omega,by omega⟩ ?_) λhrd => .pure ⟨λ_ e=>(by rw [hrd] at e;cases e),λ_=>rfl⟩) λv hv => .bif (λh => .pure ⟨λe=>(by cases e),λe=>?_⟩) λh => .pure (hv.1 h)
    ·have h18:v18=Q6 p (ev p (n:Int)).Loc:=h18;subst h18;refine (yu (by have := Ka (p:=p) (ev p (n:Int)).Loc;omega) _).bind λv20 h20 => .pure ?_;rw [decide_eq_false_iff_not,h20,Ke];exact ⟨λe _=>Decidable.not_not.1 e,λe=>Decidable.not_not.2<|e hrd⟩
    have := e.r n (by omega);have h0:v=Rj:=hv.2 λhrd=>by
     rw [if_pos hrd] at this;exact this.1
    rw [h0] at h
    cases h
   refine .gdD ⟨by omega,hk⟩<|Q4.bind (P:=λb:Bool=>b=Rj↔((ev p (n:Int)).Reads=Rj->x.1.getD n Rh = -1)) (.bif (λhrd => .gdD ⟨by omega,by omega⟩<|.pure ?_) λhrd => .pure ⟨λ_ e=>by simp [e] at hrd,λ_=>rfl⟩) λv23 h23=>?_
   ·have hrd:(ev p (n:Int)).Reads=Rj:=by simpa using hrd
    show (x.1.getD n Rh != -1)=Rj↔_;rw [bne_eq_false_iff_eq];exact ⟨λe _=>e,λe=>e hrd⟩
   refine Q4.bind (P:=λb:Bool=>b=Rj↔v23=Rj/\x.1.getD n Rh≠n) (.bif (λh => .pure ⟨λe=>(by cases e),λe=>by rw [h] at e;exact absurd e.1<|by decide⟩) λh => .gdD ⟨by omega,by omega⟩<|.pure ?_) λv26 h26 => .bif (λh => .pure ⟨λe=>(by cases e),λe=>?_⟩) λh => .pure ?_
   ·show (x.1.getD n Rh==(n:Int))=Rj↔_;rw [beq_eq_false_iff_ne];exact ⟨λe=>⟨h,e⟩,λe=>e.2⟩
   ·have hc:=e.r n (by omega);have h0:v26=Rj:=h26.2 (by
     cases hrd:(ev p (n:Int)).Reads with
     | true=>
      rw [if_pos hrd] at hc;exact ⟨h23.2 λe=>(by rw [hrd] at e;cases e),hc.2⟩
     | false=>
      rw [if_neg (by rw [hrd];decide)] at hc;exact ⟨h23.2 λ_=>hc,by rw [hc];omega⟩)
    rw [h0] at h
    cases h
   obtain ⟨g1,g2⟩:=h26.1 h;have g3:=h23.1 g1;have key:if (ev p (n:Int)).Reads=Ri then x.1.getD n Rh∈Q6 p (ev p (n:Int)).Loc/\x.1.getD n Rh≠n else x.1.getD n Rh = -1:=by
    by_cases hrd:(ev p (n:Int)).Reads=Ri
    ·rw [if_pos hrd];exact ⟨hin hrd,g2⟩
    rw [if_neg hrd];exact g3 (by simpa using hrd)
   exact key
  by_cases ej:j=n
  ·subst ej;exact hn
  exact n3 j (by omega)
 refine Q4.sum (PS:=λ_=>∀ l:Nat,l<3->(x.2.getD l Rh).Perm (Q6 p (l:Int))/\(x.2.getD l Rh).getD 0 Rh=l) (PW:=λb=>b=Ri↔Chk p x) ?_ λ_ hod => .pure ⟨λ_=>⟨hf,ho,hr,hod⟩,λ_=>rfl⟩;refine Q4.loop (λz=>∃ n:Nat,n<=3/\z=(n:Int)/\∀ l:Nat,l<n->(x.2.getD l Rh).Perm (Q6 p (l:Int))/\(x.2.getD l Rh).getD 0 Rh=l) (λz=>(3-z).toNat) ⟨0,by omega,rfl,λl hl=>absurd hl<|by omega⟩ λz ⟨n,n1,n2,n3⟩ => ?_;subst n2;unfold pX J;simp only [tnn];refine .bifD (λhk => .gdD ⟨by omega,by omega⟩<|(wV hp _).bind λv38 h38=>?_) λhk => .pure λl hl=>n3 l (by omega);have h38:v38=Q6 p (n:Int):=h38;subst h38;obtain ⟨t,ht⟩:=Bd (p:=p) (l:=n) (by omega);have hwl:=Ka (p:=p) (n:Int);refine (Iu (l:=x.2.getD n Rh) (by have := hx _<|getD_in (show n<x.2.length by omega);omega) (J9 _) (by omega)<|by rw [ht];simp).bind λv39 h39 => .bif (λh => .pure ⟨λe=>(by cases e),λe=>?_⟩) λh => .gdI (by omega) (.pure ⟨⟨n+1,by omega,rfl,λl hl=>?_⟩,by omega⟩)
 ·obtain ⟨g1,g2⟩:=e.ords n (by omega);have : v39=Ri:=h39.2 ⟨g1,by rw [g2,ht];rfl⟩;rw [this] at h
  cases h
 by_cases el:l=n
 ·subst el;obtain ⟨g1,g2⟩:=h39.1 (by simpa using h);exact ⟨g1,by rw [g2,ht];rfl⟩
 exact n3 l (by omega)
theorem Kg:∀ {l k:LI},l.Perm k->l.Pairwise (· <= ·)->k.Pairwise (· <= ·)->l=k
 | [],k,h,_,_=>h.nil_eq
 | a::l,[],h,_,_=>absurd h.length_eq (by simp)
 | a::l,b::k,h,h1,h2=>by
  have hab:a=b:=by
   rcases V2.1 (h.subset<|V7) with e | e
   ·exact e
   rcases V2.1 (h.symm.subset<|V7) with e2 | e2
   ·exact e2.symm
   have := (Wj.1 h1).1 b e2;have := (Wj.1 h2).1 a e;omega
  subst hab;rw [Kg (List.perm_cons a |>.1 h) (Wj.1 h1).2 (Wj.1 h2).2]
theorem Kh {l w:LI} (hw:w.Pairwise (· <= ·)):Lp l=w↔l.Perm w:=
 ⟨λe=>by rw [<- e];exact (qI l).symm,λh=>Kg ((qI l).trans h) (F7 l) hw⟩
theorem Dv {l:LI} (h:l.length<=4000000):Q4 (cV l) (· = l):=by
 unfold cV
 cases l with
 | nil=>exact .of (v:=[]) (by show nilK Ri (Rk ([]:LI)) (Rk [])=Rk [];unfold nilK;exact if_pos rfl) rfl
 | cons a l=>exact (Q4.gd (bJ (by simp at h ⊢;omega) rfl) (.pure<|by simp):Q4 (gd (bT (([]:LI).length+(a::l).length) 8)<|Rk (([]:LI)++a::l)) (· = a::l))
theorem MH (hp:PV p) (hv:bq (p.map λr=>r.map jl)=Ri) (hsz:p.length<=1048576/\total p<=1048576) (hx:∀ r∈x.2,r.length<=1048576):Q4 (bQ p ⟨x.1,x.2⟩) λb=>b=Ri↔Chk p x:=by
 have hel:=jX hp.vs;have hS:aT p=Rk (bq<|p.map λr=>r.map jl):=oP<|decide_eq_true hsz;unfold bQ;refine (Q4.of (P:=(· = Ri)) hS hv).bind λv1 h1=>?_;subst h1;refine .bif (λh=>by cases h) λ_=>(F8 hp.vs).bind λv3 h3=>?_;subst h3;refine Q4.bind (P:=λb:Bool=>b=Rj↔x.1.length=(evs p).length/\x.2.length=3) (.bif (λh => .pure ⟨λe=>(by cases e),λe=>?_⟩) λh => .pure ?_) λv4 h4 => .bif (λh => .pure ⟨λe=>(by cases e),λe=>?_⟩) λh=>?_
 ·have h : ¬ (x.1.length:Int)=((evs p).length:Int):=by simpa using h
  omega
 ·have h:(x.1.length:Int)=((evs p).length:Int):=by simpa using h
  show ((x.2.length:Int) != 3)=Rj↔_;rw [bne_eq_false_iff_eq];exact ⟨λe=>⟨by omega,by omega⟩,λe=>by omega⟩
 ·have := h4.2 ⟨e.f,e.o⟩;rw [this] at h
  cases h
 obtain ⟨hf,ho⟩:=h4.1 h;refine Q4.sum (PS:=λ_=>∀ n:Nat,n<(evs p).length->if (ev p (n:Int)).Reads=Ri then x.1.getD n Rh∈Q6 p (ev p (n:Int)).Loc/\x.1.getD n Rh≠n else x.1.getD n Rh = -1) (PW:=λb=>b=Ri↔Chk p x) ?_ λ_ hr=>?_
 ·refine Q4.loop (λz=>∃ n:Nat,n<=(evs p).length/\z=(n:Int)/\∀ j:Nat,j<n->if (ev p (j:Int)).Reads=Ri then x.1.getD j Rh∈Q6 p (ev p (j:Int)).Loc/\x.1.getD j Rh≠j else x.1.getD j Rh = -1) (λz=>(((evs p).length:Int)-z).toNat) ⟨0,by omega,rfl,λj hj=>absurd hj<|by omega⟩ λz ⟨n,n1,n2,n3⟩ => ?_;subst n2;unfold pU J;have en:(evs p).getD n Rh=ev p (n:Int):=by unfold ev;rw [tnn]
  simp only [tnn,en];refine .bifD (λhk => .gdD ⟨by omega,hk⟩<|.gdD ⟨by omega,by omega⟩ ?_) λhk => .pure λm hm=>n3 m (by omega);have hl:=ny hp (n:=(n:Int)) (by omega) hk;refine Q4.bind (P:=λb:Bool=>b=Rj↔((ev p (n:Int)).Reads=Rj->x.1.getD n Rh = -1)) (.bif (λhrd => .pure ?_) λhrd => .pure ⟨λ_ e=>(by simp [e] at hrd),λ_=>rfl⟩) λs15 h15=>?_
  ·have hrd:(ev p (n:Int)).Reads=Rj:=by simpa using hrd
   show (x.1.getD n Rh != -1)=Rj↔_;rw [bne_eq_false_iff_eq];exact ⟨λe _=>e,λe=>e hrd⟩
  refine Q4.bind (P:=λb:Bool=>b=Rj↔if (ev p (n:Int)).Reads=Ri then x.1.getD n Rh∈Q6 p (ev p (n:Int)).Loc/\x.1.getD n Rh≠n else x.1.getD n Rh = -1) ?_ λs17 h17 => .bif (λh => .pure ⟨λe=>(by cases e),λe=>?_⟩) λh => .gdI (by omega)<|.pure ⟨⟨n+1,by omega,rfl,λj hj=>?_⟩,by omega⟩
  ·refine .bif (λh => .pure ⟨λe=>(by cases e),λe=>?_⟩) λh=>?_
   ·have h0:s15=Rj:=h15.2 λhrd=>by
     rw [if_neg (by rw [hrd];decide)] at e;exact e
    rw [h0] at h
    cases h
   refine Q4.bind (P:=λb:Bool=>b=Rj↔if (ev p (n:Int)).Reads=Ri then x.1.getD n Rh∈Q6 p (ev p (n:Int)).Loc/\x.1.getD n Rh≠n else x.1.getD n Rh = -1) (.bif (λhrd=>?_) λhrd => .pure ⟨λ_=>by rw [if_neg (by rw [hrd];decide)];exact h15.1 h hrd,λ_=>rfl⟩) λv hv => .pure hv;refine Q4.bind (P:=λb:Bool=>b=Rj↔x.1.getD n Rh∈Q6 p (ev p (n:Int)).Loc/\x.1.getD n Rh≠n) (.bif (λhe => .pure ⟨λe=>(by cases e),λe=>?_⟩) λhe=>(Hm hp _).bind λv23 h23=>(Ac _ _ (by rw [h23];have := Ka (p:=p) (ev p (n:Int)).Loc;omega)).bind λv24 h24 => .pure ?_) λv hv => .pure (by rw [if_pos hrd];exact hv)
   ·have he:x.1.getD n Rh=n:=by simpa using he
    exact absurd he e.2
   have he:x.1.getD n Rh≠n:=by simpa using he
   subst h23;rw [h24];show (!decide (x.1.getD n Rh∈Q6 p (ev p (n:Int)).Loc))=Rj↔_;rw [Bool.not_eq_false',dte];exact ⟨λe=>⟨e,he⟩,λe=>e.1⟩
  ·have h0:s17=Rj:=h17.2<|e.r n (by omega);rw [h0] at h
   cases h
  by_cases ej:j=n
  ·subst ej;exact h17.1 h
  exact n3 j (by omega)
 refine Q4.sum (PS:=λ_=>∀ l:Nat,l<3->(x.2.getD l Rh).Perm (Q6 p (l:Int))/\(x.2.getD l Rh).getD 0 Rh=l) (PW:=λb=>b=Ri↔Chk p x) ?_ λ_ hod => .pure ⟨λ_=>⟨hf,ho,hr,hod⟩,λ_=>rfl⟩;refine Q4.loop (λz=>∃ n:Nat,n<=3/\z=(n:Int)/\∀ l:Nat,l<n->(x.2.getD l Rh).Perm (Q6 p (l:Int))/\(x.2.getD l Rh).getD 0 Rh=l) (λz=>(3-z).toNat) ⟨0,by omega,rfl,λl hl=>absurd hl<|by omega⟩ λz ⟨n,n1,n2,n3⟩ => ?_;subst n2;unfold pV J;simp only [tnn];refine .bifD (λhk => .gdD ⟨by omega,by omega⟩ ?_) λhk => .pure λl hl=>n3 l (by omega);have hrl:=hx _<|getD_in (show n<x.2.length by omega);refine (Dv (l:=x.2.getD n Rh)<|by omega).bind λv34 h34=>?_;subst h34;refine Q4.bind (P:=(· = Lp (x.2.getD n Rh))) (.gdD (by omega)<|.pure rfl) λv38 h38=>(Hm hp _).bind λv39 h39=>?_;subst h38 h39;have hsl:(Lp<|x.2.getD n Rh).length=(x.2.getD n Rh).length:=(qI _).length_eq;refine (zu<|by omega).bind λv40 h40=>?_;subst h40;obtain ⟨t,ht⟩:=Bd (p:=p) (l:=n) (by omega);refine Q4.bind (P:=λb:Bool=>b=Rj↔(x.2.getD n Rh).Perm (Q6 p (n:Int))/\(x.2.getD n Rh).getD 0 Rh=n) (.bif (λh => .pure ⟨λe=>(by cases e),λe=>?_⟩) λh=>?_) λs41 h41 => .bif (λh => .pure ⟨λe=>(by cases e),λe=>?_⟩) λh => .gdI (by omega)<|.pure ⟨⟨n+1,by omega,rfl,λl hl=>?_⟩,by omega⟩
 ·rw [decide_eq_true ((Kh<|Kb _).2 e.1)] at h
  cases h
 ·have hp2:(x.2.getD n Rh).Perm (Q6 p (n:Int)):=(Kh<|Kb _).1 (by simpa using h);have hpos:0<(x.2.getD n Rh).length:=by rw [hp2.length_eq,ht];simp
  refine .gdD ⟨by omega,by show (0:Int)<((x.2.getD n Rh).length:Int);omega⟩ (.pure ?_);show ((x.2.getD n Rh).getD 0 Rh != (n:Int))=Rj↔_;rw [bne_eq_false_iff_eq];exact ⟨λe=>⟨hp2,e⟩,λe=>e.2⟩
 ·have h0:s41=Rj:=h41.2<|e.ords n (by omega);rw [h0] at h
  cases h
 by_cases el:l=n
 ·subst el;exact h41.1 h
 exact n3 l (by omega)
theorem Ef (hsz:p.length<=1048576/\total p<=1048576) (hx:∀ r∈x.2,r.length<=1048576):∃ l b,bV p ⟨x.1,x.2⟩=Rk (l,b)/\dX p ⟨x.1,x.2⟩=Rk (l,b)/\l.length<=21:=by
 have hI:aT p=Rk (bq<|p.map λr=>r.map jl):=oP<|decide_eq_true hsz;have hS:bf p=Rk (bq<|p.map λr=>r.map jl):=oP<|decide_eq_true hsz
 cases hv:bq (p.map λr=>r.map jl) with
 | false=>
  rw [hv] at hI hS;refine ⟨[],Rj,?_,?_,by simp⟩
  ·unfold bV bQ;rw [hI]
   rfl
  unfold dX iM;rw [hS]
  rfl
 | true=>
  have hp:=PV.of hv;obtain ⟨b,e1,h1⟩:=MH hp hv hsz hx;obtain ⟨c,e2,h2⟩:=O2 hp hv hsz hx;obtain rfl:b=c:=Bool.eq_iff_iff.2<|h1.trans h2.symm
  cases b with
  | false=>
   refine ⟨[],Rj,?_,?_,by simp⟩
   ·unfold bV;rw [e1]
    rfl
   unfold dX;rw [e2]
   rfl
  | true=>
   have hC:=(h1.1 rfl).cand hp;obtain ⟨l,b,g1,g2,g3,_⟩:=zw hp hv hC;refine ⟨l,b,?_,?_,g3⟩
   ·unfold bV;rw [e1];refine Q4.eq ((Q4.of (P:=(· = Ri)) rfl rfl).bind λv hv => .bif (λh=>by subst hv;cases h) λ_=>(Q4.of (P:=(· = (l,b))) g1 rfl).bind λv3 h3 => .pure ?_);rw [h3]
   unfold dX;rw [e2];refine Q4.eq ((Q4.of (P:=(· = Ri)) rfl rfl).bind λv hv => .bif (λh=>by subst hv;cases h) λ_=>(Ly hp<|PU hp hC).bind λv3 h3=>(Q4.of (P:=(· = (l,b))) (by rw [h3];exact g2) rfl).bind λv4 h4 => .pure ?_);rw [h4]
end
def tab (N:Nat) (g:Nat->Int):LI:=(VV N).map g
section
variable {N:Nat} {g h:Nat->Int}
theorem Gj:(tab N g).length=N:=by simp [tab]
theorem Ki {i:Nat} (hi:i<N):(tab N g).getD i Rh=g i:=by
 unfold tab
 simp_all
theorem mP (e:∀ i,i<N->g i=h i):tab N g=tab N h:=List.map_congr_left λi hi=>e i<|Wv.1 hi
theorem Gm (i:Nat) (v:Int):(tab N g).set i v=tab N λj=>if j=i then v else g j:=by
 apply List.ext_getElem
 ·simp [tab]
 intro j h1 h2;rw [List.getElem_set];simp only [tab,List.getElem_map,List.getElem_range];omega
theorem Eg:V5 N (Rh:Int)=tab N λ_=>0:=by
 apply List.ext_getElem
 ·simp [tab]
 intro j h1 h2;simp only [tab,List.getElem_map,List.getElem_replicate]
 rfl
end
theorem tE {f g:Nat->Bool}:∀ {n:Nat},(∀ k,k<n->f k=g k)->Q5 f n=Q5 g n
 | 0,_=>rfl
 | n+1,h=>by
  unfold Q5;rw [h n (by omega),tE λk hk=>h k (by omega)]
theorem NI (f g:Nat->Bool) (n:Nat):Q5 f n&&&Q5 g n=Q5 (λj=>f j&&g j) n:=by
 apply WA;intro j;rw [Nat.testBit_and,iY,iY,iY]
 grind
theorem LO (n:Nat):Q5 (λ_=>Rj) n=0:=by
 induction n with
 | zero=>rfl
 | succ n ih=>unfold Q5;grind
def Q8 (N:Nat) (f:Int->Int->Bool):LI:=tab N λi=>((Q5 (λk=>f (i:Int) (k:Int)) N:Nat):Int)
section
variable {N:Nat} {f g:Int->Int->Bool}
theorem iD:(Q8 N f).length=N:=Gj
theorem vB {i:Nat} (h:i<N):(Q8 N f).getD i Rh=((Q5 (λk=>f (i:Int) (k:Int)) N:Nat):Int):=Ki h
theorem qR (h:∀ i k:Nat,i<N->k<N->f i k=g i k):Q8 N f=Q8 N g:=mP λi hi=>by rw [tE λk hk=>h i k hi hk]
def P15 (n:Int) (is:Int->Int->Option Bool) (s6:(LI)×Int):((LI)×Int)->Option (((LI)×Int) ⊕ (LI)):=λs14=>
 bif Rm (s14.2<n) then
  VU (
   VU (is s6.2 s14.2) λv19=>
   bif v19 then
    gd (Rm<|0<=s6.2/\s6.2<(s14.1.length:Int)) <|
    gd (Rm<|0<=s14.2) <|
    Rk (s14.1.set s6.2.toNat<|bOr .i64 (s14.1.getD s6.2.toNat Rh)<|EI .i64 (1:Int) s14.2)
   else
    Rk s14.1
  ) λs18=>
  gd (QS .i64<|s14.2+(1:Int)) <|
  Rk (.inl (s18,(s14.2+(1:Int))))
 else
  Rk (.inr s14.1)
def P7 (n:Int) (is:Int->Int->Option Bool):((LI)×Int)->Option (((LI)×Int) ⊕ (LI)):=λs6=>
 bif Rm (s6.2<n) then
  VU (
   loopO (P15 n is s6) (s6.1,(0:Int))
  ) λs10=>
  gd (QS .i64<|s6.2+(1:Int)) <|
  Rk (.inl (s10,(s6.2+(1:Int))))
 else
  Rk (.inr s6.1)
def MI (n:Int) (is:Int->Int->Option Bool):Option (LI):=
 gd (Rm<|0<=n/\n<=n/\n*((8:Nat):Int)<=140737488355328/\n<=140737488355328) <|
 VU (
  loopO (P7 n is) ((V5 n.toNat (Rh:Int)),(0:Int))
 ) λs2=>
 Rk s2
def part (N:Nat) (f:Int->Int->Bool) (i k:Nat):LI:=tab N λj=>if j<i then ((Q5 (λk=>f (j:Int) (k:Int)) N:Nat):Int) else if j=i then ((Q5 (λk=>f (j:Int) (k:Int)) k:Nat):Int) else 0
theorem E9 (hN:N<=60) {is:Int->Int->Option Bool} (hi:∀ i k:Nat,i<N->k<N->Q4 (is (i:Int) (k:Int)) (· = f i k)):Q4 (MI (N:Int) is) (· = Q8 N f):=by
 unfold MI;refine .gdD ⟨by omega,by omega,by omega,by omega⟩ (Q4.bind (P:=(· = Q8 N f)) ?_ λv hv => .pure hv);have e0:V5 (N:Int).toNat (Rh:Int)=part N f 0 0:=by
  rw [tnn,Eg];refine mP λj _=>?_;rw [if_neg (by omega)]
  split <;> simp [Q5]
 rw [e0];refine Q4.loop (λz=>∃ i:Nat,i<=N/\z=(part N f i 0,(i:Int))) (λz=>((N:Int)-z.2).toNat) ⟨0,by omega,rfl⟩ λz ⟨i,h1,h2⟩ => ?_;subst h2;unfold P7;simp only [];refine .bifD (λhk=>?_) λhk => .pure ?_
 ·refine Q4.bind (P:=(· = part N f (i+1) 0)) ?_ λv hv => .gdI (by omega)<|.pure ⟨⟨i+1,by omega,by simp_all⟩,by omega⟩;refine Q4.loop (λz=>∃ k:Nat,k<=N/\z=(part N f i k,(k:Int))) (λz=>((N:Int)-z.2).toNat) ⟨0,by omega,rfl⟩ λz ⟨k,k1,k2⟩ => ?_;subst k2;unfold P15;simp only [tnn];refine .bifD (λhkk=>?_) λhkk => .pure ?_
  ·refine Q4.bind (P:=(· = part N f i (k+1))) ((hi i k (by omega)<|by omega).bind λv hv => .bif (λhb => .gdD ⟨by omega,by unfold part;rw [Gj];omega⟩<|.gdD (by omega)<|.pure ?_) λhb => .pure ?_) λv hv => .gdI (by omega) (.pure ⟨⟨k+1,by omega,by simp_all⟩,by omega⟩)
   ·unfold part;rw [Ki (by omega),if_neg (by omega),if_pos rfl,Ea (by omega),wU (cu<|by omega) (by have := Nat.pow_lt_pow_right (a:=2) (by omega) (show k<63 by omega);omega),Gm];refine mP λj _=>?_
    by_cases e:j=i
    ·subst e;rw [if_pos rfl,if_neg (by omega),if_pos rfl];rw [hv] at hb;rw [Q5,if_pos hb]
    omega
   unfold part;refine mP λj _=>?_
   by_cases e:j=i
   ·subst e;rw [if_neg (by omega),if_pos rfl,if_neg (by omega),if_pos rfl];rw [hv] at hb;rw [Q5,if_neg (by rw [hb];decide)]
   omega
  have : k=N:=by omega
  subst this;unfold part;refine mP λj _=>?_
  by_cases e:j=i
  ·omega
  by_cases e2:j<i
  ·omega
  rw [if_neg e2,if_neg e,if_neg (by omega)]
  split <;> simp [Q5]
 have : i=N:=by omega
 subst this;exact mP λj hj=>by omega
theorem O3 (i:Nat):(Q5 (λk=>f (i:Int) (k:Int)) N)<2 ^ N:=JR _ _
theorem NJ {m n:Nat} (hm:m<2 ^ n) (hn:n<=62):gu .i64 (m:Int) (n:Int)=0:=by
 show (m:Int).fdiv (2 ^ (min (n:Int).toNat 64))=_;have hq:min (n:Int).toNat 64=n:=by omega
 rw [hq,show (2:Int) ^ n=((2 ^ n:Nat):Int) by simp,Int.fdiv_eq_ediv_of_nonneg _ (Int.natCast_nonneg _)];have : m / 2 ^ n=0:=Nat.div_eq_of_lt hm;omega
theorem tF (hN:N<=16):Q4 (cn<|Q8 N f) (· = Ri):=by
 unfold cn aU bh;refine Q4.bind (P:=(· = Ri)) (.bifD (λ_=>?_) λh=>absurd (show ((Q8 N f).length:Int)<=16 by rw [iD];omega) h) λv hv => .pure hv;refine Q4.bind (P:=(· = Rj)) (Q4.bind (P:=(· = -1)) (Q4.sum (PS:=λ_=>True) (PW:=(· = (-1:Int))) ?_ λ_ _ => .pure rfl) λv hv => .pure<|by simp_all) λv hv => .pure (by simp_all);refine Q4.loop (λz=>∃ i:Nat,i<=N/\z=(i:Int)) (λz=>((N:Int)-z).toNat) ⟨0,by omega,rfl⟩ λz ⟨i,h1,h2⟩ => ?_;subst h2;unfold bS nH J;simp only [iD,tnn];refine .bifD (λhk=>?_) λhk => .pure trivial;have hg:=vB (f:=f) (show i<N by omega);refine .gdD ⟨by omega,hk⟩ (Q4.bind (P:=(· = Rj)) (Q4.bind (P:=(· = Rj)) (.bifD (λh=>absurd h<|by omega) λ_ => .gdD (by omega)<|.pure<|decide_eq_false<|by rw [hg,NJ (O3 i) (by omega)];omega) λv hv => .pure hv) λv hv => .bif (λh=>by simp_all) λ_ => .gdI (by omega)<|.pure ⟨⟨i+1,by omega,rfl⟩,by omega⟩)
theorem Kj (hN:N<=16):Q4 (dW (Q8 N f)<|Q8 N g) (· = Ri):=by
 unfold dW;refine Q4.bind (P:=(· = Ri)) (.bif (λ_=>(tF hN).bind λv hv => .pure hv) λh=>?_) λv hv=>?_
 ·rw [iD,iD] at h
  grind
 subst hv;exact Q4.bind (P:=(· = Ri)) (.bif (λ_=>(tF hN).bind λv hv => .pure hv) λh=>by cases h) λv hv => .pure hv
theorem uq (hN:N<=60) {i k:Nat} (hi:i<N) (hk:k<N):Q4 (fQ (Q8 N f) (i:Int) (k:Int)) (· = f i k):=by
 unfold fQ J;simp only [iD,tnn];rw [vB hi,JQ (cu<|by omega) (by omega),iY,decide_eq_true hk,VY];refine .gdD ⟨by omega,by omega⟩<|.gdD (by omega)<|.pure ?_
 grind
theorem LP {a b:Nat} (ha:a<9223372036854775808) (hb:b<9223372036854775808):dJ .i64 (a:Int) (b:Int)=((a&&&b:Nat):Int):=by
 have hlt:(a&&&b)<2 ^ 63:=Nat.and_lt_two_pow a hb;show IntKind.wrap .i64 (((VX 64 (a:Int)&&&VX 64 (b:Int)).toNat:Nat):Int)=_;have h1:(VX 64 (a:Int)).toNat=a:=by rw [WB,WC];omega
 have h2:(VX 64 (b:Int)).toNat=b:=by rw [WB,WC];omega
 rw [BitVec.toNat_and,h1,h2];exact vY hlt
theorem Kl (f g:Nat->Bool) {n:Nat} (hn:n<=62):DN .i64 ((Q5 f n:Nat):Int) ((Q5 g n:Nat):Int)=((Q5 (λj=>f j && !g j) n:Nat):Int):=by
 have ha:=cu (f:=f) hn;have hb:=cu (f:=g) hn;show IntKind.wrap .i64 (((VX 64 ((Q5 f n:Nat):Int) &&& ~~~ VX 64 ((Q5 g n:Nat):Int)).toNat:Nat):Int)=_;have key:(VX 64 ((Q5 f n:Nat):Int) &&& ~~~ VX 64 ((Q5 g n:Nat):Int)).toNat=Q5 (λj=>f j && !g j) n:=by
  apply WA;intro j;rw [iY];have h1:∀ m:Nat,m<9223372036854775808->∀ j,(VX 64 ((m:Nat):Int)).getLsbD j=m.testBit j:=λm hm j=>by
   grind
  show (VX 64 ((Q5 f n:Nat):Int) &&& ~~~ VX 64 ((Q5 g n:Nat):Int)).getLsbD j=_;rw [BitVec.getLsbD_and,BitVec.getLsbD_not,h1 _ ha,h1 _ hb,iY,iY]
  by_cases hj:j<n
  ·grind
  grind
 rw [key];exact vY<|cu hn
theorem Eh (hN:N<=16) {by_:Int->Int->Option Int} {q:Int->Int->Bool} (step:((LI)×Int)->Option (((LI)×Int) ⊕ (LI)))
  (hs:∀ s8:(LI)×Int,step s8=bif Rm (s8.2<((Q8 N f).length:Int)) then
   gd (Rm<|0<=s8.2/\s8.2<((Q8 N f).length:Int))<|gd (Rm<|0<=s8.2/\s8.2<((Q8 N g).length:Int)) <|
   VU (by_ ((Q8 N f).getD s8.2.toNat Rh)<|(Q8 N g).getD s8.2.toNat Rh) λv14=>
   gd (Rm (0<=s8.2/\s8.2<(s8.1.length:Int)))<|gd (QS .i64 (s8.2+(1:Int)))<|Rk (.inl ((s8.1.set s8.2.toNat v14),(s8.2+(1:Int)))) else Rk (.inr s8.1))
  (hb:∀ i:Nat,i<N->Q4 (by_ ((Q5 (λk=>f (i:Int) (k:Int)) N:Nat):Int) ((Q5 (λk=>g (i:Int) (k:Int)) N:Nat):Int)) (· = ((Q5 (λk=>q (i:Int) (k:Int)) N:Nat):Int))) :
  Q4 (VU (dW (Q8 N f) (Q8 N g)) λv1=>bif !v1 then Rk ([]:LI) else
   gd (Rm<|0<=((Q8 N f).length:Int)/\((Q8 N f).length:Int)<=((Q8 N f).length:Int)/\((Q8 N f).length:Int)*((8:Nat):Int)<=140737488355328/\((Q8 N f).length:Int)<=140737488355328) <|
   VU (loopO step ((V5 ((Q8 N f).length:Int).toNat (Rh:Int)),(0:Int))) λs4=>Rk s4) (· = Q8 N q):=by
 refine (Kj hN).bind λv hv=>?_;subst hv;refine .bif (λh=>by cases h) λ_=>?_;refine .gdD ⟨by omega,by omega,by rw [iD];omega,by rw [iD];omega⟩ (Q4.bind (P:=(· = Q8 N q)) ?_ λv hv => .pure hv);rw [iD,tnn,Eg];refine Q4.loop (λz=>∃ i:Nat,i<=N/\z=(tab N (λj=>if j<i then ((Q5 (λk=>q (j:Int) (k:Int)) N:Nat):Int) else 0),(i:Int))) (λz=>((N:Int)-z.2).toNat) ⟨0,by omega,rfl⟩ λz ⟨i,h1,h2⟩ => ?_;subst h2;rw [hs];simp only [iD,tnn];refine .bifD (λhk=>?_) λhk => .pure ?_
 ·rw [vB (by omega),vB (by omega)];refine .gdD ⟨by omega,hk⟩<|.gdD ⟨by omega,hk⟩<|(hb i<|by omega).bind λv hv => .gdD ⟨by omega,by rw [Gj];omega⟩<|.gdI (by omega)<|.pure ⟨⟨i+1,by omega,?_⟩,by simp only [];omega⟩;rw [Gm,hv]
  grind
 have : i=N:=by omega
 subst this;exact mP λj hj=>by omega
theorem NL (hN:N<=16):Q4 (mG (Q8 N f)<|Q8 N g) (· = Q8 N λi k=>f i k||g i k):=by
 unfold mG;refine Q4.bind (P:=(· = Q8 N λi k=>f i k||g i k)) (Eh hN (by_:=nI) _ (λ_=>rfl) λi hi => .pure ?_) λv hv => .pure hv;rw [wU (cu<|by omega) (cu<|by omega),Hd]
theorem O4 (hN:N<=16):Q4 (nW (Q8 N f)<|Q8 N g) (· = Q8 N λi k=>f i k&&g i k):=by
 unfold nW;refine Q4.bind (P:=(· = Q8 N λi k=>f i k&&g i k)) (Eh hN (by_:=oU) _ (λ_=>rfl) λi hi => .pure ?_) λv hv => .pure hv;rw [LP (cu<|by omega) (cu<|by omega),NI]
theorem NM (hN:N<=16):Q4 (mH (Q8 N f)<|Q8 N g) (· = Q8 N λi k=>f i k && !g i k):=by
 unfold mH;refine Q4.bind (P:=(· = Q8 N λi k=>f i k && !g i k)) (Eh hN (by_:=nJ) _ (λ_=>rfl) λi hi => .pure ?_) λv hv => .pure hv;rw [Kl _ _ (by omega)]
end
section
variable {N:Nat} {f g:Int->Int->Bool}
theorem Km (i:Nat) (h:Int->Int->Bool) (hi:∀ j k:Nat,j<N->k<N->h j k=if j=i then g i k else f j k):(Q8 N f).set i ((Q5 (λk=>g (i:Int) (k:Int)) N:Nat):Int)=Q8 N h:=by
 unfold Q8;rw [Gm];refine mP λj hj=>?_
 by_cases e:j=i
 ·subst e;rw [if_pos rfl];exact congrArg (λn:Nat=>(n:Int))<|tE λk hk=>((hi j k hj hk).trans<|if_pos rfl).symm
 rw [if_neg e];exact congrArg (λn:Nat=>(n:Int))<|tE λk hk=>((hi j k hj hk).trans<|if_neg e).symm
theorem Kn (hN:N<=16):Q4 (kC<|Q8 N f) (· = Q8 N λi k=>f k i):=by
 unfold kC;refine (tF hN).bind λv hv=>?_;subst hv;refine .bif (λh=>by cases h) λ_=>?_;rw [iD];exact Q4.bind (P:=(· = Q8 N λi k=>f k i)) (E9 (by omega) (is:=λi k=>lH i k<|Q8 N f) λi k hi hk=>(uq (by omega) hk hi).bind λv hv => .pure hv) λv hv => .pure hv
def Gn (f g:Int->Int->Bool) (M:Nat) (i k:Int):Bool:=(VV M).any λm=>f i (m:Int)&&g (m:Int) k
theorem Fa (M:Nat) (i k:Int):Gn f g (M+1) i k=(Gn f g M i k||(f i (M:Int)&&g (M:Int) k)):=by
 unfold Gn;rw [List.range_succ,List.any_append];simp
theorem Ko (hN:N<=16):Q4 (kD (Q8 N f)<|Q8 N g) (· = Q8 N (Gn f g N)):=by
 unfold kD;refine (Kj hN).bind λv hv=>?_;subst hv;refine .bif (λh=>by cases h) λ_=>?_;refine .gdD ⟨by omega,by omega,by rw [iD];omega,by rw [iD];omega⟩ (Q4.bind (P:=(· = Q8 N (Gn f g N))) ?_ λv hv => .pure hv);have e0:V5 ((Q8 N f).length:Int).toNat (Rh:Int)=Q8 N λi k=>Rm (i<(0:Nat))&&Gn f g N i k:=by
  rw [iD,tnn,Eg];refine mP λi hi=>?_;rw [tE (g:=λ_=>Rj) λk hk=>by show (Rm ((i:Int)<((0:Nat):Int))&&_)=Rj;rw [decide_eq_false (by omega)];rfl,LO]
  rfl
 rw [e0];refine Q4.loop (λz=>∃ i:Nat,i<=N/\z=(Q8 N λj k=>Rm (j<(i:Int))&&Gn f g N j k,(i:Int))) (λz=>((N:Int)-z.2).toNat) ⟨0,by omega,rfl⟩ λz ⟨i,h1,h2⟩ => ?_;subst h2;unfold pY;simp only [iD];refine .bifD (λhk=>?_) λhk => .pure ?_
 ·refine Q4.bind (P:=(· = Q8 N (λj k=>Rm (j<((i+1:Nat):Int))&&Gn f g N j k))) ?_ λv hv => .gdI (by omega)<|.pure ⟨⟨i+1,by omega,by rw [hv];rfl⟩,by simp only [];omega⟩;refine Q4.loop (λz=>∃ m:Nat,m<=N/\z=(Q8 N (λj k=>if j=(i:Int) then Gn f g m j k else Rm (j<(i:Int))&&Gn f g N j k),(m:Int))) (λz=>((N:Int)-z.2).toNat) ⟨0,by omega,congrArg (λl=>(l,(0:Int)))<|qR λj k hj hk=>?_⟩ λz ⟨m,m1,m2⟩ => ?_
  ·by_cases e:(j:Int)=(i:Int)
   ·rw [if_pos e,decide_eq_false (by omega)];rfl
   rw [if_neg e]
  subst m2;unfold om J;simp only [iD];refine .bifD (λhkk=>?_) λhkk => .pure<|qR λj k hj hk=>?_
  ·refine Q4.bind (P:=(· = Q8 N (λj k=>if j=(i:Int) then Gn f g (m+1) j k else Rm (j<(i:Int))&&Gn f g N j k))) ?_ λv hv => .gdI (by omega)<|.pure ⟨⟨m+1,by omega,by rw [hv];rfl⟩,by simp only [];omega⟩;refine (uq (by omega) (i:=i) (k:=m) (by omega)<|by omega).bind λv hv => .bif (λhb=>?_) λhb => .pure<|qR λj k hj hk=>?_
   ·simp only [tnn];refine .gdD ⟨by omega,by omega⟩<|.gdD ⟨by omega,by omega⟩<|.pure ?_;rw [vB (by omega),vB (by omega),wU (cu<|by omega) (cu<|by omega),Hd];refine Km (g:=λj k=>(if j=(i:Int) then Gn f g m j k else Rm (j<(i:Int))&&Gn f g N j k)||g (m:Int) k) i _ λj k hj hk=>?_;rw [hv] at hb
    by_cases e:j=i
    ·subst e;rw [if_pos rfl,if_pos rfl,if_pos rfl,Fa,hb,VY]
    rw [if_neg (by omega),if_neg (by omega),if_neg (by omega)]
   rw [hv] at hb
   by_cases e:(j:Int)=(i:Int)
   ·rw [if_pos e,if_pos e,Fa,e,hb];simp
   rw [if_neg e,if_neg e]
  have : m=N:=by omega
  subst this
  by_cases e:(j:Int)=(i:Int)
  ·rw [if_pos e,decide_eq_true (by omega)];rfl
  rw [if_neg e]
  congr 1
  exact decide_eq_decide.2 (by omega)
 have : i=N:=by omega
 subst this;exact qR λj k hj hk=>by rw [decide_eq_true (by omega)];rfl
def Q9 (f:Int->Int->Bool):Nat->Int->Int->Bool
 | 0=>f
 | m+1=>λi k=>Q9 f m i k||(Q9 f m i (m:Int)&&Q9 f m (m:Int) k)
theorem NP (m:Nat) (k:Int):Q9 f (m+1) (m:Int) k=Q9 f m (m:Int) k:=by
 show (Q9 f m (m:Int) k||(Q9 f m (m:Int) (m:Int)&&Q9 f m (m:Int) k))=_
 cases Q9 f m (m:Int) k <;> simp
theorem LQ (hN:N<=16) {m:Nat} (hk:m<N):Q4 (loopO (ju (Q8 N<|Q9 f m,(m:Int))) (Q8 N<|Q9 f m,(0:Int))) (· = Q8 N (Q9 f<|m+1)):=by
 refine Q4.loop (λz=>∃ i:Nat,i<=N/\z=(Q8 N (λj k=>if j<(i:Int) then Q9 f (m+1) j k else Q9 f m j k),(i:Int))) (λz=>((N:Int)-z.2).toNat) ⟨0,by omega,congrArg (λl=>(l,(0:Int)))<|qR (g:=λj k=>if j<((0:Nat):Int) then Q9 f (m+1) j k else Q9 f m j k) λj k _ _=>(if_neg<|by omega).symm⟩ λz ⟨i,i1,i2⟩ => ?_;subst i2;unfold ju J;simp only [iD];refine .bifD (λhkk=>?_) λhkk => .pure (qR λj k hj _=>by rw [if_pos (by omega)]);refine Q4.bind (P:=(· = Q8 N (λj k=>if j<((i+1:Nat):Int) then Q9 f (m+1) j k else Q9 f m j k))) ?_ λv hv => .gdI (by omega)<|.pure ⟨⟨i+1,by omega,by rw [hv];rfl⟩,by simp only [];omega⟩;refine (uq (by omega) (i:=i) (k:=m) (by omega)<|by omega).bind λv hv=>?_;rw [if_neg (by omega)] at hv;refine .bif (λhb=>?_) λhb => .pure<|qR λj k hj hk=>?_
 ·simp only [tnn];refine .gdD ⟨by omega,by omega⟩<|.gdD ⟨by omega,by omega⟩<|.pure ?_;rw [vB (by omega),vB (by omega),wU (cu<|by omega) (cu<|by omega),Hd];have e1:Q5 (λj=>(if (i:Int)<(i:Int) then Q9 f (m+1) (i:Int) (j:Int) else Q9 f m (i:Int) (j:Int))||(if (m:Int)<(i:Int) then Q9 f (m+1) (m:Int) (j:Int) else Q9 f m (m:Int) (j:Int))) N=Q5 (λk=>Q9 f (m+1) (i:Int) (k:Int)) N:=tE λk hk=>by
   rw [if_neg (by omega),NP];rw [hv] at hb;show _=(Q9 f m (i:Int) (k:Int)||(Q9 f m (i:Int) (m:Int)&&Q9 f m (m:Int) (k:Int)));rw [hb];simp
  rw [e1];refine Km (g:=Q9 f<|m+1) i _ λj k hj hk=>?_
  by_cases e:j=i
  ·subst e;rw [if_pos (by omega),if_pos rfl]
  rw [if_neg e]
  by_cases e2:(j:Int)<(i:Int)
  ·rw [if_pos e2,if_pos (by omega)]
  rw [if_neg e2,if_neg (by omega)]
 by_cases e:(j:Int)<(i:Int)
 ·rw [if_pos e,if_pos (by omega)]
 rw [if_neg e]
 by_cases e2:j=i
 ·subst e2;rw [if_pos (by omega)];rw [hv] at hb;show _=(Q9 f m (j:Int) (k:Int)||(Q9 f m (j:Int) (m:Int)&&Q9 f m (m:Int) (k:Int)));rw [hb];simp
 rw [if_neg (by omega)]
theorem Fb (hN:N<=16):Q4 (gI<|Q8 N f) (· = Q8 N (Q9 f N)):=by
 unfold gI;refine (tF hN).bind λv hv=>?_;subst hv;refine .bif (λh=>by cases h) λ_=>(Dv<|by rw [iD];omega).bind λv3 h3=>?_;subst h3;refine Q4.bind (P:=(· = Q8 N (Q9 f N))) ?_ λv hv => .pure hv;refine Q4.loop (λz=>∃ m:Nat,m<=N/\z=(Q8 N<|Q9 f m,(m:Int))) (λz=>((N:Int)-z.2).toNat) ⟨0,by omega,rfl⟩ λz ⟨m,h1,h2⟩ => ?_;subst h2;unfold ol;simp only [iD];refine .bifD (λhk=>?_) λhk => .pure ?_
 ·exact Q4.bind (P:=(· = Q8 N (Q9 f<|m+1))) (LQ hN<|by omega) λv hv => .gdI (by omega)<|.pure ⟨⟨m+1,by omega,by rw [hv];rfl⟩,by simp only [];omega⟩
 have : m=N:=by omega
 subst this
 rfl
theorem LR {m:Nat} {i k:Int} (h:f i k=Ri):Q9 f m i k=Ri:=by
 induction m with
 | zero=>exact h
 | succ m ih=>show (_||_)=Ri;rw [ih];rfl
theorem Hp:∀ (m:Nat) (i k:Int) (j:Nat),j<m->Q9 f m i (j:Int)=Ri->Q9 f m (j:Int) k=Ri->Q9 f m i k=Ri
 | 0,_,_,_,h,_,_=>absurd h (Nat.not_lt_zero _)
 | m+1,i,k,j,hj,h1,h2=>by
  have ih:=Hp m;simp only [Q9,Bool.or_eq_true,bae] at h1 h2 ⊢
  by_cases e:j=m
  ·subst e;have a1:Q9 f j i (j:Int)=Ri:=by rcases h1 with h | h;exact h;exact h.1
   have a2:Q9 f j (j:Int) k=Ri:=by rcases h2 with h | h;exact h;exact h.2
   exact .inr ⟨a1,a2⟩
  have hj':j<m:=by omega
  rcases h1 with h1 | ⟨h1,h1'⟩ <;> rcases h2 with h2 | ⟨h2,h2'⟩
  ·exact .inl<|ih i k j hj' h1 h2
  ·exact .inr ⟨ih i m j hj' h1 h2,h2'⟩
  ·exact .inr ⟨h1,ih m k j hj' h1' h2⟩
  exact .inr ⟨h1,h2'⟩
theorem Kq {i k:Int} {j:Nat} (hj:j<N) (h1:Q9 f N i (j:Int)=Ri) (h2:Q9 f N (j:Int) k=Ri):Q9 f N i k=Ri:=Hp N i k j hj h1 h2
theorem Hq {R:Int->Int->Prop} (hR:∀ (i k:Int) (j:Nat),j<N->R i (j:Int)->R (j:Int) k->R i k) (hf:∀ i k:Int,f i k=Ri->R i k):∀ (m:Nat),m<=N->∀ i k:Int,Q9 f m i k=Ri->R i k
 | 0,_,i,k,h=>hf i k h
 | m+1,hm,i,k,h=>by
  simp only [Q9,Bool.or_eq_true,bae] at h;rcases h with h | ⟨h1,h2⟩
  ·exact Hq hR hf m (by omega) i k h
  exact hR i k m (by omega) (Hq hR hf m (by omega) _ _ h1)<|Hq hR hf m (by omega) _ _ h2
def rS (N:Nat) (f:Int->Int->Bool):Bool:=(VV N).all λi => !f (i:Int) (i:Int)
theorem yA:rS N f=Ri↔∀ i:Nat,i<N->f i i=Rj:=by
 unfold rS;rw [List.all_eq_true];exact ⟨λh i hi=>by simpa using h i (Wv.2 hi),λh i hi=>by simp [h i (Wv.1 hi)]⟩
theorem Kr (hN:N<=16):Q4 (dR<|Q8 N f) (· = rS N f):=by
 unfold dR;refine Q4.sum (PS:=λ_=>∀ i:Nat,i<N->f i i=Rj) (PW:=(· = rS N f)) ?_ λ_ h => .pure (yA.2 h).symm;refine Q4.loop (λz=>∃ i:Nat,i<=N/\z=(i:Int)/\∀ j:Nat,j<i->f j j=Rj) (λz=>((N:Int)-z).toNat) ⟨0,by omega,rfl,λj hj=>absurd hj<|by omega⟩ λz ⟨i,h1,h2,h3⟩ => ?_;subst h2;unfold mI;simp only [iD];refine .bifD (λhk=>(uq (by omega) (i:=i) (k:=i) (by omega)<|by omega).bind λv hv => .bif (λhb => .pure ?_) λhb => .gdI (by omega)<|.pure ⟨⟨i+1,by omega,rfl,λj hj=>?_⟩,by omega⟩) λhk => .pure λj hj=>h3 j (by omega)
 ·show Rj=_
  symm
  rw [Bool.eq_false_iff];intro hl;have := yA.1 hl i (by omega);rw [<- hv,hb] at this
  cases this
 by_cases e:j=i
 ·subst e;rw [<- hv];exact hb
 exact h3 j (by omega)
theorem Ks (hN:N<=16):Q4 (kE<|Q8 N f) (· = rS N (Q9 f N)):=by
 unfold kE;refine (tF hN).bind λv hv=>?_;subst hv;exact Q4.bind (P:=(· = rS N (Q9 f N))) (.bif (λ_=>(Fb hN).bind λv hv=>by subst hv;exact (Kr hN).bind λw hw => .pure hw) λh=>by cases h) λv hv => .pure hv
end
def KX (base:BA->Int->Int->Bool) (N:Nat) (op:Int) (nm:BA) (rs:List<|Int->Int->Bool):Int->Int->Bool:=
 if op=1 then base nm else
 let a:=rs.getD 0 λ_ _=>Rj;let b:=rs.getD 1 λ_ _=>Rj
 if op=6 then λi k=>a k i else if op=7 then Q9 a N else
 if op=2 then λi k=>a i k||b i k else if op=3 then λi k=>a i k&&b i k else if op=4 then λi k=>a i k && !b i k else Gn a b N
mutual
def Dw (base:BA->Int->Int->Bool) (N:Nat):ZTE->Int->Int->Bool
 | .mk op nm ks=>KX base N op nm (CM base N ks)
def CM (base:BA->Int->Int->Bool) (N:Nat):List ZTE->List (Int->Int->Bool)
 | []=>[]
 | t::l=>Dw base N t::CM base N l
end
mutual
def VT:ZTE->Prop
 | .mk op nm ks=>(op=1/\nm∈EM)\/((op=6\/op=7)/\ks.length=1/\VL ks)\/((op=2\/op=3\/op=4\/op=5)/\ks.length=2/\VL ks)
def VL:List ZTE->Prop
 | []=>True
 | t::l=>VT t/\VL l
end
theorem O5 {α:Type} {l:List α} (h:l.length=1):∃ a,l=[a]:=by
 match l,h with
 | [a],_=>exact ⟨a,rfl⟩
theorem O6 {α:Type} {l:List α} (h:l.length=2):∃ a b,l=[a,b]:=by
 match l,h with
 | [a,b],_=>exact ⟨a,b,rfl⟩
section
variable {p:List (List QV)} {x:QW} {N:Nat} {base:BA->Int->Int->Bool}
def EvT (p:List<|List QV) (x:QW) (N:Nat) (base:BA->Int->Int->Bool) (d:Nat) (t:ZTE):Prop:=∀ m,d<m->Q4 (cN m p x t.out) (· = Q8 N (Dw base N t))
mutual
theorem O7 (hN:N<=16) (hb:∀ nm∈EM,Q4 (ic p x nm) (· = Q8 N (base nm))):∀ t:ZTE,VT t->∃ d,EvT p x N base d t
 | .mk op nm ks,h=>by
  rw [VT] at h;rcases h with ⟨h1,h2⟩ | ⟨h1,h2,h3⟩ | ⟨h1,h2,h3⟩
  ·refine ⟨0,λm hm=>?_⟩;obtain ⟨m,rfl⟩:∃ q,m=q+1:=⟨m-1,by omega⟩;show Q4 (cK (cN m) p x ⟨op,nm,ks⟩) _;unfold cK J;simp only [];subst h1;refine .bif (λ_=>(hb nm h2).bind λv hv => .pure ?_) λh=>absurd h (by decide);rw [hv,Dw,KX,if_pos rfl]
  ·obtain ⟨d,hd⟩:=NQ hN hb ks h3;obtain ⟨a,rfl⟩:=O5 h2;refine ⟨d+1,λm hm=>?_⟩;obtain ⟨m,rfl⟩:∃ q,m=q+1:=⟨m-1,by omega⟩;have ha:=hd a (by simp) m (by omega);show Q4 (cK (cN m) p x ⟨op,nm,[a]⟩) _;unfold cK J;simp only [];refine .bif (λh=>absurd (eq_of_beq h)<|by omega) λ_ => .gdD ⟨by decide,by simp⟩<|ha.bind λv hv=>?_;subst hv;rcases h1 with rfl | rfl
   ·refine .bif (λ_=>(Kn hN).bind λv hv => .pure ?_) λh=>absurd h (by decide);rw [hv,Dw,CM,CM,KX,if_neg (by decide),if_pos rfl]
    rfl
   refine .bif (λh=>absurd h<|by decide) λ_ => .bif (λ_=>(Fb hN).bind λv hv => .pure ?_) λh=>absurd h (by decide);rw [hv,Dw,CM,CM,KX,if_neg (by decide),if_neg (by decide),if_pos rfl]
   rfl
  obtain ⟨d,hd⟩:=NQ hN hb ks h3;obtain ⟨a,b,rfl⟩:=O6 h2;refine ⟨d+1,λm hm=>?_⟩;obtain ⟨m,rfl⟩:∃ q,m=q+1:=⟨m-1,by omega⟩;have ha:=hd a (by simp) m (by omega);have hbb:=hd b (by simp) m (by omega);show Q4 (cK (cN m) p x ⟨op,nm,[a,b]⟩) _;unfold cK J;simp only [];refine .bif (λh=>absurd (eq_of_beq h)<|by omega) λ_ => .gdD ⟨by decide,by simp⟩<|ha.bind λv hv=>?_;subst hv;refine .bif (λh=>absurd (eq_of_beq h)<|by omega) λ_ => .bif (λh=>absurd (eq_of_beq h)<|by omega) λ_ => .gdD ⟨by decide,by simp⟩<|hbb.bind λw hw=>?_;subst hw;rcases h1 with rfl | rfl | rfl | rfl
  ·refine .bif (λ_=>(NL hN).bind λv hv => .pure ?_) λh=>absurd h (by decide);rw [hv,Dw,CM,CM,CM,KX,if_neg (by decide),if_neg (by decide),if_neg (by decide),if_pos rfl]
   rfl
  ·refine .bif (λh=>absurd h<|by decide) λ_ => .bif (λ_=>(O4 hN).bind λv hv => .pure ?_) λh=>absurd h (by decide);rw [hv,Dw,CM,CM,CM,KX,if_neg (by decide),if_neg (by decide),if_neg (by decide),if_neg (by decide),if_pos rfl]
   rfl
  ·refine .bif (λh=>absurd h<|by decide) λ_ => .bif (λh=>absurd h<|by decide) λ_ => .bif (λ_=>(NM hN).bind λv hv => .pure ?_) λh=>absurd h (by decide);rw [hv,Dw,CM,CM,CM,KX,if_neg (by decide),if_neg (by decide),if_neg (by decide),if_neg (by decide),if_neg (by decide),if_pos rfl]
   rfl
  refine .bif (λh=>absurd h<|by decide) λ_ => .bif (λh=>absurd h<|by decide) λ_ => .bif (λh=>absurd h<|by decide) λ_=>(Ko hN).bind λv hv => .pure ?_;rw [hv,Dw,CM,CM,CM,KX,if_neg (by decide),if_neg (by decide),if_neg (by decide),if_neg (by decide),if_neg (by decide),if_neg (by decide)]
  rfl
theorem NQ (hN:N<=16) (hb:∀ nm∈EM,Q4 (ic p x nm) (· = Q8 N (base nm))):∀ l:List ZTE,VL l->∃ d,∀ t∈l,EvT p x N base d t
 | [],_=>⟨0,λt h=>by cases h⟩
 | t::l,h=>by
  rw [VL] at h;obtain ⟨d1,h1⟩:=O7 hN hb t h.1;obtain ⟨d2,h2⟩:=NQ hN hb l h.2;refine ⟨max d1 d2,λu hu=>?_⟩;rcases V2.1 hu with rfl | hu
  ·exact λm hm=>h1 m (by omega)
  exact λm hm=>h2 u hu m (by omega)
end
theorem O8 (hN:N<=16) (hb:∀ nm∈EM,Q4 (ic p x nm) (· = Q8 N (base nm))) {t:ZTE} (h:VT t):Q4 (r9 p x t.out) (· = Q8 N (Dw base N t)):=by
 obtain ⟨d,hd⟩:=O7 hN hb t h;exact Bf d hd
def okR (base:BA->Int->Int->Bool) (N:Nat) (r:aj):Bool:=rS N (if r.Kind=1 then Q9 (Dw base N r.Expr.inn) N else Dw base N r.Expr.inn)
def VR (r:aj):Prop:=(r.Kind=1\/r.Kind=2)/\VT r.Expr.inn
theorem LU (hN:N<=16) (hb:∀ nm∈EM,Q4 (ic p x nm) (· = Q8 N (base nm))) {m:List aj} (hm:∀ r∈m,VR r) (hl:m.length<=1000):Q4 (gK p x m) λv=>(v.1<0↔∀ r∈m,okR base N r=Ri)/\(v.1<0->v.1 = -1):=by
 unfold gK;refine Q4.sum (PS:=λ_=>∀ r∈m,okR base N r=Ri) (PW:=λv:Int×LI=>(v.1<0↔∀ r∈m,okR base N r=Ri)/\(v.1<0->v.1 = -1)) ?_ λ_ h => .pure ⟨⟨λ_=>h,λ_=>by decide⟩,λ_=>rfl⟩;refine Q4.loop (λz=>∃ i:Nat,i<=m.length/\z=(i:Int)/\∀ j:Nat,j<i->okR base N (m.getD j Rh)=Ri) (λz=>((m.length:Int)-z).toNat) ⟨0,by omega,rfl,λj hj=>absurd hj<|by omega⟩ λz ⟨i,h1,h2,h3⟩ => ?_;subst h2;unfold p5 J;simp only [tnn];refine .bifD (λhk=>?_) λhk => .pure λr hr=>?_
 ·have hmem:=getD_in (l:=m) (i:=i) (by omega);generalize hr:m.getD i Rh=r at hmem;obtain ⟨k1,k2⟩:=hm r hmem;refine .gdD ⟨by omega,hk⟩<|(O8 hN hb (t:=r.Expr.inn) k2).bind λv hv=>?_;subst hv;refine Q4.bind (P:=(· = okR base N r)) ?_ λw hw => .bif (λhf => .pure ⟨⟨λh=>absurd h (by simp only [];omega),λh=>?_⟩,λh=>absurd h<|by simp only [];omega⟩) λh => .gdI (by omega) (.pure ⟨⟨i+1,by omega,rfl,λj hj=>?_⟩,by omega⟩)
  ·unfold oZ okR;rcases k1 with k1 | k1
   ·rw [k1];exact .bif (λ_=>(Ks hN).bind λv hv => .pure<|by rw [hv,if_pos rfl]) λh=>absurd h (by decide)
   rw [k1];exact .bif (λh=>absurd h<|by decide) λ_ => .bif (λ_=>(Kr hN).bind λv hv => .pure<|by rw [hv,if_neg (by decide)]) λh=>absurd h (by decide)
  ·have := h r hmem;rw [<- hw] at this;rw [this] at hf
   cases hf
  by_cases e:j=i
  ·subst e;rw [hr,<- hw];simpa using h
  exact h3 j (by omega)
 obtain ⟨j,hj,rfl⟩:=V8 hr;have := h3 j (by omega);rw [gdq,geq hj] at this;exact this
end
theorem Kt {l:LI} (hl:l.length<=4000000) (n:Int):Q4 (bv l n) (· = plc l n):=by
 unfold bv;refine Q4.sum (PS:=λ_=>n∉l) (PW:=(· = plc l n)) ?_ λ_ hn => .pure (by unfold plc;simp_all);refine Q4.loop (λz=>∃ i:Nat,i<=l.length/\z=(i:Int)/\∀ j,j<i->l.getD j Rh≠n) (λz=>((l.length:Int)-z).toNat) ⟨0,by omega,rfl,λj hj=>by omega⟩ λz ⟨i,h1,h2,h3⟩ => ?_;subst h2;unfold fJ J;refine .bifD (λhk => .gdD ⟨by omega,hk⟩<|.bif (λhe => .pure ?_) λhe => .gdI (by omega)<|.pure ⟨⟨i+1,by omega,rfl,λj hj=>?_⟩,by omega⟩) λhk => .pure ?_
 ·simp only [tnn,beq_iff_eq] at he;have hi:i<l.length:=by omega
  have hm:n∈l:=by rw [he];exact ym hi
  show (i:Int)=plc l n;unfold plc;rw [if_pos hm]
  congr 1
  have h4:=Ww hm;rcases Nat.lt_trichotomy i (l.idxOf n) with h5 | h5 | h5
  ·exfalso;have : l.idxOf n<=i:=by
    have e:l=l.take i++l.drop i:=(List.take_append_drop i l).symm;rw [e,List.idxOf_append]
    split
    ·have := Ww (by assumption:n∈l.take i);rw [We] at this;omega
    rw [Wy hi,show l[i]=n by rw [he,gdq,geq hi];rfl,List.idxOf_cons_self,We];omega
   omega
  ·exact h5
  grind
 ·grind
 intro hm;have h4:=Ww hm
 grind
def ql (e:QX) (w:Bool):Bool:=(e.bK==w) && !(e.Reads==w)
theorem Hr (e:QX) (w:Bool):Q4 (db e w) (· = ql e w):=by
 unfold db;exact Q4.bind (P:=(· = ql e w)) (.bif (λh => .pure<|by unfold ql;simp_all) λh => .pure<|by unfold ql;simp_all) λv hv => .pure hv
def MJ (l:List QV):Bool:=l.any λy=>y.Op==4
theorem O9 {l:List QV} (hl:l.length<=4000000):Q4 (aA l) (· = MJ l):=by
 unfold aA aO;refine Q4.bind (P:=λv:Int=>(0<=v↔MJ l=Ri)) ?_ λv hv => .pure ?_
 ·refine Q4.sum (PS:=λ_=>MJ l=Rj) (PW:=λv:Int=>(0<=v↔MJ l=Ri)) ?_ λ_ hn => .pure (by rw [hn];simp);refine Q4.loop (λz=>∃ i:Nat,i<=l.length/\z=(i:Int)/\∀ j,j<i->((l.getD j Rh).Op==4)=Rj) (λz=>((l.length:Int)-z).toNat) ⟨0,by omega,rfl,λj hj=>by omega⟩ λz ⟨i,h1,h2,h3⟩ => ?_;subst h2;unfold aW qN J;simp only [tnn];refine .bifD (λhk => .gdD ⟨by omega,hk⟩ (Q4.bind (P:=(· = ((l.getD i Rh).Op==4))) (.pure rfl) λv hv => .bif (λhe => .pure ⟨λ_=>?_,λ_=>by omega⟩) λhe => .gdI (by omega)<|.pure ⟨⟨i+1,by omega,rfl,λj hj=>?_⟩,by omega⟩)) λhk => .pure ?_
  ·unfold MJ;rw [List.any_eq_true];exact ⟨l.getD i Rh,getD_in (by omega),by rw [<- hv];exact he⟩
  ·by_cases e:j=i
   ·subst e;rw [<- hv];exact he
   exact h3 j (by omega)
  show MJ l=Rj;unfold MJ;rw [List.any_eq_false];intro y hy;obtain ⟨j,hj,rfl⟩:=V8 hy;have := h3 j (by omega);rw [gdq,geq hj] at this;rw [show l[j]=(Rk l[j]).getD Rh from rfl,this]
  decide
 simp_all
section
variable {p:List (List QV)} {x:XS} {F:LI}
def PG (p:List<|List QV) (i k:Int):Bool:=poB p i k&&MJ (((p.getD (ev p i).Thread.toNat Rh).drop (ev p i).Index.toNat).take<|(ev p k).Index.toNat-(ev p i).Index.toNat)
def QE (p:List<|List QV) (i k:Int):Bool:=Rm<|(ev p i).Loc=(ev p k).Loc
def extB (p:List<|List QV) (i k:Int):Bool:=Rm ((ev p i).Thread≠(ev p k).Thread)||Rm ((ev p i).Thread<0)
def nmR (p:List<|List QV) (x:XS) (nm:BA):Int->Int->Bool:=
 if nm=⟨#[112,111]⟩ then poB p else if nm=⟨#[108,111,99]⟩ then QE p else if nm=⟨#[101,120,116]⟩ then extB p else if nm=⟨#[114,102]⟩ then rfB p x else
 if nm=⟨#[99,111]⟩ then coB p x else if nm=⟨#[102,114]⟩ then frB p x else if nm=⟨#[102,101,110,99,101]⟩ then PG p else
 if nm=⟨#[119,114]⟩ then (λi k=>ql (ev p i) Ri&&ql (ev p k) Rj) else if nm=⟨#[119,119]⟩ then (λi k=>ql (ev p i) Ri&&ql (ev p k) Ri) else λi k=>Rm (i=k)
theorem Ku {l:LI} {n:Int}:0<=plc l n↔n∈l:=by
 unfold plc
 grind
theorem Hs (hX:XOk p x) {l:Int} (hl:0<=l/\l<=2) (i k:Int):Q4 (dQ ⟨x.1,x.2⟩ l i k) (· = (Rm (i∈od x l)&&Rm (k∈od x l)&&Rm (plc (od x l) i<plc (od x l) k))):=by
 unfold dQ J;refine .gdD ⟨hl.1,by simp only [];rw [hX.o];omega⟩ ((Kt (hX.r _) i).bind λv hv=>(Kt (hX.r _) k).bind λw hw=>?_);change v=plc (od x l) i at hv;change w=plc (od x l) k at hw;subst hv hw;refine Q4.bind (P:=(· = (Rm (i∈od x l)&&Rm (k∈od x l)))) (.bifD (λh => .pure ?_) λh => .pure ?_) λv hv=>Q4.bind (P:=(· = (Rm (i∈od x l)&&Rm (k∈od x l)&&Rm (plc (od x l) i<plc (od x l) k)))) (.bif (λh => .pure ?_) λh => .pure ?_) λv hv => .pure hv
 ·rw [decide_eq_true (Ku.1 h),VY];exact decide_eq_decide.2 Ku
 ·rw [decide_eq_false λe=>h (Ku.2 e)]
  rfl
 ·rw [<- hv,h,VY]
 simp_all
theorem Pb (hp:PV p) (C:Cand p x F) {i k:Nat} (hi:i<(evs p).length) (hk:k<(evs p).length) (nm:BA) (hn:nm∈EM):Q4 (qg p ⟨x.1,x.2⟩ (evs p) nm (i:Int) (k:Int)) (· = nmR p x nm i k):=by
 have ei:(evs p).getD i Rh=ev p (i:Int):=by unfold ev;rw [tnn]
 have ek:(evs p).getD k Rh=ev p (k:Int):=by unfold ev;rw [tnn]
 have hl:=ny hp (n:=(i:Int)) (by omega) (by omega);have hX:=PU hp C;have hiF:(i:Int)∈F:=(C.mem _).2 ⟨by omega,by omega⟩;have hkF:(k:Int)∈F:=(C.mem _).2 ⟨by omega,by omega⟩;unfold qg J;simp only [tnn,ei,ek];refine .gdD ⟨by omega,by omega⟩ (.gdD ⟨by omega,by omega⟩ (Q4.bind (P:=(· = (Rm (0<=(ev p i).Thread)&&Rm ((ev p i).Thread=(ev p k).Thread)))) (.bifD (λh => .pure ?_) λh => .pure ?_) λsame hs=>Q4.bind (P:=(· = poB p i k)) (.bif (λh => .pure ?_) λh => .pure ?_) λpo hpo=>?_))
 ·rw [decide_eq_true h,VY];exact Nr _ _
 ·rw [decide_eq_false h];rfl
 ·unfold poB;rw [Bool.and_comm (Rm<|(ev p i).Thread=(ev p k).Thread),<- hs,h,VY]
 ·unfold poB;rw [Bool.and_comm (Rm<|(ev p i).Thread=(ev p k).Thread),<- hs,h,Bool.false_and]
 subst hpo;clear hs;have hn':nm=⟨#[112,111]⟩\/nm=⟨#[108,111,99]⟩\/nm=⟨#[101,120,116]⟩\/nm=⟨#[114,102]⟩\/nm=⟨#[99,111]⟩\/nm=⟨#[102,114]⟩\/nm=⟨#[102,101,110,99,101]⟩\/nm=⟨#[119,114]⟩\/nm=⟨#[119,119]⟩\/nm=⟨#[105,100]⟩:=by
  simpa [EM] using hn
 rcases hn' with rfl | rfl | rfl | rfl | rfl | rfl | rfl | rfl | rfl | rfl
 ·exact Q4.sumR<|.bif (λ_ => .pure rfl) λh=>absurd h (by decide)
 ·exact Q4.sumR<|.bif (λh=>absurd h<|by decide) λ_ => .bif (λ_ => .pure<|congrArg Sum.inr<|Nr _ _) λh=>absurd h (by decide)
 ·refine Q4.sumR<|.bif (λh=>absurd h<|by decide) λ_ => .bif (λh=>absurd h<|by decide) λ_ => .bif (λ_=>?_) λh=>absurd h (by decide);refine Q4.bind (P:=(· = extB p i k)) (.bif (λh => .pure ?_) λh => .pure ?_) λv hv => .pure<|congrArg Sum.inr hv
  ·unfold extB;rw [decide_eq_true (show (ev p i).Thread≠(ev p k).Thread by simpa using h)]
   rfl
  unfold extB;rw [decide_eq_false (show ¬ (ev p i).Thread≠(ev p k).Thread by simpa using h)]
  rfl
 ·refine Q4.sumR<|.bif (λh=>absurd h<|by decide) λ_ => .bif (λh=>absurd h<|by decide) λ_ => .bif (λh=>absurd h<|by decide) λ_ => .bif (λ_=>?_) λh=>absurd h (by decide);refine .gdD ⟨by omega,by show _<((x.1.length:Nat):Int);rw [C.flen];omega⟩ (.pure<|congrArg Sum.inr ?_);show (x.1.getD k Rh==(i:Int))=rfB p x i k;unfold rfB;rw [tnn,Nr]
  cases hr:(ev p (k:Int)).Reads with
  | true=>rw [VY]
  | false=>
   have := C.frN _ hkF hr;rw [tnn] at this;rw [this,Bool.false_and];exact decide_eq_false (by omega)
 ·refine Q4.sumR<|.bif (λh=>absurd h<|by decide) λ_ => .bif (λh=>absurd h<|by decide) λ_ => .bif (λh=>absurd h<|by decide) λ_ => .bif (λh=>absurd h<|by decide) λ_ => .bif (λ_=>?_) λh=>absurd h (by decide);refine (Hs hX hl i k).bind λv hv => .pure<|congrArg Sum.inr ?_;show v=coB p x i k;rw [hv];unfold coB
  congr 1
  have O:=C.ods _ hl;rw [Bool.eq_iff_iff];simp only [bae,dte]
  constructor
  ·rintro ⟨h1,h2⟩;exact ⟨⟨((O.mem _).1 h1).2.1,((O.mem _).1 h2).2.1⟩,((O.mem _).1 h2).2.2.symm⟩
  rintro ⟨⟨h1,h2⟩,h3⟩;exact ⟨(O.mem _).2 ⟨hiF,h1,rfl⟩,(O.mem _).2 ⟨hkF,h2,h3.symm⟩⟩
 ·refine Q4.sumR<|.bif (λh=>absurd h<|by decide) λ_ => .bif (λh=>absurd h<|by decide) λ_ => .bif (λh=>absurd h<|by decide) λ_ => .bif (λh=>absurd h<|by decide) λ_ => .bif (λh=>absurd h<|by decide) λ_ => .bif (λ_=>?_) λh=>absurd h (by decide);refine Q4.bind (P:=(· = frB p x i k)) (.bif (λh1 => .bif (λh2 => .bif (λh3 => .gdD ⟨by omega,by show _<((x.1.length:Nat):Int);rw [C.flen];omega⟩<|(Hs hX hl _ _).bind λv hv => .pure ?_) λh3 => .pure ?_) λh2 => .pure ?_) λh1 => .pure ?_) λv hv => .pure (congrArg Sum.inr hv)
  ·have h3 : ¬ (i:Int)=(k:Int):=by simpa using h3
   have O:=C.ods _ hl;rw [hv];unfold frB;have hrd:=C.rdc _ hiF h1;rw [tnn] at hrd ⊢;rw [h1,h2,decide_eq_false h3,decide_eq_true hrd];simp only [Bool.and_self,VY,Bool.not_false,Bool.and_true]
   congr 1
   refine decide_eq_decide.2 ⟨λh=>((O.mem _).1 h).2.2.symm,λh=>(O.mem _).2 ⟨hkF,h2,h.symm⟩⟩
  ·have h3:(i:Int)=(k:Int):=by simpa using h3
   unfold frB;rw [decide_eq_true h3];simp
  ·unfold frB;rw [h2];simp
  unfold frB;rw [h1];simp
 ·refine Q4.sumR<|.bif (λh=>absurd h<|by decide) λ_ => .bif (λh=>absurd h<|by decide) λ_ => .bif (λh=>absurd h<|by decide) λ_ => .bif (λh=>absurd h<|by decide) λ_ => .bif (λh=>absurd h<|by decide) λ_ => .bif (λh=>absurd h<|by decide) λ_ => .bif (λ_=>?_) λh=>absurd h (by decide);refine Q4.bind (P:=(· = PG p i k)) (.bif (λh=>?_) λh => .pure<|by unfold PG;rw [h];rfl) λv hv => .pure (congrArg Sum.inr hv);have hpo:=h;unfold poB at h;simp only [bae,dte] at h;obtain ⟨⟨h1,h2⟩,h3⟩:=h;rcases gy (p:=p) (n:=(k:Int)) (by omega) (by omega) with hc | ⟨t,q,hI,e⟩
  ·exfalso;have : (ev p (k:Int)).Thread = -1:=by
    rw [show (k:Int)=((k:Nat):Int) from rfl,(mO (p:=p) (l:=k)<|by omega).1]
   omega
  rcases gy (p:=p) (n:=(i:Int)) (by omega) (by omega) with hc | ⟨t',q',hI',e'⟩
  ·exfalso;have : (ev p (i:Int)).Thread = -1:=by
    rw [(mO (p:=p) (l:=i)<|by omega).1]
   omega
  have a1:=(hI.ev (p:=p)).1;have a2:=(hI'.ev (p:=p)).1;rw [<- e] at a1;rw [<- e'] at a2;rw [a1,a2] at h1 h3;simp only at h1 h3;have ht:t'=t:=by omega
  subst ht;have hlen:=hI.k;refine .gdD ⟨by rw [a2];simp only [];omega,by rw [a2];simp only [];have := hI'.t;omega⟩ (.gdD ⟨by rw [a2];simp only [];omega,by rw [a1,a2];simp only [];omega,by rw [a1,a2];simp only [];rw [tnn];omega⟩<|(O9 ?_).bind λv hv => .pure ?_)
  ·have := hp.vs.2 t';rw [a2];simp only [We,Wt,tnn];omega
  rw [hv];unfold PG;rw [hpo,VY]
 ·refine Q4.sumR<|.bif (λh=>absurd h<|by decide) λ_ => .bif (λh=>absurd h<|by decide) λ_ => .bif (λh=>absurd h<|by decide) λ_ => .bif (λh=>absurd h<|by decide) λ_ => .bif (λh=>absurd h<|by decide) λ_ => .bif (λh=>absurd h<|by decide) λ_ => .bif (λh=>absurd h<|by decide) λ_ => .bif (λ_=>?_) λh=>absurd h (by decide);refine (Hr _ _).bind λv hv=>Q4.bind (P:=(· = (ql (ev p i) Ri&&ql (ev p k) Rj))) (.bif (λh=>(Hr _ _).bind λw hw => .pure ?_) λh => .pure ?_) λv hv => .pure<|congrArg Sum.inr hv
  ·have e:ql (ev p i) Ri=Ri:=hv.symm.trans h;show w=(ql (ev p i) Ri&&ql (ev p k) Rj);rw [e];exact hw
  have e:ql (ev p i) Ri=Rj:=hv.symm.trans h;show Rj=(ql (ev p i) Ri&&ql (ev p k) Rj);rw [e]
  rfl
 ·refine Q4.sumR<|.bif (λh=>absurd h<|by decide) λ_ => .bif (λh=>absurd h<|by decide) λ_ => .bif (λh=>absurd h<|by decide) λ_ => .bif (λh=>absurd h<|by decide) λ_ => .bif (λh=>absurd h<|by decide) λ_ => .bif (λh=>absurd h<|by decide) λ_ => .bif (λh=>absurd h<|by decide) λ_ => .bif (λh=>absurd h<|by decide) λ_ => .bif (λ_=>?_) λh=>absurd h (by decide);refine (Hr _ _).bind λv hv=>Q4.bind (P:=(· = (ql (ev p i) Ri&&ql (ev p k) Ri))) (.bif (λh=>(Hr _ _).bind λw hw => .pure ?_) λh => .pure ?_) λv hv => .pure<|congrArg Sum.inr hv
  ·have e:ql (ev p i) Ri=Ri:=hv.symm.trans h;show w=(ql (ev p i) Ri&&ql (ev p k) Ri);rw [e];exact hw
  have e:ql (ev p i) Ri=Rj:=hv.symm.trans h;show Rj=(ql (ev p i) Ri&&ql (ev p k) Ri);rw [e]
  rfl
 refine Q4.sum (PS:=λ_=>True) (PW:=(· = nmR p x ⟨#[105,100]⟩ i k)) (.bif (λh=>absurd h<|by decide) λ_ => .bif (λh=>absurd h<|by decide) λ_ => .bif (λh=>absurd h<|by decide) λ_ => .bif (λh=>absurd h<|by decide) λ_ => .bif (λh=>absurd h<|by decide) λ_ => .bif (λh=>absurd h<|by decide) λ_ => .bif (λh=>absurd h<|by decide) λ_ => .bif (λh=>absurd h<|by decide) λ_ => .bif (λh=>absurd h<|by decide) λ_ => .pure trivial) λ_ _ => .pure<|Nr _ _
theorem PY (hp:PV p) (C:Cand p x F) {nm:BA} (hn:nm∈EM):Q4 (ic p ⟨x.1,x.2⟩ nm) (· = Q8 (evs p).length (nmR p x nm)):=by
 have hel:=jX hp.vs;unfold ic;refine (F8 hp.vs).bind λv1 h1=>?_;subst h1;exact Q4.bind (P:=(· = Q8 (evs p).length (nmR p x nm))) (E9 (by omega) (is:=λi k=>rZ i k p ⟨x.1,x.2⟩ (evs p) nm) λi k hi hk=>(Pb hp C hi hk nm hn).bind λv hv => .pure hv) λv hv => .pure hv
theorem Pd (hv:bq (Q7 p)=Ri):(evs p).length<=15:=by
 have h1:=Cf (p:=p) (λe=>Rm (0<=e.Thread)||Ri) wu (λt k x ho=>by simp [wu,jl,ho]) (λx ho=>by simp [wu,jl,ho]);rw [show (ev0.filter λe=>Rm (0<=e.Thread)||Ri).length=3 from rfl,List.filter_eq_self.2 (λa _=>by simp)] at h1;simp only [bq,sW,bae,dte] at hv;omega
end

def pcA (x:Nat):Nat:=(x / 2&&&6148914691236517205)+(x&&&6148914691236517205)
def pcB (a:Nat):Nat:=(a / 4&&&3689348814741910323)+(a&&&3689348814741910323)
def pcC (b:Nat):Nat:=b / 16+b&&&1085102592571150095
def pcD (c:Nat):Nat:=let d:=c+c / 256;let e:=d+d / 65536;e+e / 4294967296&&&127
def pc (x:Nat):Nat:=pcD<|pcC<|pcB<|pcA x


section
variable {p:List (List QV)} {x:XS} {F:LI}
def lrC (p:List<|List QV) (t idx reg:Int) (e:QX):Bool:=Rm (e.Thread=t)&&Rm (e.Index<idx)&&e.Reads&&(((p.getD t.toNat Rh).getD e.Index.toNat Rh).Reg==reg)
def lrN (p:List<|List QV) (t idx reg:Int):Nat->Int
 | 0 => -1
 | n+1=>if lrC p t idx reg (ev p (n:Int))=Ri then (n:Int) else lrN p t idx reg n
def lrd (p:List<|List QV) (t idx reg:Int):Int:=lrN p t idx reg (evs p).length
theorem MK {t idx reg:Int}:∀ (n:Nat),(lrN p t idx reg n = -1/\∀ i:Nat,i<n->lrC p t idx reg (ev p (i:Int))=Rj)\/∃ r:Nat,r<n/\lrN p t idx reg n=(r:Int)/\lrC p t idx reg (ev p (r:Int))=Ri/\∀ i:Nat,i<n->r<i->lrC p t idx reg (ev p (i:Int))=Rj
 | 0 => .inl ⟨rfl,λi h=>absurd h<|Nat.not_lt_zero _⟩
 | n+1=>by
  by_cases h:lrC p t idx reg (ev p (n:Int))=Ri
  ·exact .inr ⟨n,by omega,if_pos h,h,λi h1 h2=>by omega⟩
  have e:lrN p t idx reg (n+1)=lrN p t idx reg n:=if_neg h;have hf:lrC p t idx reg (ev p (n:Int))=Rj:=by simpa using h
  rcases MK n with ⟨h1,h2⟩ | ⟨r,h1,h2,h3,h4⟩
  ·refine .inl ⟨e.trans h1,λi hi=>?_⟩
   by_cases ei:i=n
   ·subst ei;exact hf
   exact h2 i (by omega)
  grind
theorem Pe (t idx reg:Int):(lrd p t idx reg = -1/\∀ i:Nat,i<(evs p).length->lrC p t idx reg (ev p (i:Int))=Rj)\/∃ r:Nat,r<(evs p).length/\lrd p t idx reg=(r:Int)/\lrC p t idx reg (ev p (r:Int))=Ri/\∀ i:Nat,i<(evs p).length->r<i->lrC p t idx reg (ev p (i:Int))=Rj:=MK _
theorem NR {t idx reg:Int} {e:QX}:lrC p t idx reg e=Ri↔e.Thread=t/\e.Index<idx/\e.Reads=Ri/\((p.getD t.toNat Rh).getD e.Index.toNat Rh).Reg=reg:=by
 unfold lrC
 grind
def LV (p:List<|List QV) (i:Int):QV:=(p.getD (ev p i).Thread.toNat Rh).getD (ev p i).Index.toNat Rh
def lrE (p:List<|List QV) (i:Int):Int:=lrd p (ev p i).Thread (ev p i).Index (LV p i).Reg
def Stp (p:List<|List QV) (x:XS) (i j:Int):Prop := ¬ (ev p i).Thread<0/\(LV p i).Op=3 /\ ¬ lrE p i<0/\j=x.1.getD (lrE p i).toNat Rh
inductive Chn (p:List (List QV)) (x:XS):Int->Int->Prop
 | ini {i:Int} (h:(ev p i).Thread<0):Chn p x i 0
 | val {i:Int} (h : ¬ (ev p i).Thread<0) (h3:(LV p i).Op≠3):Chn p x i (LV p i).Val
 | zer {i:Int} (h : ¬ (ev p i).Thread<0) (h3:(LV p i).Op=3) (hr:lrE p i<0):Chn p x i 0
 | nxt {i j v:Int} (h:Stp p x i j) (c:Chn p x j v):Chn p x i v
inductive Rc (p:List (List QV)) (x:XS):Int->Int->Prop
 | refl (i:Int):Rc p x i i
 | step {i j k:Int} (h:Stp p x i j) (c:Rc p x j k):Rc p x i k
def Cyc (p:List<|List QV) (x:XS) (i:Int):Prop:=∃ j k,Rc p x i j/\Stp p x j k/\Rc p x k j
theorem Stp.det {i j k:Int} (h:Stp p x i j) (h':Stp p x i k):j=k:=h.2.2.2.trans h'.2.2.2.symm
theorem Chn.det {i v w:Int} (h:Chn p x i v):Chn p x i w->v=w:=by
 induction h with
 | ini h=>intro h';cases h' with
  | ini _=>rfl
  | val h1 _=>omega
  | zer h1 _ _=>omega
  | nxt h1 _=>exact absurd h h1.1
 | val h h3=>intro h';cases h' with
  | ini h1=>omega
  | val _ _=>rfl
  | zer _ h1 _=>omega
  | nxt h1 _=>exact absurd h1.2.1 h3
 | zer h h3 hr=>intro h';cases h' with
  | ini h1=>omega
  | val _ h1=>omega
  | zer _ _ _=>rfl
  | nxt h1 _=>exact absurd hr h1.2.2.1
 | nxt h c ih=>intro h';cases h' with
  | ini h1=>exact absurd h1 h.1
  | val _ h1=>exact absurd h.2.1 h1
  | zer _ _ h1=>exact absurd h1 h.2.2.1
  | nxt h1 c1=>obtain rfl:=h.det h1;simp_all
theorem Chn.not_cyc {i v:Int} (h:Chn p x i v) : ¬ Cyc p x i:=by
 have nost:∀ {i},(∀ j,¬ Stp p x i j) -> ¬ Cyc p x i:=λ{i} hn ⟨j,k,h1,h2,h3⟩=>by
  cases h1 with
  | refl _=>simp_all
  | step h _=>simp_all
 induction h with
 | ini h=>exact nost λj hj=>hj.1 h
 | val h h3=>exact nost λj hj=>h3 hj.2.1
 | zer h h3 hr=>exact nost λj hj=>hj.2.2.1 hr
 | nxt h c ih=>
  rintro ⟨j,k,h1,h2,h3⟩
  cases h1 with
  | refl _=>
   obtain rfl:=h.det h2;exact ih ⟨_,_,h3,h2,h3⟩
  | step h' c'=>
   obtain rfl:=h.det h';exact ih ⟨j,k,c',h2,h3⟩
theorem Cyc.step {i j:Int} (h:Stp p x i j) (c:Cyc p x j):Cyc p x i:=by
 obtain ⟨a,b,h1,h2,h3⟩:=c;exact ⟨a,b,.step h h1,h2,h3⟩
end
section
variable {p:List (List QV)} {x:XS} {F:LI}
inductive HC (p:List (List QV)) (x:XS):Int->Int->Nat->Prop
 | ini {i:Int} (h:(ev p i).Thread<0):HC p x i 0 0
 | val {i:Int} (h : ¬ (ev p i).Thread<0) (h3:(LV p i).Op≠3):HC p x i (LV p i).Val 0
 | zer {i:Int} (h : ¬ (ev p i).Thread<0) (h3:(LV p i).Op=3) (hr:lrE p i<0):HC p x i 0 0
 | nxt {i j v:Int} {n:Nat} (h:Stp p x i j) (c:HC p x j v n):HC p x i v (n+1)
theorem Stp.dom (hp:PV p) (C:Cand p x F) {i j:Int} (hi:0<=i/\i<((evs p).length:Int)) (h:Stp p x i j):(0<=j/\j<((evs p).length:Int))/\(ev p j).bK=Ri:=by
 obtain ⟨_,_,hr,e⟩:=h;rcases Pe (p:=p) (ev p i).Thread (ev p i).Index (LV p i).Reg with ⟨g1,_⟩ | ⟨r,g1,g2,g3,_⟩
 ·exact absurd (show lrE p i<0 by unfold lrE;omega) hr
 have hrd:=(NR.1 g3).2.2.1;have hrF:(r:Int)∈F:=(C.mem _).2 ⟨by omega,by omega⟩;have hfr:=((C.ods _<|ny hp (n:=(r:Int)) (by omega)<|by omega).mem _).1<|C.rdc _ hrF hrd;rw [show (r:Int)=lrE p i from g2.symm,<- e] at hfr;exact ⟨(C.mem _).1 hfr.1,hfr.2.1⟩
theorem Chn.hc (hp:PV p) (C:Cand p x F) {i v:Int} (h:Chn p x i v):0<=i/\i<((evs p).length:Int)->∃ n:Nat,n<(evs p).length/\HC p x i v n:=by
 have key:∀ {i v:Int},Chn p x i v->0<=i/\i<((evs p).length:Int)->∃ (n:Nat) (l:LI),HC p x i v n/\l.length=n+1/\l.Nodup/\(∀ j∈l,Rc p x i j)/\∀ j∈l,0<=j/\j<((evs p).length:Int):=by
  intro i v h
  induction h with
  | @ini i h=>exact λhi=>⟨0,[i],.ini h,rfl,by simp,λj hj=>by rw [V3.1 hj];exact .refl _,λj hj=>by rw [V3.1 hj];exact hi⟩
  | @val i h h3=>exact λhi=>⟨0,[i],.val h h3,rfl,by simp,λj hj=>by rw [V3.1 hj];exact .refl _,λj hj=>by rw [V3.1 hj];exact hi⟩
  | @zer i h h3 hr=>exact λhi=>⟨0,[i],.zer h h3 hr,rfl,by simp,λj hj=>by rw [V3.1 hj];exact .refl _,λj hj=>by rw [V3.1 hj];exact hi⟩
  | @nxt i j v h c ih=>
   intro hi;obtain ⟨n,l,k1,k2,k3,k4,k5⟩:=ih (h.dom hp C hi).1;refine ⟨n+1,i::l,.nxt h k1,by rw [llc,k2],List.nodup_cons.2 ⟨λhm=>?_,k3⟩,λq hq=>?_,λq hq=>?_⟩
   ·exact (Chn.nxt h c).not_cyc ⟨i,j,.refl _,h,k4 i hm⟩
   ·rcases V2.1 hq with rfl | hq
    ·exact .refl _
    exact .step h<|k4 q hq
   rcases V2.1 hq with rfl | hq
   ·exact hi
   exact k5 q hq
 intro hi;obtain ⟨n,l,k1,k2,k3,_,k5⟩:=key h hi;have := Ls Int.toNat (evs p).length l k3 (λj hj=>by have := k5 j hj;omega) λa ha b hb e=>by have := k5 a ha;have := k5 b hb;omega
 exact ⟨n,by omega,k1⟩
end



def Le {α:Type} (a b:Option α):Prop:=∀ q,a=Rk q->b=Rk q
theorem Le.refl {α:Type} (a:Option α):Le a a:=λ_ h=>h
theorem Le.bind {α β:Type} {a b:Option α} {k l:α->Option β} (h:Le a b) (hk:∀ x,Le (k x)<|l x):Le (a.bind k) (b.bind l):=λq hq=>by
 obtain ⟨x,h1,h2⟩:=WE.1 hq;exact WE.2 ⟨x,h x h1,hk x q h2⟩
theorem Le.gd {α:Type} {a b:Option α} (c:Bool) (h:Le a b):Le (gd c a) (gd c b):=λq hq=>by
 obtain ⟨h1,h2⟩:=gdL hq;rw [oP h1];exact h q h2
theorem Le.bif {α:Type} {a b a' b':Option α} (c:Bool) (h:Le a a') (h':Le b b'):Le (bif c then a else b) (bif c then a' else b'):=by
 cases c
 ·exact h'
 exact h
theorem Le.ifc {α:Type} {a b a' b':Option α} (c:Prop) [Decidable c] (h:Le a a') (h':Le b b'):Le (if c then a else b) (if c then a' else b'):=by
 split
 ·exact h
 exact h'
theorem Le.sumK {S W:Type} {a b:Option (S ⊕ W)} {k l:S->Option W} (h:Le a b) (hk:∀ x,Le (k x)<|l x):Le (sumK a k) (sumK b l):=λq hq=>by
 cases a with
 | none=>cases hq
 | some z=>
  rw [h z rfl]
  cases z with
  | inl s=>exact hk s q hq
  | inr w=>exact hq
def oD {S E:Type} (n:Nat) (step:S->Option (S ⊕ E)) (s:S):Option E:=
 Nat.rec (motive:=λ_=>S->Option E) (λ_=>Rl) (λ_ ih s=>match step s with
  | none=>Rl
  | some (.inl s')=>ih s'
  | some (.inr e)=>Rk e) n s
theorem Le.loop {S E:Type} {n:Nat} {step step':S->Option (S ⊕ E)} (h:∀ s,Le (step s)<|step' s) (s:S):Le (oD n step s) (loopO step' s):=by
 induction n generalizing s with
 | zero=>intro q hq;cases hq
 | succ n ih=>
  intro q hq;rw [uf]
  change (match step s with
   | none=>Rl
   | some (.inl s')=>oD n step s'
   | some (.inr e)=>Rk e)=Rk q at hq
  match hs:step s with
  | none=>rw [hs] at hq;cases hq
  | some (.inl s')=>
   rw [hs] at hq;rw [h s _ hs];exact ih s' q hq
  | some (.inr e)=>
   rw [hs] at hq;rw [h s _ hs];exact hq
def PZ {α:Type} (e:Bool) (_ b:Option α):Option α:=bif e then Rl else b
theorem Le.nilK {α:Type} {e:Bool} {a b a' b':Option α} (_:Le a a') (h:Le b b'):Le (PZ e a b) (nilK e a' b'):=λq hq=>by
 cases e with
 | true=>cases hq
 | false=>
  unfold Go.Proofs.YtabfkkjdfhbngaaGreatDoor.nilK;exact h q hq
def nX:Option (List BA):= Rk ([(⟨#[120,61,49,59,97,61,121,124,121,61,49,59,97,61,120]⟩:BA),(⟨#[120,61,49,59,102,101,110,99,101,59,97,61,121,124,121,61,49,59,102,101,110,99,101,59,97,61,120]⟩:BA),(⟨#[120,61,49,59,121,61,49,124,97,61,121,59,98,61,120]⟩:BA),(⟨#[120,61,49,59,121,61,49,124,97,61,121,59,102,101,110,99,101,59,98,61,120]⟩:BA),(⟨#[120,61,49,59,102,101,110,99,101,59,121,61,49,124,97,61,121,59,98,61,120]⟩:BA),(⟨#[97,61,120,59,121,61,49,124,97,61,121,59,120,61,49]⟩:BA),(⟨#[97,61,120,59,121,61,97,124,97,61,121,59,120,61,97]⟩:BA),(⟨#[120,61,49,124,120,61,50,124,97,61,120,59,98,61,120]⟩:BA),(⟨#[120,61,49,124,121,61,49,124,97,61,120,59,98,61,121,124,97,61,121,59,98,61,120]⟩:BA),(⟨#[120,61,49,124,97,61,120,59,121,61,49,124,97,61,121,59,98,61,120]⟩:BA),(⟨#[120,61,49,124,121,61,49,124,97,61,120,59,98,61,121]⟩:BA),(⟨#[97,61,120,58,49,124,97,61,120,58,50,124,120,61,51]⟩:BA),(⟨#[120,61,49,59,97,61,120,59,98,61,121,124,121,61,49,59,97,61,121,59,98,61,120]⟩:BA),(⟨#[120,61,50,59,121,61,49,124,121,61,50,59,120,61,49]⟩:BA),(⟨#[97,61,120,58,49,59,98,61,121,124,97,61,121,58,49,59,98,61,120]⟩:BA),(⟨#[120,61,49,59,120,61,50,124,97,61,120,59,98,61,120]⟩:BA),(⟨#[120,61,49,59,121,61,49,59,97,61,122,124,122,61,49,59,97,61,121,59,98,61,120]⟩:BA),(⟨#[97,61,120,58,49,124,98,61,120,58,49]⟩:BA),(⟨#[102,101,110,99,101]⟩:BA),(⟨#[]⟩:BA),(⟨#[120,61,49,59,97,61,121,124,121,61,49,59,102,101,110,99,101,59,97,61,120]⟩:BA)]:List BA)
def o7 (s:BA) (c:Int):LS ((List BA)×Int×Int) (List BA):=λs5=>bif Rm (s5.2.1<=(s.size:Int)) then VU (VU (bif (s5.2.1==(s.size:Int)) then Rk Ri else gd (Rm<|0<=s5.2.1/\s5.2.1<(s.size:Int)) <|Rk<|((s.data.getD s5.2.1.toNat 0).toNat:Int)==c) λs10=>bif s10 then gd (Rm<|0<=s5.2.2/\s5.2.2<=s5.2.1/\s5.2.1<=(s.size:Int)) <|gd (bT (s5.1.length+1) 16) <|gd (QS .i64<|s5.2.1+(1:Int)) <|Rk ((s5.1++[(s.extract s5.2.2.toNat s5.2.1.toNat)]),(s5.2.1+(1:Int))) else Rk (s5.1,s5.2.2)) λs9=>gd (QS .i64<|s5.2.1+(1:Int)) <|Rk (.inl (s9.1,(s5.2.1+(1:Int)),s9.2)) else Rk (.inr s5.1)
def mQ (s:BA) (c:Int):Option (List BA):= VU (loopO (o7 s c) (([]:List BA),(0:Int),(0:Int))) λs1=>Rk s1
def bP (s:BA) (at_:Int) (from_:Int) (most:Int):Option Int:= VU (bif Rm ((s.size:Int)<=at_) then Rk Ri else gd (Rm<|0<=at_/\at_<(s.size:Int)) <|Rk<|Rm<|((s.data.getD at_.toNat 0).toNat:Int)<from_) λs1=>VU (bif s1 then Rk Ri else gd (Rm<|0<=at_/\at_<(s.size:Int)) <|gd (QS .u8<|((s.data.getD at_.toNat 0).toNat:Int)-from_) <|gd (QS .i64<|((s.data.getD at_.toNat 0).toNat:Int)-from_) <|Rk<|Rm<|most<(((s.data.getD at_.toNat 0).toNat:Int)-from_)) λs4=>bif s4 then Rk (-1:Int) else gd (Rm<|0<=at_/\at_<(s.size:Int)) <|gd (QS .u8<|((s.data.getD at_.toNat 0).toNat:Int)-from_) <|gd (QS .i64<|((s.data.getD at_.toNat 0).toNat:Int)-from_) <|Rk<|((s.data.getD at_.toNat 0).toNat:Int)-from_
def nY (s:BA):Option QV:= bif Rm (s=(⟨#[102,101,110,99,101]⟩:BA)) then Rk (⟨(4:Int),(0:Int),(0:Int),(0:Int)⟩:QV) else VU (bP s (0:Int) (97:Int) (2:Int)) λv2=>VU (bP s (0:Int) (120:Int) (2:Int)) λv3=>VU (bif Rm ((0:Int)<=v2) then Rk ((s.size:Int)==(3:Int)) else Rk Rj) λs4=>bif s4 then VU (bP s (2:Int) (120:Int) (2:Int)) λv7=>Rk (⟨(1:Int),v7,v2,(0:Int)⟩:QV) else VU (bif Rm ((0:Int)<=v2) then Rk ((s.size:Int)==(5:Int)) else Rk Rj) λs8=>bif s8 then VU (bP s (2:Int) (120:Int) (2:Int)) λv11=>VU (bP s (4:Int) (48:Int) (3:Int)) λv12=>Rk (⟨(5:Int),v11,v2,v12⟩:QV) else VU (bif Rm ((0:Int)<=v3) then VU (bP s (2:Int) (97:Int) (2:Int)) λv15=>Rk (Rm<|(0:Int)<=v15) else Rk Rj) λs13=>bif s13 then VU (bP s (2:Int) (97:Int) (2:Int)) λv17=>Rk (⟨(3:Int),v3,v17,(0:Int)⟩:QV) else VU (bP s (2:Int) (48:Int) (3:Int)) λv18=>Rk (⟨(2:Int),v3,(0:Int),v18⟩:QV)
def kL (p:List<|List QV) (s4:Int×BA):LS (Int×BA) BA:=λs13=>gd (Rm<|0<=s4.1/\s4.1<(p.length:Int)) <|bif Rm (s13.1<((J p s4.1).length:Int)) then VU (bif Rm ((0:Int)<s13.1) then gd (Rm<|s13.2.size+(⟨#[59]⟩:BA).size<=9223372036854775807) <|Rk (s13.2++(⟨#[59]⟩:BA)) else Rk s13.2) λs17=>gd (Rm<|0<=s13.1/\s13.1<((J p s4.1).length:Int)) <|VU (qj<|J (J p s4.1) s13.1) λv21=>gd (Rm<|s17.size+v21.size<=9223372036854775807) <|gd (QS .i64<|s13.1+(1:Int)) <|Rk (.inl ((s13.1+(1:Int)),(s17++v21))) else Rk (.inr s13.2)
def lK (p:List<|List QV):LS (Int×BA) BA:=λs4=>bif Rm (s4.1<(p.length:Int)) then VU (VU (bif Rm ((0:Int)<s4.1) then gd (Rm<|s4.2.size+(⟨#[124]⟩:BA).size<=9223372036854775807) <|Rk (s4.2++(⟨#[124]⟩:BA)) else Rk s4.2) λs8=>loopO (kL p s4) ((0:Int),s8)) λs7=>gd (QS .i64<|s4.1+(1:Int)) <|Rk (.inl ((s4.1+(1:Int)),s7)) else Rk (.inr s4.2)
def lw (p:List<|List QV):Option BA:= VU (loopO (lK p) ((0:Int),(⟨#[]⟩:BA))) λs1=>Rk s1
def iE (v1:(List BA)) (s6:(List<|List QV)×Int) (v14:(List BA)):LS ((List QV)×Int) (List QV):=λs19=>VU (bif Rm (s19.2<(v14.length:Int)) then Rk (Rm<|s19.2<=(7:Int)) else Rk Rj) λs22=>VU (bif s22 then Rk (!decide ((J v1 s6.2)=(⟨#[]⟩:BA))) else Rk Rj) λs24=>bif s24 then gd (Rm<|0<=s19.2/\s19.2<(v14.length:Int)) <|VU (nY<|J v14 s19.2) λv28=>gd (bT (s19.1.length+1) 32) <|gd (QS .i64<|s19.2+(1:Int)) <|Rk (.inl ((s19.1++[v28]),(s19.2+(1:Int)))) else Rk (.inr s19.1)
def iZ (v1:(List BA)):LS ((List<|List QV)×Int) (List<|List QV):=λs6=>VU (bif Rm (s6.2<(v1.length:Int)) then Rk (Rm<|s6.2<=(3:Int)) else Rk Rj) λs9=>bif s9 then VU (gd (Rm<|0<=s6.2/\s6.2<(v1.length:Int)) <|VU (mQ (J v1 s6.2) (59:Int)) λv14=>VU (loopO (iE v1 s6 v14) (([]:List QV),(0:Int))) λs15=>gd (bT (s6.1.length+1) 24) <|Rk<|s6.1++[s15]) λs12=>gd (QS .i64<|s6.2+(1:Int)) <|Rk (.inl (s12,(s6.2+(1:Int)))) else Rk (.inr s6.1)
def eO (text:BA):Option ((List<|List QV)×Bool):= VU (mQ text (124:Int)) λv1=>VU (loopO (iZ v1) (([]:List<|List QV),(0:Int))) λs2=>VU (bf s2) λv36=>VU (bif !v36 then Rk Ri else VU (lw s2) λv39=>Rk<|!decide (v39=text)) λs37=>bif s37 then Rk (([]:List<|List QV),Rj) else Rk (s2,Ri)
def fT (r_:ah):Option (ah×QV):= VU (az (⟨r_.b,r_.p⟩:ah) (2:Int)) λv1=>VU (az (⟨v1.1.b,v1.1.p⟩:ah) (7:Int)) λv2=>bif (v2.2==(0:Int)) then Rk ((⟨v2.1.b,v2.1.p⟩:ah),(⟨(4:Int),(0:Int),(0:Int),(0:Int)⟩:QV)) else bif (v2.2==(1:Int)) then VU (az (⟨v2.1.b,v2.1.p⟩:ah) (2:Int)) λv5=>Rk ((⟨v5.1.b,v5.1.p⟩:ah),(⟨(3:Int),v1.2,v5.2,(0:Int)⟩:QV)) else bif (v2.2==(2:Int)) then VU (az (⟨v2.1.b,v2.1.p⟩:ah) (2:Int)) λv7=>VU (az (⟨v7.1.b,v7.1.p⟩:ah) (3:Int)) λv8=>gd (QS .i64<|(1:Int)+v8.2) <|Rk ((⟨v8.1.b,v8.1.p⟩:ah),(⟨(5:Int),v1.2,v7.2,((1:Int)+v8.2)⟩:QV)) else VU (bif (v2.2==(3:Int)) then Rk (v2.2==(3:Int)) else Rk (v2.2==(4:Int))) λs10=>bif s10 then VU (az (⟨v2.1.b,v2.1.p⟩:ah) (3:Int)) λv13=>gd (QS .i64<|(1:Int)+v13.2) <|Rk ((⟨v13.1.b,v13.1.p⟩:ah),(⟨(2:Int),v1.2,(0:Int),((1:Int)+v13.2)⟩:QV)) else VU (az (⟨v2.1.b,v2.1.p⟩:ah) (2:Int)) λv15=>Rk ((⟨v15.1.b,v15.1.p⟩:ah),(⟨(1:Int),v1.2,v15.2,(0:Int)⟩:QV))
def nO:LS ((LI)×Int×(List QV)×Int) ((LI)×Int×(List QV)):=λs24=>bif Rm ((0:Int)<s24.2.2.2) then VU (fT (⟨s24.1,s24.2.1⟩:ah)) λv28=>gd (bT (s24.2.2.1.length+1) 32) <|gd (QS .i64<|s24.2.2.2-(1:Int)) <|Rk (.inl (v28.1.b,v28.1.p,(s24.2.2.1++[v28.2]),(s24.2.2.2-(1:Int)))) else Rk (.inr (s24.1,s24.2.1,s24.2.2.1))
def nP:LS ((LI)×Int×(List<|List QV)×Int) ((LI)×Int×(List<|List QV)):=λs14=>bif Rm ((0:Int)<s14.2.2.2) then VU (VU (VU (bi (⟨s14.1,s14.2.1⟩:ah) ([(2:Int),(1:Int),(3:Int),(2:Int),(0:Int)]:LI)) λv20=>loopO nO (v20.1.b,v20.1.p,([]:List QV),v20.2)) λs19=>gd (bT (s14.2.2.1.length+1) 24) <|Rk (s19.1,s19.2.1,(s14.2.2.1++[s19.2.2]))) λs18=>gd (QS .i64<|s14.2.2.2-(1:Int)) <|Rk (.inl (s18.1,s18.2.1,s18.2.2,(s14.2.2.2-(1:Int)))) else Rk (.inr (s14.1,s14.2.1,s14.2.2.1))
def qm (r_:ah):Option (ah×(List<|List QV)):= VU (nX) λv1=>sumK (VU (az (⟨r_.b,r_.p⟩:ah) (3:Int)) λv3=>bif Rm ((0:Int)<v3.2) then VU (az (⟨v3.1.b,v3.1.p⟩:ah) (v1.length:Int)) λv5=>gd (Rm<|0<=v5.2/\v5.2<(v1.length:Int)) <|VU (eO<|J v1 v5.2) λv7=>bif v7.2 then Rk (.inr ((⟨v5.1.b,v5.1.p⟩:ah),v7.1)) else Rk (.inl (v5.1.b,v5.1.p)) else Rk (.inl (v3.1.b,v3.1.p))) λs2=>VU (VU (bi (⟨s2.1,s2.2⟩:ah) ([(2:Int),(3:Int),(1:Int)]:LI)) λv10=>loopO nP (v10.1.b,v10.1.p,([]:List<|List QV),v10.2)) λs9=>VU (bf s9.2.2) λv36=>bif v36 then Rk ((⟨s9.1,s9.2.1⟩:ah),s9.2.2) else VU (fT (⟨s9.1,s9.2.1⟩:ah)) λv38=>Rk ((⟨v38.1.b,v38.1.p⟩:ah),([([v38.2]:List QV)]:List<|List QV))
def qo (n:Int):Option BA:=bif Rm (0<=n/\n<=9) then Rk (strOfNums ([((48:Int)+n)]:LI)++(⟨#[]⟩:BA)) else Rl
theorem strOfNums_size (l:LI):(strOfNums l).size=l.length:=by
 simp [strOfNums,ByteArray.size]
theorem Ar (n:Int):Le (qo n) (qi n):=by
 intro v h;unfold qo at h
 by_cases hn:0<=n/\n<=9
 ·rw [decide_eq_true hn] at h;obtain rfl:=osl h;refine vo 1 λk hk=>?_
  match k,hk with
  | k+1,_=>
   show mM (jy k) n=_;refine Q4.eq ?_;unfold mM;refine .bifD (λh=>by omega) λ_ => .bifD (λh=>by omega) λ_=>?_;refine Q4.bind (P:=(· = ((⟨#[]⟩:BA),n))) ?_ λs hs=>?_
   ·refine Q4.loop (λs=>s=((⟨#[]⟩:BA),n)) (λ_=>0) rfl λs hs=>?_;subst hs;unfold tz;exact .bifD (λh=>by simp only [] at h;omega) λ_ => .pure rfl
   subst hs;refine .gdI (by simp only [];omega) (.gdY (by simp only [];omega)<|.gdD ?_<|.pure rfl);rw [strOfNums_size];exact nlb rfl
 rw [decide_eq_false hn] at h
 cases h
end
end Go.Proofs.YtabfkkjdfhbngaaGreatDoor
