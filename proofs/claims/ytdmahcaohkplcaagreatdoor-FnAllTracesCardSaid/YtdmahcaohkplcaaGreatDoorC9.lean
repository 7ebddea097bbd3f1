/- Texts joined. No conditions. -/
import Derived.Test.YtdmahcaohkplcaaGreatDoorC8
namespace Go.Proofs.YtdmahcaohkplcaaGreatDoor
noncomputable section
open _root_.Inhabited renaming default -> Uo
open _root_.Bool renaming true -> Uq
open _root_.Bool renaming false -> Ur
open _root_.Option renaming some -> Us
open _root_.Decidable renaming decide -> Uu
open _root_.List renaming range -> YE, nil_append -> YG, length_take -> YH, length_range -> YI, take_length -> YK, append_assoc -> YN, mem_map -> YP, length_drop -> YQ, mem_range -> YS, mem_singleton -> YT, mem_append -> YV, replicate -> YW, take_of_length_le -> YZ, filter_append -> Y0, mem_cons -> Y1, length_nil -> Y2, drop_eq_getElem_cons -> Y3, drop_eq_nil_of_le -> Y4, mem_filter -> Y5, range_succ -> Y6, length_singleton -> Y7, mem_flatMap -> Y8, take_append_drop -> Za, getElem_mem -> Zb, idxOf_lt_length_of_mem -> Zc, getElem_of_mem -> Zd, length_tail -> Ze, mem_cons_self -> Zh, map_append -> Zi, filter_eq_self -> Zj, getElem_map -> Zl, flatMap_append -> Zn, eq_nil_of_length_eq_zero -> Zo, mem_cons_of_mem -> Zp, length_filter_le -> Zq, perm_ext_iff_of_nodup -> Zr, map_congr_left -> Zt
open _root_.Nat renaming le_trans -> YF, zero_le -> YJ, le_refl -> YR, le_mul_of_pos_right -> YX, le_mul_of_pos_left -> YY, mul_pos -> Y9, lt_or_ge -> Zf, mul_le_mul -> Zg, sub_self -> Zk, eq_of_testBit_eq -> Zu
open _root_.Bool renaming true_and -> YL
open _root_.BitVec renaming ofInt -> YM, ofInt_natCast -> Zv, toNat_ofNat -> Zw
open _root_.Option renaming bind -> YO
open _root_.Int renaming toNat_of_nonneg -> YU
open _root_.Prod.mk renaming inj -> Zm
open Go.RowKit
set_option maxRecDepth 100000
section
variable {α β:Type}
theorem fL {step:List α×Int->Option ((List α×Int) ⊕ List α)} (n:Nat) (a:List α) (h:Nat->List α) (hs:∀ k,k<n->Uc (step (a++(YE k).flatMap h,(k:Int))) (· = .inl (a++(YE<|k+1).flatMap h,((k+1:Nat):Int))))
  (he:Uc (step (a++(YE n).flatMap h,(n:Int))) (· = .inr (a++(YE n).flatMap h))):Uc (loopO step (a,(0:Int))) (· = a++(YE n).flatMap h):=by
 refine Uc.loop (λs=>∃ k:Nat,k<=n/\s=(a++(YE k).flatMap h,(k:Int))) (λs=>((n:Int)-s.2).toNat) ⟨0,YJ _,by simp⟩ λs ⟨k,hk,e⟩ => ?_;subst e
 by_cases hlt:k<n
 ·refine (hs k hlt).mono λv hv=>?_;subst hv;exact ⟨⟨k+1,hlt,rfl⟩,by simp only [];omega⟩
 grind
theorem bW (h:Nat->List α) (k:Nat):(YE<|k+1).flatMap h=(YE k).flatMap h++h k:=by
 rw [Y6,Zn];simp
theorem vL (h:Nat->List α) {k n:Nat} (hk:k<=n):((YE k).flatMap h).length<=((YE n).flatMap h).length:=by
 induction hk with
 | refl=>omega
 | step _ ih=>rw [bW,lla];omega
theorem BQ {l:List α} {f g:α->List β} (h:∀ a∈l,f a=g a):l.flatMap f=l.flatMap g:=by
 induction l with
 | nil=>rfl
 | cons a l ih=>
  simp_all
theorem cm [Inhabited α] (l:List α) (f:α->List β):(YE l.length).flatMap (λk=>f<|l.getD k Uo)=l.flatMap f:=by
 induction l using Dv with
 | h0=>rfl
 | hs l a ih=>
  have e:(l++[a]).getD l.length Uo=a:=by rw [gdq,gar (YR _)];simp
  rw [lla,Y7,bW,e,Zn,<- ih]
  congr 1
  ·refine BQ λk hk=>?_
   grind
  simp
theorem qh (l:List α) (f:α->β):l.flatMap (λa=>[f a])=l.map f:=by
 induction l with
 | nil=>rfl
 | cons a l ih=>simp_all
theorem dS {l:List α} {f:α->List β} {m:Nat} (h:∀ a∈l,(f a).length=m):(l.flatMap f).length=l.length*m:=by
 induction l with
 | nil=>simp
 | cons a l ih=>
  grind
def rB:List (List α)->List (List α)
 | []=>[[]]
 | c::cs=>c.flatMap λy=>(rB cs).map (y :: ·)
theorem AQ (cs:List<|List α) (c:List α):rB (cs++[c])=(rB cs).flatMap λx=>c.map λy=>x++[y]:=by
 induction cs with
 | nil=>
  show c.flatMap (λy=>[[y]])=[[]].flatMap λx=>c.map λy=>x++[y];rw [qh];simp
 | cons d ds ih=>
  show d.flatMap (λz=>(rB<|ds++[c]).map (z :: ·))=(d.flatMap λz=>(rB ds).map (z :: ·)).flatMap λx=>c.map λy=>x++[y];rw [ih,List.flatMap_assoc];refine BQ λz _=>?_;rw [List.map_flatMap,List.flatMap_map];refine BQ λx _=>?_
  simp_all
theorem mE:∀ {cs:List (List α)} {x:List α},x∈rB cs↔x.length=cs.length/\∀ (i:Nat) (h:i<cs.length),∃ y∈cs[i],x[i]? = Us y
 | [],x=>by
  show x∈[[]]↔_;rw [YT]
  constructor
  ·rintro rfl;exact ⟨rfl,λi h=>by simp at h⟩
  rintro ⟨h,_⟩;exact Zo h
 | c::cs,x=>by
  show x∈c.flatMap (λy=>(rB cs).map (y :: ·))↔_;simp only [Y8,YP]
  constructor
  ·rintro ⟨y,hy,z,hz,rfl⟩;obtain ⟨h1,h2⟩:=mE.1 hz;refine ⟨by simp [h1],λi hi=>?_⟩
   match i with
   | 0=>exact ⟨y,hy,rfl⟩
   | i+1=>exact h2 i (by simpa using hi)
  rintro ⟨h1,h2⟩
  match x,h1 with
  | y::z,h1=>
   obtain ⟨y',hy',e⟩:=h2 0 (by simp);obtain rfl:y=y':=by simpa using e
   exact ⟨y,hy',z,mE.2 ⟨by simpa using h1,λi hi=>h2 (i+1)<|by simpa using hi⟩,rfl⟩
def qH (l:List Nat):Nat:=l.foldr (· * ·) 1
theorem wM:∀ cs:List (List α),(rB cs).length=qH (cs.map List.length)
 | []=>rfl
 | c::cs=>by
  show (c.flatMap λy=>(rB cs).map (y :: ·)).length=c.length*qH (cs.map List.length);rw [<- wM cs];exact dS λy _=>llm _
theorem CG (l k:List Nat):qH (l++k)=qH l*qH k:=by
 induction l with
 | nil=>show qH k=1*_;omega
 | cons a l ih=>
  show a*qH (l++k)=a*qH l*qH k
  grind
theorem FK {l k:List Nat} (hl:l.length=k.length) (h:∀ i:Nat,i<l.length->l.getD i 0<=k.getD i 0):qH l<=qH k:=by
 induction l generalizing k with
 | nil=>
  grind
 | cons a l ih=>
  match k,hl with
  | b::k,hl=>
   refine Zg ?_<|ih (by grind) λi hi=>?_
   ·have := h 0 (by simp)
    grind
   have := h (i+1) (by simpa using hi)
   simp_all
theorem AR {l:List Nat} (h:∀ a∈l,1<=a):1<=qH l:=by
 induction l with
 | nil=>exact YR _
 | cons a l ih=>exact Y9 (h a Zh) (ih λb hb=>h b<|Zp _ hb)
theorem FL {l:List Nat} (h:∀ a∈l,1<=a) (k:Nat):qH (l.take k)<=qH l:=by
 have e:=CG (l.take k)<|l.drop k;rw [Za] at e;have := AR (l:=l.drop k) λa ha=>h a<|List.mem_of_mem_drop ha;rw [e];exact YX _ this
theorem FM {l:List Nat} (h:∀ a∈l,1<=a) (k:Nat):qH (l.drop k)<=qH l:=by
 have e:=CG (l.take k)<|l.drop k;rw [Za] at e;have := AR (l:=l.take k) λa ha=>h a<|List.mem_of_mem_take ha;rw [e];exact YY _ this
end
theorem fo {α:Type} [Inhabited α] {l:List α} {k:Nat} (h:k<l.length):l.take (k+1)=l.take k++[l.getD k Uo]:=by
 simp_all
theorem Qw {n m:Nat} (hn:n<=1000000000) (hm:Nat.ble m 1000=Uq):bw n m=Uq:=by
 have h1:=nlb hm;have h2:n*m<=1000000000*1000:=Zg hn h1;exact decide_eq_true ⟨by omega,by omega⟩
theorem AU {s:LI} (h:s.length<=4000000):Uc (aJ s) (· = s):=by
 unfold aJ nilK;have hc:gd (bw (([]:LI).length+s.length) 8) (Us<|([]:LI)++s)=Us s:=qO<|aT (by simpa using h) rfl;rw [hc]
 cases s with
 | nil=>exact .of (by simp) rfl
 | cons a s=>exact .pure rfl
theorem yV (chs:LL) (hn:chs.length<=100) (hb:∀ k,k<=chs.length->(rB<|chs.take k).length<=100000):Uc (ko chs) (· = rB chs):=by
 unfold ko;refine Uc.bind (P:=(· = rB chs)) ?_ λv hv => .pure hv;refine Uc.loop (λs=>∃ k:Nat,k<=chs.length/\s=((k:Int),rB<|chs.take k)) (λs=>((chs.length:Int)-s.1).toNat) ⟨0,YJ _,rfl⟩ λs ⟨k,hk,e⟩ => ?_;subst e;unfold qx;simp only [];refine .bifD (λhlt=>?_) λhge => .pure (by rw [show k=chs.length by omega,YK]);have hlt:k<chs.length:=by omega
 have hb1:=hb (k+1) (by omega);have hb0:=hb k (by omega);rw [fo hlt,AQ] at hb1;refine Uc.bind (P:=(· = rB (chs.take<|k+1))) (.gdD ⟨by omega,by omega⟩ (Uc.bind (P:=(· = rB (chs.take<|k+1))) ?_ λv hv => .pure hv)) λv hv => .gdI (by omega)<|.pure ⟨⟨k+1,by omega,by rw [hv];rfl⟩,by simp only [];omega⟩;rw [fo hlt,AQ];generalize hall:rB (chs.take k)=all at *;have hrow:∀ j,(all.getD j Uo).length<=100:=λj=>by
  by_cases hj:j<all.length
  ·have hm:all.getD j Uo∈all:=by rw [gdq,geq hj];exact Zb _
   rw [<- hall] at hm;have := (mE.1 hm).1;rw [<- hall,this,YH];omega
  rw [gdq,gen (by omega)];exact YJ _
 have hch:((chs.getD k Uo)).length<=100000\/all=[]:=by
  cases all with
  | nil=>exact .inr rfl
  | cons a l=>
   left
   rw [List.flatMap_cons,lla,llm] at hb1;omega
 have hch':0<all.length->(chs.getD k Uo).length<=100000:=λh0=>by
  rcases hch with h | h
  ·exact h
  rw [h] at h0;cases h0
 have hFl:=hb1;rw [<- cm all] at hFl;refine (fL all.length [] (λj=>(chs.getD k Uo).map λy=>all.getD j Uo++[y]) (λj hj=>?_) ?_).mono λv hv=>?_
 ·unfold jX;simp only [YG,tnn];refine .bifD (λ_=>?_) λh=>absurd (show (j:Int)<(all.length:Int) by omega) h;refine Uc.bind (P:=(· = (YE<|j+1).flatMap λj=>(chs.getD k Uo).map λy=>all.getD j Uo++[y])) (.gdD ⟨by omega,by omega⟩ ?_) λv hv => .gdI (by omega)<|.pure (by rw [hv];rfl);have hc:=hch' (by omega);have hF1:=YF (vL (λj=>(chs.getD k Uo).map λy=>all.getD j Uo++[y])<|show j<=all.length by omega) hFl;refine (fL (chs.getD k Uo).length _ (λi=>[all.getD j Uo++[(chs.getD k Uo).getD i Uo]]) (λi hi=>?_) ?_).mono λv hv=>?_
  ·unfold jV J;simp only [tnn];have hil:((YE i).flatMap λi=>[all.getD j Uo++[(chs.getD k Uo).getD i Uo]]).length=i*1:=by rw [dS (m:=1) λ_ _=>rfl,YI]
   refine .bifD (λ_=>?_) λh=>absurd (show (i:Int)<((chs.getD k Uo).length:Int) by omega) h;refine .gdD ⟨by omega,by omega⟩<|(AU (by have := hrow j;omega)).bind λv35 h35=>?_;subst h35;refine .gd (aT (by have := hrow j;omega) rfl) (.gd (aT (by simp only [lla];omega) rfl)<|.gdI (by omega)<|.pure ?_);simp only [bW,YN]
   rfl
  ·unfold jV J;exact .bifD (λh=>absurd h<|by simp only [tnn];omega) λ_ => .pure rfl
  rw [hv,bW,cm (chs.getD k Uo) λy=>[all.getD j Uo++[y]],qh]
 ·unfold jX;exact .bifD (λh=>absurd h<|by simp only [];omega) λ_ => .pure rfl
 rw [hv,YG];exact cm all λx=>(chs.getD k Uo).map λy=>x++[y]
theorem KL {s:LL} (h:s.length<=4000000):Uc (nK s) (· = s):=by
 unfold nK nilK;have hc:gd (bw (([]:LL).length+s.length) 24) (Us<|([]:LL)++s)=Us s:=qO<|aT (by simpa using h) rfl;rw [hc]
 cases s with
 | nil=>exact .of (by simp) rfl
 | cons a s=>exact .pure rfl
theorem BR (chs:List<|LL) (hn:chs.length<=100) (hb:∀ k,k<=chs.length->(rB<|chs.take k).length<=100000):Uc (kF chs) (· = rB chs):=by
 unfold kF;refine Uc.bind (P:=(· = rB chs)) ?_ λv hv => .pure hv;refine Uc.loop (λs=>∃ k:Nat,k<=chs.length/\s=((k:Int),rB<|chs.take k)) (λs=>((chs.length:Int)-s.1).toNat) ⟨0,YJ _,rfl⟩ λs ⟨k,hk,e⟩ => ?_;subst e;unfold uo;simp only [];refine .bifD (λhlt=>?_) λhge => .pure (by rw [show k=chs.length by omega,YK]);have hlt:k<chs.length:=by omega
 have hb1:=hb (k+1) (by omega);have hb0:=hb k (by omega);rw [fo hlt,AQ] at hb1;refine Uc.bind (P:=(· = rB (chs.take<|k+1))) (.gdD ⟨by omega,by omega⟩ (Uc.bind (P:=(· = rB (chs.take<|k+1))) ?_ λv hv => .pure hv)) λv hv => .gdI (by omega)<|.pure ⟨⟨k+1,by omega,by rw [hv];rfl⟩,by simp only [];omega⟩;rw [fo hlt,AQ];generalize hall:rB (chs.take k)=all at *;have hrow:∀ j,(all.getD j Uo).length<=100:=λj=>by
  by_cases hj:j<all.length
  ·have hm:all.getD j Uo∈all:=by rw [gdq,geq hj];exact Zb _
   rw [<- hall] at hm;have := (mE.1 hm).1;rw [<- hall,this,YH];omega
  rw [gdq,gen (by omega)];exact YJ _
 have hch:((chs.getD k Uo)).length<=100000\/all=[]:=by
  cases all with
  | nil=>exact .inr rfl
  | cons a l=>
   left
   rw [List.flatMap_cons,lla,llm] at hb1;omega
 have hch':0<all.length->(chs.getD k Uo).length<=100000:=λh0=>by
  rcases hch with h | h
  ·exact h
  rw [h] at h0;cases h0
 have hFl:=hb1;rw [<- cm all] at hFl;refine (fL all.length [] (λj=>(chs.getD k Uo).map λy=>all.getD j Uo++[y]) (λj hj=>?_) ?_).mono λv hv=>?_
 ·unfold mK;simp only [YG,tnn];refine .bifD (λ_=>?_) λh=>absurd (show (j:Int)<(all.length:Int) by omega) h;refine Uc.bind (P:=(· = (YE<|j+1).flatMap λj=>(chs.getD k Uo).map λy=>all.getD j Uo++[y])) (.gdD ⟨by omega,by omega⟩ ?_) λv hv => .gdI (by omega)<|.pure (by rw [hv];rfl);have hc:=hch' (by omega);have hF1:=YF (vL (λj=>(chs.getD k Uo).map λy=>all.getD j Uo++[y])<|show j<=all.length by omega) hFl;refine (fL (chs.getD k Uo).length _ (λi=>[all.getD j Uo++[(chs.getD k Uo).getD i Uo]]) (λi hi=>?_) ?_).mono λv hv=>?_
  ·unfold mJ J;simp only [tnn];have hil:((YE i).flatMap λi=>[all.getD j Uo++[(chs.getD k Uo).getD i Uo]]).length=i*1:=by rw [dS (m:=1) λ_ _=>rfl,YI]
   refine .bifD (λ_=>?_) λh=>absurd (show (i:Int)<((chs.getD k Uo).length:Int) by omega) h;refine .gdD ⟨by omega,by omega⟩<|(KL (by have := hrow j;omega)).bind λv35 h35=>?_;subst h35;refine .gd (aT (by have := hrow j;omega) rfl) (.gd (aT (by simp only [lla];omega) rfl)<|.gdI (by omega)<|.pure ?_);simp only [bW,YN]
   rfl
  ·unfold mJ J;exact .bifD (λh=>absurd h<|by simp only [tnn];omega) λ_ => .pure rfl
  rw [hv,bW,cm (chs.getD k Uo) λy=>[all.getD j Uo++[y]],qh]
 ·unfold mK;exact .bifD (λh=>absurd h<|by simp only [];omega) λ_ => .pure rfl
 rw [hv,YG];exact cm all λx=>(chs.getD k Uo).map λy=>x++[y]
def prm:Nat->LI->LL
 | 0,_=>[[]]
 | n+1,l=>(YE l.length).flatMap λi=>(prm n<|l.take i++l.drop (i+1)).map (l.getD i Uo :: ·)
theorem Gu:∀ (n:Nat) (l:LI),l.length=n->(prm n l).length=Ub n
 | 0,_,_=>rfl
 | n+1,l,h=>by
  show ((YE l.length).flatMap λi=>(prm n<|l.take i++l.drop (i+1)).map (l.getD i Uo :: ·)).length=Ub n*(n+1);rw [dS (m:=Ub n) λi hi=>?_,YI,h,Nat.mul_comm];have := YS.1 hi;rw [llm,Gu n _ (by grind)]
theorem JZ {l:LI} {i:Nat} (h:i<l.length):(l.getD i Uo::(l.take i++l.drop (i+1))).Perm l:=by
 have e:l=l.take i++(l.getD i Uo::l.drop (i+1)):=by
  rw [gdq,geq h];simp
 grind
theorem yj:∀ {n:Nat} {l:LI},l.length=n->∀ {o:LI},o∈prm n l↔o.Perm l
 | 0,l,h,o=>by
  obtain rfl:=Zo h;show o∈[[]]↔_
  simp_all
 | n+1,l,h,o=>by
  show o∈(YE l.length).flatMap (λi=>(prm n<|l.take i++l.drop (i+1)).map (l.getD i Uo :: ·))↔_;simp only [Y8,YP,YS]
  constructor
  ·rintro ⟨i,hi,r,hr,rfl⟩;have := (yj<|by grind).1 hr;exact (this.cons _).trans<|JZ hi
  intro hp
  match o,hp.length_eq with
  | [],e=>simp_all
  | a::r,e=>
   have ha:a∈l:=hp.mem_iff.1 Zh;have hi:=Zc ha;have hg:l.getD (l.idxOf a) Uo=a:=by
    rw [gdq,geq hi];exact List.getElem_idxOf hi
   refine ⟨l.idxOf a,hi,r,(yj<|by grind).2 ?_,by rw [hg]⟩;have h2:=JZ hi;rw [hg] at h2;exact (hp.trans h2.symm).cons_inv
theorem J0 {a b:Nat} (h:a<=b):Ub a<=Ub b:=by
 induction h with
 | refl=>omega
 | step _ ih=>exact YF ih (YX _<|by omega)
theorem FN {n:Nat} {l:LI} (hl:l.length=n+1) (hn:n+1<=12) {acc:Nat} (hacc:acc<l.length) {step:LL×Int->Option ((LL×Int) ⊕ LL)} {r:LL} (hr:r=prm n (l.take acc++l.drop (acc+1)))
  (hs:∀ s,step s=bif Uu (s.2<(r.length:Int)) then
   gd (Uu<|0<=s.2/\s.2<(r.length:Int)) <|
   gd (bw (([l.getD acc Uo]:LI).length+(r.getD s.2.toNat Uo).length) 8) <|
   gd (bw (s.1.length+1) 24) <|
   gd (TT .i64<|s.2+(1:Int)) <|
   Us (.inl ((s.1++[(([l.getD acc Uo]:LI)++(r.getD s.2.toNat Uo))]),(s.2+(1:Int)))) else Us (.inr s.1)) :
  Uc (loopO step ((YE acc).flatMap (λi=>(prm n<|l.take i++l.drop (i+1)).map (l.getD i Uo :: ·)),(0:Int))) (· = (YE<|acc+1).flatMap (λi=>(prm n<|l.take i++l.drop (i+1)).map (l.getD i Uo :: ·))):=by
 have hrl:r.length=Ub n:=by rw [hr];exact Gu n _ (by grind)
 have hf:Ub n<=Ub 11:=J0 (by omega);have h11:Ub 11=39916800:=by decide
 have hrow:∀ k,(r.getD k Uo).length<=12:=λk=>by
  by_cases hk:k<r.length
  ·have hm:r.getD k Uo∈r:=by rw [gdq,geq hk];exact Zb _
   have hll:(l.take acc++l.drop (acc+1)).length=n:=by rw [lla,YH,YQ];omega
   have := ((yj hll).1<|show r.getD k Uo∈prm n (l.take acc++l.drop (acc+1)) by rw [<- hr];exact hm).length_eq;omega
  rw [gdq,gen (by omega)];exact YJ _
 have hpre:((YE acc).flatMap (λi=>(prm n<|l.take i++l.drop (i+1)).map (l.getD i Uo :: ·))).length<=12*39916800:=by
  have e:=dS (l:=YE acc) (f:=λi=>(prm n<|l.take i++l.drop (i+1)).map (l.getD i Uo :: ·)) (m:=Ub n) λi hi=>by
   have := YS.1 hi;rw [llm,Gu n _ (by grind)]
  rw [e,YI];exact Zg (by omega) (by omega)
 refine (fL r.length _ (λk=>[l.getD acc Uo::r.getD k Uo]) (λk hk=>?_) ?_).mono λv hv=>?_
 ·rw [hs];have hkl:((YE k).flatMap λk=>[l.getD acc Uo::r.getD k Uo]).length=k*1:=by rw [dS (m:=1) λ_ _=>rfl,YI]
  refine .bifD (λ_ => .gdD ⟨by omega,by omega⟩<|.gd (aT (by grind) rfl)<|.gd (Qw (by grind) rfl)<|.gdI (by omega)<|.pure ?_) λh=>absurd (show (k:Int)<(r.length:Int) by omega) h;simp only [tnn,bW,YN]
  rfl
 ·rw [hs];exact .bifD (λh=>absurd h<|by omega) λ_ => .pure rfl
 rw [hv,bW,cm r λx=>[l.getD acc Uo::x],qh,<- hr]
theorem FO:∀ (n:Nat) (l:LI),l.length=n->n<=12->∀ m,n<m->Uc (kE m l) (· = prm n l)
 | _,_,_,_,0,h=>by omega
 | 0,l,hl,hn,m+1,_=>by
  show Uc (iD _ l) _;unfold iD;exact .bif (λ_ => .pure rfl) λh=>by simp_all
 | n+1,l,hl,hn,m+1,hm=>by
  show Uc (iD _ l) _;unfold iD;refine .bif (λh=>by grind) λ_=>Uc.bind (P:=(· = prm (n+1) l)) ?_ λv hv => .pure hv;refine (fL l.length [] (λi=>(prm n<|l.take i++l.drop (i+1)).map (l.getD i Uo :: ·)) (λk hk=>?_) ?_).mono λv hv=>?_
  ·unfold qR;simp only [YG,tnn];refine .bifD (λ_=>?_) λh=>absurd (show (k:Int)<(l.length:Int) by omega) h;refine Uc.bind (P:=(· = (YE<|k+1).flatMap λi=>(prm n<|l.take i++l.drop (i+1)).map (l.getD i Uo :: ·))) ?_ λv hv => .gdI (by omega)<|.pure (by simp_all);refine .gdD ⟨by omega,by omega⟩<|(AU<|by omega).bind λv16 h16 => .gdI (by omega) ?_;subst v16;refine Uc.bind (P:=(· = l.take k++l.drop (k+1))) ?_ λv21 h21=>?_
   ·unfold sK;refine .gdD ⟨by omega,by omega,by omega,by omega⟩<|.pure ?_
    simp_all
   subst v21;refine (FO n _ (by grind) (by omega) m<|by omega).bind λv25 h25=>?_;exact FN hl hn hk h25 λs=>by unfold vE J;rfl
  ·unfold qR;exact .bifD (λh=>absurd h<|by omega) λ_ => .pure rfl
  rw [hv]
  rfl
theorem Hv:∀ (n:Nat) (l:LI),l.length=n->n<=12->∀ m,n<m->Uc (ju m l) (· = prm n l)
 | _,_,_,_,0,h=>by omega
 | 0,l,hl,hn,m+1,_=>by
  show Uc (gb _ l) _;unfold gb;exact .bif (λ_ => .pure rfl) λh=>by simp_all
 | n+1,l,hl,hn,m+1,hm=>by
  show Uc (gb _ l) _;unfold gb;refine .bif (λh=>by grind) λ_=>Uc.bind (P:=(· = prm (n+1) l)) ?_ λv hv => .pure hv;refine (fL l.length [] (λi=>(prm n<|l.take i++l.drop (i+1)).map (l.getD i Uo :: ·)) (λk hk=>?_) ?_).mono λv hv=>?_
  ·unfold pJ;simp only [YG,tnn];refine .bifD (λ_=>?_) λh=>absurd (show (k:Int)<(l.length:Int) by omega) h;refine Uc.bind (P:=(· = (YE<|k+1).flatMap λi=>(prm n<|l.take i++l.drop (i+1)).map (l.getD i Uo :: ·))) ?_ λv hv => .gdI (by omega)<|.pure (by simp_all);have e1:((l.drop (0:Int).toNat).take<|k-(0:Int).toNat)=l.take k:=by simp
   have e2:((l.drop ((k:Int)+1).toNat).take<|l.length-((k:Int)+1).toNat)=l.drop (k+1):=by
    rw [show ((k:Int)+1).toNat=k+1 by omega];exact YZ (by simp_all)
   rw [e1,e2];have g1:(l.take k).length<=12:=by rw [YH];omega
   have g2:(l.drop<|k+1).length<=12:=by rw [YQ];omega
   refine .gdD ⟨by omega,by omega,by omega⟩<|.gd (aT (by grind) rfl)<|.gdI (by omega)<|.gdD ⟨by omega,by omega,by omega⟩<|.gd (aT (by omega) rfl) ?_;refine (Hv n _ (by grind) (by omega) m<|by omega).bind λv25 h25=>?_;refine FN hl hn hk h25 λs=>?_;unfold uw J;simp only [tnn];rw [qO (decide_eq_true<|show 0<=(k:Int)/\(k:Int)<(l.length:Int) by omega)]
  ·unfold pJ;exact .bifD (λh=>absurd h<|by omega) λ_ => .pure rfl
  rw [hv]
  rfl
theorem yQ {α:Type} {f:Nat->Option α} {v:α} (n:Nat) (h:∀ m,n<m->Uc (f m) (· = v)):Uc (G8 f) (· = v):=Uc.of (xL (n+1) λm hm=>(h m hm).eq) rfl
theorem Qx (l:LI) (h:l.length<=12):Uc (wD l) (· = prm l.length l):=yQ l.length λm hm=>FO l.length l rfl h m hm
theorem RE (l:LI) (h:l.length<=12):Uc (uQ l) (· = prm l.length l):=yQ l.length λm hm=>Hv l.length l rfl h m hm
section
variable {p:List (List TW)}
def chE (p:List<|List TW) (i:Nat):LI:=if (ev p (i:Int)).Reads=Uq then (Uf p (ev p (i:Int)).Loc).filter (λn => !decide (n=(i:Int))) else [-1]
def chF (p:List<|List TW):LL:=(YE (evs p).length).map<|chE p
def chL (p:List<|List TW) (l:Nat):LL:=(prm (Uf p (l:Int)).tail.length (Uf p (l:Int)).tail).map ((l:Int) :: ·)
def Ug (p:List<|List TW):List (LL):=[chL p 0,chL p 1,chL p 2]
def eZ (p:List<|List TW):List TY:=(rB<|chF p).flatMap λf=>(rB<|Ug p).map λo=>⟨f,o⟩
abbrev Uh (p:List<|List TW):List (List Ins):=p.map λr=>r.map qw
theorem Hw (q:TZ->Bool) (f:Ins->Bool) (h:∀ t k x,x.Op≠4->q ⟨t,k,x.Loc,rdX x,wrX x⟩=f (qw x)) (h4:∀ x:TW,x.Op=4->f (qw x)=Ur) (t:Nat) (row:List TW):∀ r:Nat,r<=row.length->((evR t row r).filter q).length=((row.take r).map qw).countP f
 | 0,_=>by simp [evR]
 | r+1,hr=>by
  have ih:=Hw q f h h4 t row r (by omega);have e:row.getD r Uo=row[r]:=by rw [gdq,geq (by omega)];rfl
  rw [evR,Y0,lla,ih,<- List.take_append_getElem (show r<row.length by omega),Zi,List.countP_append,e]
  congr 1
  unfold evX
  grind
theorem Eo (q:TZ->Bool) (f:Ins->Bool) (h:∀ (t k:Int) x,x.Op≠4->q ⟨t,k,x.Loc,rdX x,wrX x⟩=f (qw x)) (h4:∀ x:TW,x.Op=4->f (qw x)=Ur):((evs p).filter q).length=(ev0.filter q).length+wB f (Uh p):=by
 have key:∀ n:Nat,n<=p.length->((evP p n).filter q).length=(ev0.filter q).length+wB f ((Uh p).take n):=λn=>by
  induction n with
  | zero=>intro _;simp [evP,wB]
  | succ n ih=>
   intro hn;have e:p.getD n Uo=p[n]:=by rw [gdq,geq (by omega)];rfl
   have hn':n<(Uh p).length:=by rw [llm];omega
   rw [evP,Y0,lla,ih (by omega),Hw q f (λt k=>h t k) h4 n _ _ (YR _),gP f (Uh p) n hn',YK,Nat.add_assoc,e]
   simp_all
 have := key p.length<|YR _;rw [show (Uh p).take p.length=Uh p from YZ (by simp)] at this;exact this
theorem I6 {l:Nat} (hl:l<3):(Uf p (l:Int)).length=cw (Uh p) (l:Int)+1:=by
 have h1:(Uf p (l:Int)).length=((evs p).filter λe=>e.bq&&Uu (e.Loc=(l:Int))).length:=by
  rw [<- CF (λe:TZ=>e.bq&&Uu (e.Loc=(l:Int))) Uo (evs p)];unfold Uf;rw [List.filter_map,llm]
  congr 2
 rw [h1,Eo _ (cf (l:Int) wrB) (λt k x ho=>?_) (λx ho=>?_)]
 ·have : (ev0.filter λe=>e.bq&&Uu (e.Loc=(l:Int))).length=1:=by
   match l,hl with
   | 0,_=>rfl
   | 1,_=>rfl
   | 2,_=>rfl
  rw [this];unfold cw;omega
 ·unfold cf qw wrB wrO wrX
  grind
 unfold cf qw wrB wrO
 grind
theorem I7 {l:Nat} (hl:l<3):((evs p).filter λe=>e.Reads&&Uu (e.Loc=(l:Int))).length=cr (Uh p) (l:Int):=by
 rw [Eo _ (cf (l:Int) rdB) (λt k x ho=>?_) (λx ho=>?_)]
 ·have : (ev0.filter λe=>e.Reads&&Uu (e.Loc=(l:Int))).length=0:=by
   match l,hl with
   | 0,_=>rfl
   | 1,_=>rfl
   | 2,_=>rfl
  rw [this];unfold cr;omega
 ·unfold cf qw rdB rdO rdX
  grind
 unfold cf qw rdB rdO
 grind
def gE (w:Nat->Nat) (e:TZ):Nat:=if e.Reads=Uq then w e.Loc.toNat+1 else 1
theorem Qy (w:Nat->Nat) (L:List TZ) (h:∀ e∈L,e.Reads=Uq->0<=e.Loc/\e.Loc<=2):qH (L.map<|gE w)=(w 0+1) ^ (L.filter λe=>e.Reads&&Uu (e.Loc=((0:Nat):Int))).length*(w 1+1) ^ (L.filter λe=>e.Reads&&Uu (e.Loc=((1:Nat):Int))).length*(w 2+1) ^ (L.filter λe=>e.Reads&&Uu (e.Loc=((2:Nat):Int))).length:=by
 induction L with
 | nil=>rfl
 | cons e L ih=>
  have ih:=ih λa ha=>h a<|Zp _ ha;show gE w e*qH (L.map<|gE w)=_;rw [ih];unfold gE
  by_cases hr:e.Reads=Uq
  ·obtain ⟨h0,h2⟩:=h e Zh hr;have hc:e.Loc=0\/e.Loc=1\/e.Loc=2:=by omega
   rcases hc with hc | hc | hc <;> simp [hr,hc,Nat.pow_succ] <;> ac_rfl
  simp_all
theorem Qz (hp:PV p) {e:TZ} (h:e∈evs p):0<=e.Loc/\e.Loc<=2:=by
 obtain ⟨i,hi,rfl⟩:=Zd h;have := qG hp (n:=(i:Int)) (by omega) (by omega);unfold ev at this
 simp_all
theorem QA (hp:PV p) {i:Nat} (hi:i<(evs p).length):(chE p i).length<=gE (λl=>cw (Uh p) (l:Int)) ((evs p).getD i Uo):=by
 have he:(evs p).getD i Uo=ev p (i:Int):=by unfold ev;rw [tnn]
 have hl:=qG hp (n:=(i:Int)) (by omega) (by omega);rw [he];unfold chE gE
 split
 ·have := I6 (p:=p) (l:=(ev p (i:Int)).Loc.toNat) (by omega);rw [YU hl.1] at this;have h2:=Zq (λn => !decide (n=(i:Int)))<|Uf p (ev p (i:Int)).Loc;simp only [YU hl.1];omega
 simp_all
theorem yl {l:Nat} (hl:l<3):(chL p l).length=Ub (cw (Uh p) (l:Int)):=by
 unfold chL;rw [llm,Gu _ _ rfl,Ze,I6 hl,Nat.add_sub_cancel]
theorem OB (hv:bS (Uh p)=Uq):qH ((evs p).map<|gE λl=>cw (Uh p) (l:Int))*(Ub (cw (Uh p) 0)*Ub (cw (Uh p) 1)*Ub (cw (Uh p) 2))<=3000:=by
 have hp:=PV.of hv;simp only [bS,bae,dte] at hv;have h3:=hv.2;rw [Qy _ _ λe he _=>Qz hp he,I7 (by omega),I7 (by omega),I7 (by omega)];refine YF (Nat.le_of_eq ?_) h3;show _=1*Rv (Uh p) 0*Rv (Uh p) 1*Rv (Uh p) 2;unfold Rv
 grind
structure Few (p:List (List TW)):Prop where
 f:∀ k,(rB<|(chF p).take k).length<=3000/\(rB<|(chF p).drop k).length<=3000
 o:∀ k,(rB<|(Ug p).take k).length<=3000/\(rB<|(Ug p).drop k).length<=3000
 all:(rB<|chF p).length*(rB<|Ug p).length<=3000
 w:∀ l:Nat,l<3->(Uf p (l:Int)).length<=8/\(chL p l).length<=3000
theorem few (hv:bS (Uh p)=Uq):Few p:=by
 have hp:=PV.of hv;have hE:=OB hv;have hgs:∀ a∈(evs p).map (gE λl=>cw (Uh p) (l:Int)),1<=a:=λa ha=>by
  obtain ⟨e,_,rfl⟩:=YP.1 ha;unfold gE
  grind
 have f0:=IW<|cw (Uh p) 0;have f1:=IW<|cw (Uh p) 1;have f2:=IW<|cw (Uh p) 2;have g0:=AR hgs;have hfs:∀ a∈(Ug p).map List.length,1<=a:=λa ha=>by
  simp only [Ug,List.map_cons,List.map_nil,Y1,List.not_mem_nil,or_false] at ha;rcases ha with rfl | rfl | rfl
  ·rw [yl (by omega)];omega
  ·rw [yl (by omega)];omega
  rw [yl (by omega)];omega
 have hO:qH ((Ug p).map List.length)=Ub (cw (Uh p) 0)*Ub (cw (Uh p) 1)*Ub (cw (Uh p) 2):=by
  show (chL p 0).length*((chL p 1).length*((chL p 2).length*1))=_;rw [yl (by omega),yl (by omega),yl (by omega),Nat.mul_one,Nat.mul_assoc]
  rfl
 have hOpos:=AR hfs;have hA:qH ((evs p).map<|gE λl=>cw (Uh p) (l:Int))<=3000:=YF (YX _<|by omega) hE;have hB:qH ((Ug p).map List.length)<=3000:=by rw [hO];exact YF (YY _ g0) hE
 have hmono:∀ k,qH (((chF p).map List.length).take k)<=qH (((evs p).map<|gE λl=>cw (Uh p) (l:Int)).take k)/\qH (((chF p).map List.length).drop k)<=qH (((evs p).map<|gE λl=>cw (Uh p) (l:Int)).drop k):=λk=>by
  have hlen:(chF p).length=(evs p).length:=by simp [chF]
  have hget:∀ i:Nat,i<(evs p).length->((chF p).map List.length).getD i 0<=((evs p).map<|gE λl=>cw (Uh p) (l:Int)).getD i 0:=λi hi=>by
   have := QA hp hi;rw [gdq,geq hi] at this;rw [gdq,gdq,List.getElem?_map,List.getElem?_map,geq hi];unfold chF
   simp_all
  constructor
  ·refine FK (by simp [hlen]) λi hi=>?_
   grind
  refine FK (by simp [hlen]) λi hi=>?_
  grind
 refine ⟨λk=>⟨?_,?_⟩,λk=>⟨?_,?_⟩,?_,λl hl=>?_⟩
 ·rw [wM,List.map_take];exact YF (hmono k).1<|YF (FL hgs k) hA
 ·rw [wM,List.map_drop];exact YF (hmono k).2<|YF (FM hgs k) hA
 ·rw [wM,List.map_take];exact YF (FL hfs k) hB
 ·rw [wM,List.map_drop];exact YF (FM hfs k) hB
 ·rw [wM,wM,hO];have := (hmono (evs p).length).1;rw [YZ (by simp [chF]),YZ (by simp)] at this;exact YF (Nat.mul_le_mul_right _ this) hE
 have hf:Ub (cw (Uh p) (l:Int))<=3000:=by
  rw [<- yl hl];have h0:(chL p l).length∈(Ug p).map List.length:=by
   match l,hl with
   | 0,_=>simp [Ug]
   | 1,_=>simp [Ug]
   | 2,_=>simp [Ug]
  refine YF ?_ hB
  match l,hl with
  | 0,_=>exact YX _ (Y9 (hfs _<|by simp [Ug])<|Y9 (hfs _<|by simp [Ug]) Nat.one_pos)
  | 1,_=>
   refine YF ?_<|YY _<|hfs _ (by simp [Ug]);exact YX _<|Y9 (hfs _<|by simp [Ug]) Nat.one_pos
  | 2,_=>
   refine YF ?_<|YY _<|hfs _ (by simp [Ug]);refine YF ?_<|YY _<|hfs _ (by simp [Ug])
   simp_all
 refine ⟨?_,by rw [yl hl];exact hf⟩;rw [I6 hl];rcases Zf (cw (Uh p) (l:Int)) 7 with h | h
 ·omega
 have := J0 h;have h7:Ub 7=5040:=by decide
 omega
end
section
variable {p:List (List TW)}
theorem J1 (hp:PV p) (l:Int):Uc (fZ (evs p) l) (· = Uf p l):=by
 have hel:=kT hp.vs;unfold fZ;refine Uc.bind (P:=(· = Uf p l)) ?_ λv hv => .pure hv;refine Uc.loop (λz=>∃ n:Nat,n<=(evs p).length/\z=(((YE n).map λ(i:Nat)=>(i:Int)).filter<|Wl p l,(n:Int))) (λz=>(((evs p).length:Int)-z.2).toNat) ⟨0,by omega,rfl⟩ λz ⟨n,h1,h2⟩ => ?_;subst h2;unfold sO J;have en:(evs p).getD n Uo=ev p (n:Int):=by unfold ev;rw [tnn]
 simp only [tnn,en];refine .bifD (λhk=>?_) λhk => .pure ?_
 ·have hsl:(((YE n).map λ(i:Nat)=>(i:Int)).filter<|Wl p l).length<=n:=YF (Zq _ _) (by simp);have hst:((YE<|n+1).map λ(i:Nat)=>(i:Int)).filter (Wl p l)=((YE n).map λ(i:Nat)=>(i:Int)).filter (Wl p l)++if Wl p l (n:Int) then [(n:Int)] else []:=by
   rw [Y6,Zi,Y0]
   congr 1
   by_cases h:Wl p l (n:Int)=Uq
   ·rw [if_pos h];simp [h]
   rw [if_neg h];simp [h]
  refine Uc.bind (P:=(· = ((YE<|n+1).map λ(i:Nat)=>(i:Int)).filter (Wl p l))) (.gdD ⟨by omega,hk⟩ (Uc.bind (P:=(· = Wl p l (n:Int))) (.bif (λh => .pure ?_) λh => .pure ?_) λb hb => .bif (λh => .gd (aT (by omega) rfl)<|.pure ?_) λh => .pure ?_)) λv hv => .gdI (by omega)<|.pure ⟨⟨n+1,by omega,by rw [hv];rfl⟩,by simp only [];omega⟩
  ·unfold Wl;rw [h,YL];exact Po _ _
  ·unfold Wl;rw [h];rfl
  ·rw [hst,<- hb,h];rfl
  rw [hst,<- hb,h];simp
 have : n=(evs p).length:=by omega
 rw [this]
 rfl
theorem J2 (hp:PV p) (l:Int):Uc (f8 (evs p) l) (· = Uf p l):=I3 hp l
def nq (i:Int) (n:Int):Bool := !decide (n=i)
theorem OC (v:LI) (i:Int) (hl:v.length<=1000000):Uc (aX v i) (· = v.filter (nq i)):=by
 unfold aX;have heq:∀ a:Int,Uc (iC a i) (· = Uu (a=i)):=λa=>by unfold iC;exact .pure<|Po a i
 refine Uc.bind (P:=λr:Int=>(r = -1/\∀ n∈v,n≠i)\/(0<=r/\r<(v.length:Int)/\v.getD r.toNat Uo=i/\∀ n∈v.take r.toNat,n≠i)) ?_ λr hr=>?_
 ·unfold bF;refine Uc.sum (PS:=λ_=>∀ n∈v,n≠i) (PW:=λr:Int=>(r = -1/\∀ n∈v,n≠i)\/(0<=r/\r<(v.length:Int)/\v.getD r.toNat Uo=i/\∀ n∈v.take r.toNat,n≠i)) ?_ λ_ h => .pure<|.inl ⟨rfl,h⟩;refine Uc.loop (λz=>∃ k:Nat,k<=v.length/\z=(k:Int)/\∀ n∈v.take k,n≠i) (λz=>((v.length:Int)-z).toNat) ⟨0,by omega,rfl,by simp⟩ λz ⟨k,h1,h2,h3⟩ => ?_;subst h2;unfold cA J;simp only [tnn];refine .bifD (λhk => .gdD ⟨by omega,hk⟩<|(heq _).bind λb hb=>?_) λhk => .pure ?_
  ·subst hb;refine .bifD (λhe => .pure<|.inr ⟨by omega,hk,by rw [tnn];exact he,by rw [tnn];exact h3⟩) λhe => .gdI (by omega)<|.pure ⟨⟨k+1,by omega,rfl,λn hn=>?_⟩,by omega⟩;rw [fo (by omega),YV,YT] at hn;rcases hn with hn | rfl
   ·exact h3 n hn
   exact he
  rwa [show k=v.length by omega,YK] at h3
 rcases hr with ⟨rfl,h⟩ | ⟨r0,r1,r2,r3⟩
 ·refine .bif (λ_ => .pure ?_) λh=>by cases h
  rw [Zj.2 λn hn=>by unfold nq;rw [decide_eq_false (h n hn)];rfl]
 refine .bif (λh=>by have := eq_of_beq h;omega) λ_=>?_;refine Uc.bind (P:=λz=>z.1.length=v.length/\(0<=z.2/\z.2<=(v.length:Int))/\z.1.take z.2.toNat=v.filter (nq i)) (.gdI (by omega) ?_) λz ⟨z1,⟨z2,z3⟩,z4⟩ => ?_
 ·refine Uc.loop (λz=>∃ j k:Nat,j<=v.length/\k<=j/\z.2.1=(j:Int)/\z.2.2=(k:Int)/\z.1.length=v.length/\(∀ q:Nat,j<=q->z.1[q]? = v[q]?)/\z.1.take k=(v.take j).filter (nq i)) (λz=>((v.length:Int)-z.2.1).toNat) ⟨r.toNat+1,r.toNat,by omega,by omega,by simp only [];omega,by simp only [];omega,rfl,λ_ _=>rfl,?_⟩ λz ⟨j,k,h1,h2,h3,h4,h5,h6,h7⟩ => ?_
  ·simp only [];rw [fo (by omega),Y0,Zj.2 λn hn=>by unfold nq;rw [decide_eq_false (r3 n hn)];rfl,r2];simp [nq]
  obtain ⟨s,z1,z2⟩:=z;simp only at h3 h4 h5 h6 h7;subst h3 h4;unfold cg J;simp only [tnn,h5];refine .bifD (λhk=>?_) λhk => .pure ⟨h5,⟨by simp only [];omega,by simp only [];omega⟩,?_⟩
  ·have hj:j<v.length:=by omega
   have e1:s.getD j Uo=v.getD j Uo:=by rw [gdq,gdq,h6 j (YR _)]
   rw [e1];refine Uc.bind (P:=λz:List Int×Int=>∃ k:Nat,k<=j+1/\z.2=(k:Int)/\z.1.length=v.length/\(∀ q:Nat,j+1<=q->z.1[q]? = v[q]?)/\z.1.take k=(v.take<|j+1).filter (nq i)) (.gdD ⟨by omega,hk⟩<|(heq _).bind λb hb=>?_) λz ⟨k',g1,g2,g3,g4,g5⟩ => .gdI (by omega)<|.pure ⟨⟨j+1,k',by omega,g1,rfl,g2,g3,g4,g5⟩,by simp only [];omega⟩;subst hb;rw [fo hj,Y0];refine .bif (λhn=>?_) λhn=>?_
   ·refine .gdD ⟨by omega,by omega⟩<|.gdI (by omega)<|.pure ⟨k+1,by omega,rfl,by simp [h5],λq hq=>?_,?_⟩
    ·simp only [];rw [List.getElem?_set_ne (by omega)];exact h6 q (by omega)
    simp only [];have hks:k<s.length:=by omega
    rw [List.take_add_one,List.getElem?_set_self hks,List.take_set_of_le (YR _),h7]
    congr 1
    rw [List.filter_cons_of_pos (show nq i (v.getD j Uo)=Uq from hn)]
    rfl
   refine .pure ⟨k,by omega,rfl,h5,λq hq=>h6 q (by omega),?_⟩;simp only [];rw [h7,List.filter_cons_of_neg (show ¬ nq i (v.getD j Uo)=Uq from λh=>by rw [show nq i (v.getD j Uo)=Ur from hn] at h;cases h)];simp
  simp only [];rw [tnn,h7,show j=v.length by omega,YK]
 refine .gdD ⟨by omega,by omega⟩<|.gdD ⟨z2,by omega,by omega⟩<|.gdD ⟨by omega,z2,by omega⟩<|.pure ?_;rw [<- z4];simp only [cpy,Nat.zero_add,show (0:Int).toNat=0 from rfl,List.drop_zero,Nat.sub_zero]
 split
 ·rw [YN,List.take_append_of_le_length (by rw [YH];omega),List.take_take,Nat.min_self]
 rfl
theorem KM (x:TY) (h1:x.From.length<=100000) (h2:x.Order.length<=100000) (h3:∀ i,(x.Order.getD i Uo).length<=100000):Uc (jq x) (· = x):=by
 unfold jq;refine (AU<|by omega).bind λv1 e1 => .gdD ⟨by omega,by omega,by omega,by omega⟩ (Uc.bind (P:=(· = x.Order)) ?_ λs hs => .pure<|by rw [e1,hs]);refine Uc.loop (λz=>∃ k:Nat,k<=x.Order.length/\z=(x.Order.take k++YW (x.Order.length-k) [],(k:Int))) (λz=>((x.Order.length:Int)-z.2).toNat) ⟨0,by omega,by simp⟩ λz ⟨k,g1,g2⟩ => ?_;subst g2;unfold sP J;simp only [tnn];refine .bifD (λhk=>?_) λhk => .pure ?_
 ·have hk':k<x.Order.length:=by omega
  refine .gdD ⟨by omega,hk⟩<|(AU (by have := h3 k;omega)).bind λv12 e12 => .gdD ⟨by omega,?_⟩<|.gdI (by omega)<|.pure ⟨⟨k+1,by omega,?_⟩,by simp only [];omega⟩
  ·simp only [lla,YH,List.length_replicate];omega
  rw [e12,fo hk',List.set_append_right _ _ (by rw [YH];omega),YH,Nat.min_eq_left (by omega),Zk,show x.Order.length-k=(x.Order.length-(k+1))+1 by omega,List.replicate_succ,List.set_cons_zero,YN]
  rfl
 rw [show k=x.Order.length by omega,Zk,YK];simp
theorem MX (x:TY) (h1:x.From.length<=100000) (h2:x.Order.length<=100000) (h3:∀ i,(x.Order.getD i Uo).length<=100000):Uc (nN x) (· = x):=by
 unfold nN;refine .gd (aT (by simp only [Y2];omega) rfl) (Uc.bind (P:=(· = x.Order)) ?_ λs hs => .pure<|by rw [hs];rfl);refine Uc.loop (λz=>∃ k:Nat,k<=x.Order.length/\z=(x.Order.take k,(k:Int))) (λz=>((x.Order.length:Int)-z.2).toNat) ⟨0,by omega,by simp⟩ λz ⟨k,g1,g2⟩ => ?_;subst g2;unfold qU J;simp only [tnn,YG];refine .bifD (λhk=>?_) λhk => .pure ?_
 ·have hk':k<x.Order.length:=by omega
  refine .gdD ⟨by omega,hk⟩<|.gd (aT (by have := h3 k;simp only [Y2];omega) rfl)<|.gd (aT (by rw [YH];omega) rfl)<|.gdI (by omega)<|.pure ⟨⟨k+1,by omega,?_⟩,by simp only [];omega⟩;rw [fo hk']
  rfl
 rw [show k=x.Order.length by omega,YK]
theorem J3 (l:Nat) (hl:l<3):∃ t,Uf p (l:Int)=(l:Int)::t:=Ot hl
theorem I8 {f:LI} (h:f∈rB (chF p)):f.length=(evs p).length:=by
 rw [(mE.1 h).1];simp [chF]
theorem MZ (F:Few p) {o:LL} (h:o∈rB (Ug p)):o.length=3/\∀ i,(o.getD i Uo).length<=100:=by
 obtain ⟨h1,h2⟩:=mE.1 h;refine ⟨h1,λi=>?_⟩
 by_cases hi:i<3
 ·obtain ⟨y,hy,e⟩:=h2 i hi;rw [gdq,e];have hw:=(F.w i hi).1;have hy':y∈chL p i:=by
   match i,hi with
   | 0,_=>exact hy
   | 1,_=>exact hy
   | 2,_=>exact hy
  unfold chL at hy';obtain ⟨r,hr,rfl⟩:=YP.1 hy';have := ((yj rfl).1 hr).length_eq;rw [Ze] at this;show ((i:Int)::r).length<=100;rw [llc];omega
 rw [gdq,gen (by rw [h1];exact Nat.le_of_not_lt hi)];exact YJ _
theorem getD_in {α:Type} [Inhabited α] {l:List α} {i:Nat} (h:i<l.length):l.getD i Uo∈l:=by
 rw [gdq,geq h];exact Zb _
theorem QB (FF:LL) (OO s30:List<|LL) (hO:Uc (kF s30) (· = OO)) (hall:FF.length*OO.length<=3000) (hn:FF.length<=3000) (hn2:OO.length<=3000) (hf:∀ f∈FF,f.length<=24) (ho:∀ o∈OO,o.length=3/\∀ i,(o.getD i Uo).length<=100) :
  Uc (loopO (jb s30 FF) (([]:List TY),(0:Int))) (· = FF.flatMap λf=>OO.map λo=>(⟨f,o⟩:TY)):=by
 have hpre:∀ j,j<=FF.length->((YE j).flatMap λj=>OO.map λo=>(⟨FF.getD j Uo,o⟩:TY)).length<=3000:=λj hj=>by
  have := vL (λj=>OO.map λo=>(⟨FF.getD j Uo,o⟩:TY)) hj;rw [cm FF λf=>OO.map λo=>(⟨f,o⟩:TY),dS (l:=FF) (f:=λf=>OO.map λo=>(⟨f,o⟩:TY)) (m:=OO.length) λ_ _=>llm _] at this;exact YF this hall
 refine (fL FF.length [] (λj=>OO.map λo=>(⟨FF.getD j Uo,o⟩:TY)) (λj hj=>?_) ?_).mono λv hv=>?_
 ·have hfj:=hf _<|getD_in hj;have hpj:=hpre (j+1) hj;rw [bW,lla,llm] at hpj;unfold jb;simp only [YG,tnn];refine .bifD (λ_=>?_) λh=>absurd (show (j:Int)<(FF.length:Int) by omega) h;refine Uc.bind (P:=(· = (YE<|j+1).flatMap λj=>OO.map λo=>(⟨FF.getD j Uo,o⟩:TY))) (.gdD ⟨by omega,by omega⟩ ?_) λv hv => .gdI (by omega)<|.pure (by rw [hv];rfl);refine hO.bind λv86 h86=>?_;subst v86;generalize hpe:(YE j).flatMap (λj=>OO.map λo=>(⟨FF.getD j Uo,o⟩:TY))=pre at hpj ⊢;generalize hfg:FF.getD j Uo=f at hfj ⊢;have hstep:∀ s:List TY×Int,ja FF (pre,(j:Int)) OO s=bif Uu (s.2<(OO.length:Int)) then
    gd (Uu<|0<=s.2/\s.2<(OO.length:Int))<|YO (jq (⟨f,OO.getD s.2.toNat Uo⟩:TY)) λv99=>
    gd (bw (s.1.length+1) 48)<|gd (TT .i64<|s.2+(1:Int))<|Us (.inl ((s.1++[v99]),(s.2+(1:Int)))) else Us (.inr s.1):=λs=>by
   unfold ja J;simp only [tnn,hfg]
  generalize ja FF (pre,(j:Int)) OO=step at hstep ⊢;refine (fL OO.length pre (λi=>[(⟨f,OO.getD i Uo⟩:TY)]) (λi hi=>?_) ?_).mono λv hv=>?_
  ·have hil:((YE i).flatMap λi=>[(⟨f,OO.getD i Uo⟩:TY)]).length=i*1:=by rw [dS (m:=1) λ_ _=>rfl,YI]
   obtain ⟨ho1,ho2⟩:=ho _<|getD_in hi;rw [hstep];simp only [tnn];refine .bifD (λ_ => .gdD ⟨by omega,by omega⟩<|(KM ⟨f,OO.getD i Uo⟩ (YF hfj<|by omega) (by rw [ho1];omega) λi=>YF (ho2 i)<|by omega).bind λv99 h99 => .gd (aT (by rw [lla];omega) rfl)<|.gdI (by omega)<|.pure ?_) λh=>absurd (show (i:Int)<(OO.length:Int) by omega) h;rw [h99,bW,YN]
   rfl
  ·rw [hstep];exact .bifD (λh=>absurd h<|by simp only [];omega) λ_ => .pure rfl
  rw [hv,cm OO λo=>[(⟨f,o⟩:TY)],qh,bW,hpe,hfg]
 ·unfold jb;exact .bifD (λh=>absurd h<|by simp only [];omega) λ_ => .pure rfl
 rw [hv,YG];exact cm FF λf=>OO.map λo=>(⟨f,o⟩:TY)
theorem Hy (hv:bS (Uh p)=Uq):Uc (iE p) (· = eZ p):=by
 have hp:=PV.of hv;have F:=few hv;have hel:=kT hp.vs;unfold iE;refine (Gh hp.vs).bind λv1 e1=>?_;subst v1;have hen:∀ n:Nat,(evs p).getD n Uo=ev p (n:Int):=λn=>by unfold ev;rw [tnn]
 refine Uc.bind (P:=(· = chF p)) ?_ λs2 h2=>?_
 ·refine (fL (evs p).length [] (λi=>[chE p i]) (λk hk=>?_) ?_).mono λv hv=>by rw [hv,YG,qh];rfl
  ·unfold nL J;have hkl:((YE k).flatMap λi=>[chE p i]).length=k*1:=by rw [dS (m:=1) λ_ _=>rfl,YI]
   simp only [YG,tnn,hen];refine .bifD (λ_ => .gdD ⟨by omega,by omega⟩ (Uc.bind (P:=(· = chE p k)) ?_ λv hv => .gd (aT (by omega) rfl)<|.gdI (by omega)<|.pure<|by rw [hv,bW];rfl)) λh=>absurd (show (k:Int)<((evs p).length:Int) by omega) h;have hl:=qG hp (n:=(k:Int)) (by omega) (by omega);refine .bif (λhr=>?_) λhr => .pure (by unfold chE;rw [if_neg (by rw [hr];decide)]);refine (J1 hp _).bind λv17 h17=>?_;subst v17;have hw:=(F.w (ev p (k:Int)).Loc.toNat<|by omega).1;rw [YU hl.1] at hw;refine (OC _ _<|by omega).bind λv21 h21 => .pure ?_;rw [h21];unfold chE;rw [if_pos hr]
   rfl
  unfold nL J;exact .bifD (λh=>absurd h<|by simp only [];omega) λ_ => .pure rfl
 subst s2;refine Uc.bind (P:=(· = Ug p)) ?_ λs30 h30=>?_
 ·refine (fL 3 [] (λl=>[chL p l]) (λl hl=>?_) ?_).mono λv hv=>by rw [hv];rfl
  ·unfold mM;have hkl:((YE l).flatMap λi=>[chL p i]).length=l*1:=by rw [dS (m:=1) λ_ _=>rfl,YI]
   simp only [YG];refine .bifD (λ_=>?_) λh=>absurd (show (l:Int)<3 by omega) h;refine Uc.bind (P:=(· = (YE<|l+1).flatMap λi=>[chL p i])) (Uc.bind (P:=(· = chL p l)) ?_ λv hv => .gd (aT (by omega) rfl)<|.pure<|by rw [hv,bW]) λv hv => .gdI (by omega)<|.pure (by rw [hv];rfl);refine (J1 hp _).bind λv44 h44=>?_;subst v44;have hw:=(F.w l hl).1;obtain ⟨t,ht⟩:=J3 (p:=p) l hl;refine .gdD ⟨by omega,by rw [ht,llc];omega,by omega⟩ ?_;have e:(((Uf p (l:Int)).drop (1:Int).toNat).take<|((Uf p (l:Int)).length:Int).toNat-(1:Int).toNat)=(Uf p (l:Int)).tail:=by
    rw [ht];simp
   rw [e];refine (Qx _<|by rw [Ze];omega).bind λv46 h46=>?_;have hpl:v46.length<=3000:=by
    have := (F.w l hl).2;rw [h46];unfold chL at this
    rwa [llm] at this
   have hrow:∀ i,(v46.getD i Uo).length<=100:=λi=>by
    by_cases hi:i<v46.length
    ·have hm:=getD_in hi;rw [show v46=prm (Uf p (l:Int)).tail.length (Uf p (l:Int)).tail from h46] at hm;have := ((yj rfl).1 hm).length_eq;rw [<- h46,Ze] at this;omega
    rw [gdq,gen (by omega)];exact YJ _
   refine (fL v46.length [] (λi=>[(l:Int)::v46.getD i Uo]) (λi hi=>?_) ?_).mono λv hv=>?_
   ·unfold mL J;have hil:((YE i).flatMap λi=>[(l:Int)::v46.getD i Uo]).length=i*1:=by rw [dS (m:=1) λ_ _=>rfl,YI]
    simp only [YG,tnn];refine .bifD (λ_ => .gdD ⟨by omega,by omega⟩<|.gd (aT (by have := hrow i;simp only [Y7];omega) rfl)<|.gd (aT (by omega) rfl)<|.gdI (by omega)<|.pure<|by rw [bW];rfl) λh=>absurd (show (i:Int)<(v46.length:Int) by omega) h
   ·unfold mL J;exact .bifD (λh=>absurd h<|by simp only [];omega) λ_ => .pure rfl
   rw [hv,YG,cm v46 λx=>[(l:Int)::x],qh,h46]
   rfl
  unfold mM;exact .bifD (λh=>absurd h<|by simp only [];omega) λ_ => .pure rfl
 subst s30;refine Uc.bind (P:=(· = eZ p)) ?_ λv hv => .pure hv;refine (yV (chF p) (by simp [chF];omega) λk _=>YF (F.f k).1<|by omega).bind λv72 h72=>?_;subst v72;have h0:=(F.f (chF p).length).1;rw [YK] at h0;have h1:=(F.o (Ug p).length).1;rw [YK] at h1;exact QB (rB<|chF p) (rB<|Ug p) (Ug p) (BR (Ug p) (by simp [Ug]) λk _=>YF (F.o k).1<|by omega) F.all h0 h1 (λf hf=>by rw [I8 hf];exact hel) λo ho=>MZ F ho
end
section
variable {p:List (List TW)}
theorem I9 {α β:Type} (q:α->Bool) (f:α->List β) (l:List α):(l.filter q).flatMap f=l.flatMap λy=>if q y=Uq then f y else []:=by
 induction l with
 | nil=>rfl
 | cons a l ih=>
  grind
theorem KN (i:Int) (rest:LL) (c:LI) (hc:c.length<=3000) (hr:rest.length<=3000) (hrow:∀ k,(rest.getD k Uo).length<=100) (hall:((c.filter<|nq i).flatMap λy=>rest.map (y :: ·)).length<=3000) :
  Uc (loopO (gB i rest c) (([]:LL),(0:Int))) (· = (c.filter<|nq i).flatMap λy=>rest.map (y :: ·)):=by
 rw [I9] at hall ⊢;rw [<- cm c] at hall ⊢;generalize hg:(λk=>if nq i (c.getD k Uo)=Uq then rest.map (c.getD k Uo :: ·) else [])=g at hall ⊢;have hgk:∀ k,g k=if nq i (c.getD k Uo)=Uq then rest.map (c.getD k Uo :: ·) else []:=λk=>by grind
 refine (fL c.length [] g (λk hk=>?_) ?_).mono λv hv=>by simp_all
 ·have hpre:=YF (vL g (show k+1<=c.length by omega)) hall;rw [bW,lla] at hpre;unfold gB;simp only [YG];refine .bifD (λ_=>?_) λh=>absurd (show (k:Int)<(c.length:Int) by omega) h;refine Uc.bind (P:=(· = (YE (k+1)).flatMap g)) ?_ λv hv => .gdI (by omega) (.pure (by simp_all));rw [bW];have hk1:=hgk k;generalize (YE k).flatMap g=pre at hpre ⊢;generalize g k=gk at hk1 hpre ⊢;subst hk1;have hstep:∀ s:LL×Int,gy i rest c (pre,(k:Int)) s=(YO (bif Uu (s.2<(rest.length:Int)) then gd (Uu (0<=(k:Int)/\(k:Int)<(c.length:Int)))<|Us ((c.getD k Uo) != i) else Us Ur) λs23=>
    bif s23 then
     gd (Uu<|0<=(k:Int)/\(k:Int)<(c.length:Int))<|gd (Uu<|0<=s.2/\s.2<(rest.length:Int))<|gd (bw (([(c.getD k Uo)]:LI).length+(rest.getD s.2.toNat Uo).length) 8) <|
     gd (bw (s.1.length+1) 24)<|gd (TT .i64<|s.2+(1:Int))<|Us (.inl ((s.1++[(([(c.getD k Uo)]:LI)++(rest.getD s.2.toNat Uo))]),(s.2+(1:Int))))
    else Us (.inr s.1)):=λs=>by
   unfold gy J
   simp_all
  generalize gy i rest c (pre,(k:Int))=step at hstep ⊢;generalize c.getD k Uo=y at hstep hpre ⊢
  by_cases hy:y=i
  ·have hn : ¬ nq i y=Uq:=by unfold nq;rw [decide_eq_true hy];decide
   rw [if_neg hn] at hpre ⊢;rw [ul,hstep];have : Uc (bif Uu ((0:Int)<(rest.length:Int)) then gd (Uu<|0<=(k:Int)/\(k:Int)<(c.length:Int))<|Us (y != i) else Us Ur) (· = Ur) := .bifD (λ_ => .gdD ⟨by omega,by omega⟩<|.pure<|by simp_all) λ_ => .pure rfl;rw [show (bif Uu (((pre,(0:Int)):LL×Int).2<(rest.length:Int)) then gd (Uu<|0<=(k:Int)/\(k:Int)<(c.length:Int))<|Us (y != i) else Us Ur)=Us Ur from this.eq];exact .of rfl (by simp)
  have hn:nq i y=Uq:=by unfold nq;rw [decide_eq_false hy];rfl
  have hne:(y != i)=Uq:=by simpa using hy
  rw [if_pos hn,llm] at hpre;rw [if_pos hn];refine (fL rest.length pre (λj=>[y::rest.getD j Uo]) (λj hj=>?_) ?_).mono λv hv=>?_
  ·have hil:((YE j).flatMap λj=>[y::rest.getD j Uo]).length=j*1:=by rw [dS (m:=1) λ_ _=>rfl,YI]
   rw [hstep];refine Uc.bind (P:=(· = Uq)) (.bifD (λ_ => .gdD ⟨by omega,by omega⟩<|.pure hne) λh=>absurd (show (j:Int)<(rest.length:Int) by omega) h) λb hb=>?_;subst hb;simp only [tnn,cond_true];refine .gdD ⟨by omega,by omega⟩<|.gdD ⟨by omega,by omega⟩<|.gd (aT (by grind) rfl)<|.gd (aT (by grind) rfl)<|.gdI (by omega)<|.pure ?_;rw [bW,YN]
   rfl
  ·rw [hstep];refine Uc.bind (P:=(· = Ur)) (.bifD (λh=>absurd h<|by omega) λ_ => .pure rfl) λb hb=>?_;subst hb;exact .pure rfl
  rw [hv,cm rest λx=>[y::x],qh]
 unfold gB;exact .bifD (λh=>absurd h<|by omega) λ_ => .pure rfl
theorem OD {i:Nat} (h:i<(evs p).length):(chF p).drop i=chE p i::(chF p).drop (i+1):=by
 have hl:i<(chF p).length:=by simp [chF];exact h
 rw [Y3 hl]
 congr 1
 simp [chF]
theorem Hz (hv:bS (Uh p)=Uq):∀ (n m i:Nat),i+n=(evs p).length->n<m->Uc (jr m (evs p) (i:Int)) (· = rB ((chF p).drop i))
 | _,0,_,_,h=>by omega
 | 0,m+1,i,hi,_=>by
  show Uc (f9 _ (evs p) (i:Int)) _;unfold f9 J;refine .bif (λ_ => .pure ?_) λh=>by simp_all
  rw [Y4 (by simp [chF] <;> omega)]
  rfl
 | n+1,m+1,i,hi,hm=>by
  have hp:=PV.of hv;have F:=few hv;have hel:=kT hp.vs;have hen:∀ n:Nat,(evs p).getD n Uo=ev p (n:Int):=λn=>by unfold ev;simp_all
  have hl:=qG hp (n:=(i:Int)) (by omega) (by omega);show Uc (f9 _ (evs p) (i:Int)) _;unfold f9 J;refine .bif (λh=>by grind) λ_ => .gdI (by omega) ?_;refine (Hz hv n m (i+1) (by omega)<|by omega).bind λv3 h3=>?_;have hi':i<(evs p).length:=by omega
  have hr:=(F.f<|i+1).2;have hF:=(F.f i).2;have hrow:∀ k,(v3.getD k Uo).length<=100:=λk=>by
   by_cases hk:k<v3.length
   ·have hm:=getD_in hk;rw [show v3=rB ((chF p).drop<|i+1) from h3] at hm;have := (mE.1 hm).1;rw [<- h3,YQ] at this;simp only [chF,llm,YI] at this;omega
   rw [gdq,gen (by omega)];exact YJ _
  rw [OD hi'] at hF ⊢;rw [<- h3] at hr;have hE:rB (chE p i::(chF p).drop (i+1))=(chE p i).flatMap λy=>v3.map (y :: ·):=by rw [h3];rfl
  rw [hE] at hF ⊢;clear hE;generalize hS:(if (ev p (i:Int)).Reads=Uq then Uf p (ev p (i:Int)).Loc else [-1])=c;have hcf:chE p i=c.filter (nq (i:Int)):=by
   unfold chE;rw [<- hS]
   split
   ·rfl
   unfold nq
   grind
  have hcl:c.length<=8:=by
   rw [<- hS]
   split
   ·have hw:=(F.w (ev p (i:Int)).Loc.toNat<|by omega).1
    grind
   decide
  refine Uc.bind (P:=(· = c)) (.gdD ⟨by omega,by omega⟩ ?_) λs4 h4=>?_
  ·simp only [tnn,hen];refine .bif (λh=>((J2 hp _).bind λv7 h7 => .pure ?_)) λh => .pure ?_
   ·rw [h7,<- hS,if_pos h]
   simp_all
  subst s4;rw [hcf] at hF ⊢;exact (KN (i:Int) v3 c (by omega) hr hrow hF).bind λs8 h8 => .pure h8
theorem RF (hv:bS (Uh p)=Uq):Uc (uP (evs p) 0) (· = rB (chF p)):=yQ (evs p).length λm hm=>Hz hv (evs p).length m 0 (by omega) hm
theorem Ja (l:Int) (v3:List<|LL) (v4:LI) (v6:LL) (h40:v4.getD 0 Uo=l) (h4:0<v4.length) (hn6:v6.length<=3000) (hn3:v3.length<=3000) (hr6:∀ k,(v6.getD k Uo).length<=100) (hr3:∀ k,(v3.getD k Uo).length<=100) (hall:(v6.flatMap λr=>v3.map ((l::r) :: ·)).length<=3000) :
  Uc (loopO (jd v3 v4 v6) (([]:List<|LL),(0:Int))) (· = v6.flatMap λr=>v3.map ((l::r) :: ·)):=by
 rw [<- cm v6] at hall ⊢;generalize hg:(λk=>v3.map ((l::v6.getD k Uo) :: ·))=g at hall ⊢;have hgk:∀ k,g k=v3.map ((l::v6.getD k Uo) :: ·):=λk=>by grind
 refine (fL v6.length [] g (λk hk=>?_) ?_).mono λv hv=>by simp_all
 ·have hpre:=YF (vL g<|show k+1<=v6.length by omega) hall;have hrk:=hr6 k;rw [bW,lla] at hpre;unfold jd J;simp only [YG,tnn,show (0:Int).toNat=0 from rfl,h40];refine .bifD (λ_=>?_) λh=>absurd (show (k:Int)<(v6.length:Int) by omega) h;refine Uc.bind (P:=(· = (YE<|k+1).flatMap g)) (.gdD ⟨by omega,by omega⟩<|.gdD ⟨by omega,by omega⟩<|.gd (aT (by grind) rfl) ?_) λv hv => .gdI (by omega)<|.pure (by simp_all);rw [bW];have hk1:=hgk k;generalize (YE k).flatMap g=pre at hpre ⊢;generalize g k=gk at hk1 hpre ⊢;subst hk1;rw [llm] at hpre;have hstep:∀ s:List (LL)×Int,jc v3 v4 v6 (pre,(k:Int)) s=bif Uu (s.2<(v3.length:Int)) then
    gd (Uu<|0<=s.2/\s.2<(v3.length:Int))<|gd (bw (([(([l]:LI)++(v6.getD k Uo))]:LL).length+(v3.getD s.2.toNat Uo).length) 24)<|gd (bw (s.1.length+1) 24)<|gd (TT .i64<|s.2+(1:Int)) <|
    Us (.inl ((s.1++[(([(([l]:LI)++(v6.getD k Uo))]:LL)++(v3.getD s.2.toNat Uo))]),(s.2+(1:Int)))) else Us (.inr s.1):=λs=>by
   unfold jc J
   simp_all
  generalize jc v3 v4 v6 (pre,(k:Int))=step at hstep ⊢;generalize v6.getD k Uo=y at hstep ⊢;refine (fL v3.length pre (λj=>[(l::y)::v3.getD j Uo]) (λj hj=>?_) ?_).mono λv hv=>?_
  ·have hil:((YE j).flatMap λj=>[(l::y)::v3.getD j Uo]).length=j*1:=by rw [dS (m:=1) λ_ _=>rfl,YI]
   rw [hstep];simp only [tnn];refine .bifD (λ_ => .gdD ⟨by omega,by omega⟩<|.gd (aT (by grind) rfl)<|.gd (aT (by grind) rfl)<|.gdI (by omega)<|.pure ?_) λh=>absurd (show (j:Int)<(v3.length:Int) by omega) h;rw [bW,YN]
   rfl
  ·rw [hstep];exact .bifD (λh=>absurd h<|by omega) λ_ => .pure rfl
  rw [hv,cm v3 λx=>[(l::y)::x],qh]
 unfold jd J;exact .bifD (λh=>absurd h<|by omega) λ_ => .pure rfl
theorem OE {l:Nat} (h:l<3):(Ug p).drop l=chL p l::(Ug p).drop (l+1):=by
 match l,h with
 | 0,_=>rfl
 | 1,_=>rfl
 | 2,_=>rfl
theorem Ep (hv:bS (Uh p)=Uq):∀ (n m l:Nat),l+n=3->n<m->Uc (iG m (evs p) (l:Int)) (· = rB ((Ug p).drop l))
 | _,0,_,_,h=>by omega
 | 0,m+1,l,hl,_=>by
  show Uc (fe _ (evs p) (l:Int)) _;unfold fe;refine .bifD (λ_ => .pure ?_) λh=>absurd (show (2:Int)<(l:Int) by omega) h;rw [Y4 (by simp [Ug] <;> omega)]
  rfl
 | n+1,m+1,l,hl,hm=>by
  have hp:=PV.of hv;have F:=few hv;have hl3:l<3:=by omega
  show Uc (fe _ (evs p) (l:Int)) _;unfold fe;refine .bifD (λh=>absurd h<|by omega) λ_ => .gdI (by omega) ?_;refine (Ep hv n m (l+1) (by omega)<|by omega).bind λv3 h3=>(J2 hp _).bind λv4 h4=>?_;subst v4;have hw:=(F.w l hl3).1;obtain ⟨t,ht⟩:=J3 (p:=p) l hl3;refine .gdD ⟨by omega,by grind,by omega⟩ ?_;have e:(((Uf p (l:Int)).drop (1:Int).toNat).take<|((Uf p (l:Int)).length:Int).toNat-(1:Int).toNat)=(Uf p (l:Int)).tail:=by
   rw [ht];simp
  rw [e];refine (RE _<|by grind).bind λv6 h6=>?_;have hn6:v6.length<=3000:=by
   have := (F.w l hl3).2;rw [h6];unfold chL at this
   simp_all
  have hr6:∀ i,(v6.getD i Uo).length<=100:=λi=>by
   by_cases hi:i<v6.length
   ·have hm:=getD_in hi;rw [show v6=prm (Uf p (l:Int)).tail.length (Uf p (l:Int)).tail from h6] at hm;have := ((yj rfl).1 hm).length_eq
    grind
   rw [gdq,gen (by omega)];exact YJ _
  have hn3:=(F.o<|l+1).2;have hO:=(F.o l).2;have hr3:∀ k,(v3.getD k Uo).length<=100:=λk=>by
   by_cases hk:k<v3.length
   ·have hm:=getD_in hk;rw [show v3=rB ((Ug p).drop<|l+1) from h3] at hm;have := (mE.1 hm).1;rw [<- h3,YQ] at this;simp only [Ug,llc,Y2] at this;omega
   rw [gdq,gen (by omega)];exact YJ _
  rw [OE hl3] at hO ⊢;rw [<- h3] at hn3;have hE:rB (chL p l::(Ug p).drop (l+1))=v6.flatMap λr=>v3.map (((l:Int)::r) :: ·):=by
   show ((prm (Uf p (l:Int)).tail.length (Uf p (l:Int)).tail).map ((l:Int) :: ·)).flatMap (λy=>(rB<|(Ug p).drop<|l+1).map (y :: ·))=_;rw [<- h6,<- h3,List.flatMap_map]
  rw [hE] at hO ⊢;exact (Ja (l:Int) v3 (Uf p (l:Int)) v6 (by simp_all) (by simp_all) hn6 hn3 hr6 hr3 hO).bind λs7 h7 => .pure h7
theorem QC (hv:bS (Uh p)=Uq):Uc (sW (evs p) 0) (· = rB (Ug p)):=yQ 3 λm hm=>Ep hv 3 m 0 (by omega) hm
theorem QD (FF:LL) (OO:List<|LL) (hall:FF.length*OO.length<=3000) (hn:FF.length<=3000) (hn2:OO.length<=3000) (hf:∀ f∈FF,f.length<=24) (ho:∀ o∈OO,o.length=3/\∀ i,(o.getD i Uo).length<=100) :
  Uc (loopO (nO FF OO) (([]:List TY),(0:Int))) (· = FF.flatMap λf=>OO.map λo=>(⟨f,o⟩:TY)):=by
 have hpre:∀ j,j<=FF.length->((YE j).flatMap λj=>OO.map λo=>(⟨FF.getD j Uo,o⟩:TY)).length<=3000:=λj hj=>by
  have := vL (λj=>OO.map λo=>(⟨FF.getD j Uo,o⟩:TY)) hj;rw [cm FF λf=>OO.map λo=>(⟨f,o⟩:TY),dS (l:=FF) (f:=λf=>OO.map λo=>(⟨f,o⟩:TY)) (m:=OO.length) λ_ _=>llm _] at this;omega
 refine (fL FF.length [] (λj=>OO.map λo=>(⟨FF.getD j Uo,o⟩:TY)) (λj hj=>?_) ?_).mono λv hv=>?_
 ·have hfj:=hf _<|getD_in hj;have hpj:=hpre (j+1) hj;rw [bW,lla,llm] at hpj;unfold nO;simp only [YG];refine .bifD (λ_=>?_) λh=>absurd (show (j:Int)<(FF.length:Int) by omega) h;refine Uc.bind (P:=(· = (YE<|j+1).flatMap λj=>OO.map λo=>(⟨FF.getD j Uo,o⟩:TY))) ?_ λv hv => .gdI (by omega)<|.pure (by simp_all);generalize hpe:(YE j).flatMap (λj=>OO.map λo=>(⟨FF.getD j Uo,o⟩:TY))=pre at hpj ⊢;generalize hfg:FF.getD j Uo=f at hfj;have hstep:∀ s:List TY×Int,l8 FF OO (pre,(j:Int)) s=bif Uu (s.2<(OO.length:Int)) then
    gd (Uu<|0<=(j:Int)/\(j:Int)<(FF.length:Int))<|gd (Uu<|0<=s.2/\s.2<(OO.length:Int))<|YO (nN (⟨f,OO.getD s.2.toNat Uo⟩:TY)) λv99=>
    gd (bw (s.1.length+1) 48)<|gd (TT .i64<|s.2+(1:Int))<|Us (.inl ((s.1++[v99]),(s.2+(1:Int)))) else Us (.inr s.1):=λs=>by
   unfold l8 J
   simp_all
  generalize l8 FF OO (pre,(j:Int))=step at hstep ⊢;refine (fL OO.length pre (λi=>[(⟨f,OO.getD i Uo⟩:TY)]) (λi hi=>?_) ?_).mono λv hv=>?_
  ·have hil:((YE i).flatMap λi=>[(⟨f,OO.getD i Uo⟩:TY)]).length=i*1:=by rw [dS (m:=1) λ_ _=>rfl,YI]
   obtain ⟨ho1,ho2⟩:=ho _<|getD_in hi;rw [hstep];simp only [tnn];refine .bifD (λ_ => .gdD ⟨by omega,by omega⟩<|.gdD ⟨by omega,by omega⟩<|(MX ⟨f,OO.getD i Uo⟩ (YF hfj<|by omega) (by simp_all) λi=>YF (ho2 i)<|by omega).bind λv99 h99 => .gd (aT (by grind) rfl)<|.gdI (by omega)<|.pure ?_) λh=>absurd (show (i:Int)<(OO.length:Int) by omega) h;rw [h99,bW,YN]
   rfl
  ·rw [hstep];exact .bifD (λh=>absurd h<|by omega) λ_ => .pure rfl
  rw [hv,cm OO λo=>[(⟨f,o⟩:TY)],qh,bW,hpe,hfg]
 ·unfold nO;exact .bifD (λh=>absurd h<|by omega) λ_ => .pure rfl
 rw [hv,YG];exact cm FF λf=>OO.map λo=>(⟨f,o⟩:TY)
theorem M0 (hv:bS (Uh p)=Uq):Uc (uy p) (· = eZ p):=by
 have hp:=PV.of hv;have F:=few hv;have hel:=kT hp.vs;unfold uy;refine (I0 hp.vs).bind λv1 e1=>?_;subst v1;refine (RF hv).bind λv2 h2=>(QC hv).bind λv3 h3=>?_;subst v2 v3;have h0:=(F.f (chF p).length).1;rw [YK] at h0;have h1:=(F.o (Ug p).length).1;rw [YK] at h1;exact (QD (rB<|chF p) (rB<|Ug p) F.all h0 h1 (λf hf=>by rw [I8 hf];omega) λo ho=>MZ F ho).bind λs4 h4 => .pure h4
end
section
variable {p:List (List TW)} {x:XS} {F F':LI}
def QE (p:List<|List TW):LI:=(YE (evs p).length).map λ(i:Nat)=>(i:Int)
theorem Cand.congr (C:Cand p x F) (h:∀ n,n∈F'↔n∈F):Cand p x F':=
 ⟨λn=>(h n).trans<|C.mem n,C.flen,C.olen,λl hl=>⟨(C.ods l hl).nd,λn=>by rw [(C.ods l hl).mem,h]⟩,C.hd,λi hi hr=>C.rdc i ((h i).1 hi) hr,λi hi hr=>C.ne i ((h i).1 hi) hr,λi hi hr=>C.frN i ((h i).1 hi) hr⟩
theorem Cand.rng (C:Cand p x F):Cand p x (QE p):=C.congr λn=>(wK n).trans (C.mem n).symm
theorem J4 (l:Int):(Uf p l).Nodup:=List.Pairwise.filter _ Pp
theorem wN {c:TY} (hp:PV p) (h:c∈eZ p):Cand p (c.From,c.Order) (QE p):=by
 unfold eZ at h;simp only [Y8,YP] at h;obtain ⟨f,hf,o,ho,rfl⟩:=h;obtain ⟨f1,f2⟩:=mE.1 hf;obtain ⟨o1,o2⟩:=mE.1 ho;have hfl:=I8 hf;have oget:∀ l:Nat,l<3->∃ r,o.getD l []=(l:Int)::r/\r.Perm (Uf p (l:Int)).tail:=λl hl=>by
  obtain ⟨y,hy,e⟩:=o2 l hl;have hy':y∈chL p l:=by
   match l,hl with
   | 0,_=>exact hy
   | 1,_=>exact hy
   | 2,_=>exact hy
  unfold chL at hy';obtain ⟨r,hr,rfl⟩:=YP.1 hy';exact ⟨r,by rw [gdq,e];rfl,(yj rfl).1 hr⟩
 have operm:∀ l:Nat,l<3->(o.getD l []).Perm (Uf p (l:Int)):=λl hl=>by
  obtain ⟨r,e,hr⟩:=oget l hl;obtain ⟨t,ht⟩:=J3 (p:=p) l hl;rw [e];rw [ht] at hr ⊢;exact hr.cons _
 have fget:∀ i:Nat,i<(evs p).length->f.getD i Uo∈chE p i:=λi hi=>by
  obtain ⟨y,hy,e⟩:=f2 i (by simp [chF];exact hi);rw [gdq,e];simpa [chF] using hy
 have odn:∀ l:Int,0<=l/\l<=2->(od (f,o) l).Perm (Uf p l):=λl hl=>by
  have := operm l.toNat (by omega);rw [YU hl.1] at this;exact this
 have rd:∀ i:Int,i∈QE p->(ev p i).Reads=Uq->f.getD i.toNat Uo∈Uf p (ev p i).Loc/\f.getD i.toNat Uo≠i:=λi hi hr=>by
  obtain ⟨i0,i1⟩:=(wK i).1 hi;have := fget i.toNat (by omega);unfold chE at this;rw [YU i0,if_pos hr,Y5] at this;exact ⟨this.1,by simpa using this.2⟩
 refine ⟨λn=>wK n,hfl,o1,λl hl=>⟨(odn l hl).nodup_iff.2<|J4 l,λn=>?_⟩,λl hl=>?_,λi hi hr=>?_,λi hi hr=>(rd i hi hr).2,λi hi hr=>?_⟩
 ·rw [(odn l hl).mem_iff];unfold Uf;rw [Y5];unfold Wl;rw [bae,dte];exact Iff.rfl
 ·obtain ⟨r,e,_⟩:=oget l hl;exact ⟨r,by unfold od;rw [tnn];exact e⟩
 ·obtain ⟨i0,i1⟩:=(wK i).1 hi;exact (odn _<|qG hp i0 i1).mem_iff.2 (rd i hi hr).1
 obtain ⟨i0,i1⟩:=(wK i).1 hi;have := fget i.toNat (by omega);unfold chE at this;rw [YU i0,if_neg (by rw [hr];decide)] at this;simpa using this
theorem Er (hp:PV p) (C:Cand p x<|QE p):(⟨x.1,x.2⟩:TY)∈eZ p:=by
 unfold eZ;simp only [Y8,YP];refine ⟨x.1,mE.2 ⟨by rw [C.flen];simp [chF],λi hi=>?_⟩,x.2,mE.2 ⟨C.olen,λl hl=>?_⟩,rfl⟩
 ·have hi':i<(evs p).length:=by simpa [chF] using hi
  have hm:(i:Int)∈QE p:=(wK _).2 ⟨by omega,by omega⟩;refine ⟨x.1.getD i Uo,?_,by rw [gdq,geq (by rw [C.flen];exact hi')];rfl⟩;simp only [chF,Zl,List.getElem_range];unfold chE
  split
  ·rename_i hr;have h1:=C.rdc _ hm hr;have h2:=C.ne _ hm hr;rw [tnn] at h1 h2;have hl:=qG hp (n:=(i:Int)) (by omega) (by omega);refine Y5.2 ⟨?_,by simpa using h2⟩;have h3:=((C.ods _ hl).mem _).1 h1;unfold Uf;rw [Y5];refine ⟨h3.1,?_⟩;unfold Wl;rw [h3.2.1,YL,dte];exact h3.2.2
  rename_i hr;have := C.frN _ hm (by simpa using hr);rw [tnn] at this;rw [this];exact YT.2 rfl
 have hl':l<3:=hl;obtain ⟨t,ht⟩:=C.hd l hl';obtain ⟨w,hw⟩:=J3 (p:=p) l hl';have hg:x.2[l]? = Us ((l:Int)::t):=by
  have h1:l<x.2.length:=by rw [C.olen];exact hl'
  unfold od at ht;rw [tnn,gdq,geq h1] at ht;rw [geq h1];exact congrArg Us ht
 refine ⟨(l:Int)::t,?_,hg⟩;have hpm:((l:Int)::t).Perm ((l:Int)::w):=by
  rw [<- ht,<- hw];have O:=C.ods (l:Int) (by omega);refine (Zr O.nd<|J4 _).2 λn=>?_;rw [O.mem];unfold Uf;rw [Y5];unfold Wl;rw [bae,dte];exact Iff.rfl
 have hin:(l:Int)::t∈chL p l:=by
  unfold chL;refine YP.2 ⟨t,(yj rfl).2 ?_,rfl⟩;rw [hw];exact hpm.cons_inv
 match l,hl' with
 | 0,_=>exact hin
 | 1,_=>exact hin
 | 2,_=>exact hin
def TrL (p:List<|List TW) (o:LI):Prop:=Whole p o/\Gr p (vJ p<|qM p o o.length) (QE p) (λ_=>0) o
theorem ym (hv:bS (Uh p)=Uq) {c:TY} (h:c∈eZ p):∃ l b,bv p ⟨c.From,c.Order⟩=Us (l,b)/\gT p (ug p (Ud p (c.From,c.Order)) (evs p).length)=Us (l,b)/\l.length<=21/\(b=Uq->TrL p l/\vJ p (qM p l l.length)=(c.From,c.Order)) /\
  (∀ s,Whole p s->vJ p (qM p s s.length)=(c.From,c.Order)->b=Uq):=by
 have hp:=PV.of hv;obtain ⟨l,b,h1,h2,h3,_,h5,h6⟩:=yP hp hv<|wN hp h;refine ⟨l,b,h1,h2,h3,λhb=>?_,h6⟩;obtain ⟨g1,g2,g3⟩:=h5 hb;exact ⟨⟨g1,by rw [g2];exact g3⟩,g2⟩
theorem BS {s:LI} (hw:Whole p s):Cand p (vJ p<|qM p s s.length) (QE p):=(RunOf.cand (PV.of hw.1)<|yh (PV.of hw.1) hw).rng
theorem M3 {a:Nat->Nat} {r:LI} (h:Gr p x F a r):StA p a->r.length=mu p a:=by
 induction h with
 | @nil b h=>
  intro _;unfold mu;have : (YE p.length).map (λt=>(p.getD t Uo).length-b t)=(YE p.length).map λ_=>0:=Zt λt ht=>by
   rw [h t (YS.1 ht),Zk]
  rw [this];have h0:∀ n:Nat,((YE n).map λ_=>0).sum=0:=λn=>by
   induction n with
   | zero=>rfl
   | succ n ih=>rw [Y6,Zi,List.sum_append,ih];rfl
  exact (h0 _).symm
 | cons h _ _ ih=>
  intro ha;have := Hs h.1 h.2.1;rw [llc,ih (ha.adv h.2.1)];omega
theorem M4 {o:LI} (h:TrL p o):o.length=mu p λ_=>0:=M3 h.2 λ_ _=>YJ _
theorem M5 {a b:LI} (k:Nat) (ha:k<a.length) (hb:k<b.length):cmpL (a.drop k) (b.drop k)=if a.getD k Uo<b.getD k Uo then -1 else if b.getD k Uo<a.getD k Uo then 1 else cmpL (a.drop<|k+1) (b.drop<|k+1):=by
 have e1:a.getD k Uo=a[k]:=by rw [gdq,geq ha];rfl
 have e2:b.getD k Uo=b[k]:=by rw [gdq,geq hb];rfl
 rw [Y3 ha,Y3 hb,cmpL,e1,e2]
theorem J5 {a b:LI} (h:a.length=b.length) (hl:a.length<=1000000):Uc (nS a b) (· = cmpL a b):=by
 unfold nS;refine Uc.sum (PS:=λ_=>cmpL a b=0) (PW:=(· = cmpL a b)) ?_ λ_ h0 => .pure h0.symm;refine Uc.loop (λz=>∃ k:Nat,k<=a.length/\z=(k:Int)/\cmpL a b=cmpL (a.drop k) (b.drop k)) (λz=>((a.length:Int)-z).toNat) ⟨0,by omega,rfl,rfl⟩ λz ⟨k,h1,h2,h3⟩ => ?_;subst h2;unfold xb J;simp only [tnn];refine Uc.bind (P:=(· = Uu (k<a.length))) (.bifD (λhk => .pure ?_) λhk => .pure ?_) λc hc=>?_
 ·rw [decide_eq_true (show k<a.length by omega)];exact decide_eq_true (by omega)
 ·rw [decide_eq_false (show ¬ k<a.length by omega)]
 subst hc;refine .bifD (λhk=>?_) λhk => .pure ?_
 ·rw [M5 k hk (by omega)] at h3;refine .gdD ⟨by omega,by omega⟩<|.gdD ⟨by omega,by omega⟩<|.bifD (λhlt => .pure ?_) λhge => .bifD (λhlt => .pure ?_) λhge2 => .gdI (by omega)<|.pure ⟨⟨k+1,by omega,rfl,?_⟩,by omega⟩
  ·rw [if_pos hlt] at h3;exact h3.symm
  ·rw [if_neg hge,if_pos hlt] at h3;exact h3.symm
  rw [if_neg hge,if_neg hge2] at h3;exact h3
 rw [h3,Y4 (by omega),Y4 (by omega)]
 rfl
theorem QF {l:LL} {o:LI} (hs:l.Pairwise ltL) (hn:l.length<=100000) (hr:∀ r∈l,r.length=o.length) (ho:o.length<=1000):Uc (uE l o) λq=>q.Pairwise ltL/\(∀ r,r∈q↔r∈l\/r=o)/\q.length<=l.length+1:=by
 have hrD:∀ i,i<l.length->(l.getD i Uo).length=o.length:=λi hi=>hr _<|getD_in hi;unfold uE J;refine Uc.bind (P:=λz:Int=>∃ k:Nat,k<=l.length/\z=(k:Int)/\(∀ r∈l.take k,ltL r o)/\(k<l.length -> ¬ ltL (l.getD k Uo) o)) ?_ λz ⟨k,h1,h2,h3,h4⟩ => ?_
 ·refine Uc.loop (λz=>∃ k:Nat,k<=l.length/\z=(k:Int)/\∀ r∈l.take k,ltL r o) (λz=>((l.length:Int)-z).toNat) ⟨0,by omega,rfl,by simp⟩ λz ⟨k,h1,h2,h3⟩ => ?_;subst h2;unfold xY J;simp only [tnn];refine Uc.bind (P:=λc:Bool=>c=Uq↔k<l.length/\ltL (l.getD k Uo) o) (.bifD (λhk => .gdD ⟨by omega,hk⟩<|(J5 (hrD k<|by omega)<|by rw [hrD k (by omega)];omega).bind λv hv => .pure ?_) λhk => .pure ⟨λe=>(by cases e),λe=>absurd e.1<|by omega⟩) λc hc=>?_
  ·subst hv;rw [dte];exact ⟨λe=>⟨by omega,e⟩,λe=>e.2⟩
  refine .bif (λh=>?_) λh => .pure ⟨k,h1,rfl,h3,λhk hlt=>?_⟩
  ·obtain ⟨g1,g2⟩:=hc.1 h;refine .gdI (by omega)<|.pure ⟨⟨k+1,by omega,rfl,λr hr' => ?_⟩,by omega⟩;rw [fo g1,YV,YT] at hr';rcases hr' with hr' | rfl
   ·exact h3 r hr'
   exact g2
  rw [hc.2 ⟨hk,hlt⟩] at h
  cases h
 subst h2;simp only [tnn];refine Uc.bind (P:=λc:Bool=>c=Uq↔k<l.length/\l.getD k Uo=o) (.bifD (λhk => .gdD ⟨by omega,hk⟩<|(J5 (hrD k<|by omega)<|by rw [hrD k (by omega)];omega).bind λv hv => .pure ?_) λhk => .pure ⟨λe=>(by cases e),λe=>absurd e.1<|by omega⟩) λc hc=>?_
 ·subst hv;rw [beq_iff_eq];exact ⟨λe=>⟨by omega,cmpL_eq e⟩,λe=>by rw [e.2,sM]⟩
 refine .bif (λh => .pure ?_) λh=>?_
 ·obtain ⟨g1,g2⟩:=hc.1 h;refine ⟨hs,λr=>⟨.inl,λh=>?_⟩,by omega⟩;rcases h with h | rfl
  ·exact h
  rw [<- g2];exact getD_in g1
 have e1:((l.drop (0:Int).toNat).take<|k-(0:Int).toNat)=l.take k:=by simp
 have e2:((l.drop k).take<|l.length-k)=l.drop k:=YZ (by rw [YQ];exact YR _);rw [e1,e2];have g1:(l.take k).length<=l.length:=by rw [YH];omega
 have g2:(l.drop k).length<=l.length:=by rw [YQ];omega
 refine .gdD ⟨by omega,by omega,by omega⟩<|.gd (aT (by simp only [Y2];omega) rfl)<|.gd (aT (by simp only [YG];omega) rfl)<|.gdD ⟨by omega,by omega,by omega⟩<|.gd (aT (by simp only [YG,lla,Y7];omega) rfl)<|.pure ?_;rw [YG,YN];have hlt:∀ r∈l.drop k,ltL o r:=λr hr'=>by
  have hk:k<l.length:=by
   rcases Zf k l.length with h | h
   ·exact h
   rw [Y4 h] at hr';cases hr'
  have hne:l.getD k Uo≠o:=λe=>by rw [hc.2 ⟨hk,e⟩] at h;cases h
  have hko:ltL o (l.getD k Uo):=by
   rcases wC (l.getD k Uo) o with g | g | g
   ·exact absurd g<|h4 hk
   ·exact absurd g hne
   exact g
  have hdk:l.drop k=l.getD k Uo::l.drop (k+1):=by
   rw [gdq,geq hk];exact Y3 hk
  have hsd:(l.drop k).Pairwise ltL:=hs.sublist<|List.drop_sublist k l;rw [hdk] at hr' hsd;rcases Y1.1 hr' with rfl | hr'
  ·exact hko
  exact sG hko<|(List.pairwise_cons.1 hsd).1 r hr'
 refine ⟨?_,λr=>?_,?_⟩
 ·refine List.pairwise_append.2 ⟨hs.sublist<|List.take_sublist k l,List.pairwise_cons.2 ⟨hlt,hs.sublist<|List.drop_sublist k l⟩,λa ha b hb=>?_⟩;rcases Y1.1 hb with rfl | hb
  ·exact h3 a ha
  exact sG (h3 a ha)<|hlt b hb
 ·have : r∈l↔r∈l.take k\/r∈l.drop k:=by rw [<- YV,Za]
  rw [this];simp only [YV,Y1,List.cons_append,YG]
  constructor
  ·rintro (h | rfl | h)
   ·exact .inl<|.inl h
   ·exact .inr rfl
   exact .inl<|.inr h
  rintro ((h | h) | rfl)
  ·exact .inl h
  ·exact .inr<|.inr h
  exact .inr<|.inl rfl
 simp only [lla,Y7,YH,YQ,llc,Y2];omega
theorem M6 {a b:LL} (ha:a.Pairwise ltL) (hb:b.Pairwise ltL) (h:∀ o,o∈a↔o∈b):a=b:=by
 refine zF ((Zr (ha.imp λh=>Mh h)<|hb.imp λh=>Mh h).2 h) (ha.imp λh=>IY.2<|.inl h)<|hb.imp λh=>IY.2<|.inl h
theorem KO (hsz:p.length<=1048576/\total p<=1048576):∃ q,f7 p=Us q/\gm p=Us q/\(bS (Uh p)=Ur->q=[])/\(bS (Uh p)=Uq->q.Pairwise ltL/\(∀ o,o∈q↔TrL p o)/\q.length<=3000):=by
 have hI:aU p=Us (bS<|Uh p):=qO<|decide_eq_true hsz;have hS:bT p=Us (bS<|Uh p):=qO<|decide_eq_true hsz
 cases hv:bS (Uh p) with
 | false=>
  rw [hv] at hI hS;refine ⟨[],?_,?_,λ_=>rfl,nofun⟩
  ·unfold f7;rw [hI]
   rfl
  unfold gm nP;rw [hS];refine Uc.eq (Uc.bind (P:=(· = [])) (.pure rfl) λv hv=>?_);subst hv;refine Uc.bind (P:=(· = [])) ?_ λv hv => .pure hv;rw [ul];unfold mN J;exact .pure rfl
 | true=>
  rw [hv] at hI hS;have hp:=PV.of hv;have Fw:=few hv;have hcl:(eZ p).length<=3000:=by
   unfold eZ;rw [dS (m:=(rB<|Ug p).length) λ_ _=>llm _];exact Fw.all
  let Q:Nat->LI->Prop:=λk o=>∃ i,i<k/\∃ l,bv p ⟨((eZ p).getD i Uo).From,((eZ p).getD i Uo).Order⟩=Us (l,Uq)/\o=l;have Qtr:∀ o,Q (eZ p).length o↔TrL p o:=λo=>by
   constructor
   ·rintro ⟨i,hi,l,e,rfl⟩;obtain ⟨l',b,h1,_,_,h4,_⟩:=ym hv<|getD_in hi;rw [e] at h1;obtain ⟨rfl,rfl⟩:=Zm<|osl h1;exact (h4 rfl).1
   intro ht;have hm:=Er hp<|BS ht.1;obtain ⟨i,hi,e⟩:=Zd hm;have eD:(eZ p).getD i Uo=⟨(vJ p<|qM p o o.length).1,(vJ p<|qM p o o.length).2⟩:=by
    rw [gdq,geq hi];exact e
   obtain ⟨l,b,h1,_,_,h4,h5⟩:=ym hv<|getD_in hi;rw [eD] at h1 h4 h5;obtain rfl:=h5 o ht.1 rfl;obtain ⟨g1,g2⟩:=h4 rfl;refine ⟨i,hi,l,by rw [eD];exact h1,?_⟩;have g3:=g1.2;rw [g2] at g3;exact ht.2.uniq g3
  have hi:Uc (f7 p) λq=>q.Pairwise ltL/\∀ o,o∈q↔TrL p o:=by
   unfold f7;refine (Uc.of (P:=(· = Uq)) hI rfl).bind λv1 h1 => .bif (λh=>by subst h1;cases h) λ_=>?_;refine Uc.bind (P:=λl=>(∀ o,o∈l↔TrL p o)/\l.length<=3000/\∀ r∈l,r.length<=21) ?_ λs3 ⟨h3,h4,h5⟩ => ?_
   ·refine (Hy hv).bind λv4 e4=>?_;subst v4;refine Uc.loop (λz=>∃ k:Nat,k<=(eZ p).length/\z.2=(k:Int)/\(∀ o,o∈z.1↔Q k o)/\z.1.length<=k/\∀ r∈z.1,r.length<=21) (λz=>(((eZ p).length:Int)-z.2).toNat) ⟨0,by omega,rfl,λo=>⟨λh=>by simp at h,λ⟨i,h,_⟩=>absurd h<|by omega⟩,by simp,λr h=>by simp at h⟩ λz ⟨k,h1,h2,h3,h4,h5⟩ => ?_;obtain ⟨l,z2⟩:=z;simp only at h2 h3 h4 h5;subst h2;unfold rJ J;simp only [tnn];refine .bifD (λhk=>?_) λhk => .pure ⟨λo=>by rw [h3,show k=(eZ p).length by omega];exact Qtr o,by omega,h5⟩;have hk':k<(eZ p).length:=by omega
    obtain ⟨lk,b,e1,_,e3,_,_⟩:=ym hv<|getD_in hk';have hQ:∀ o,Q (k+1) o↔Q k o\/(b=Uq/\o=lk):=λo=>by
     constructor
     ·rintro ⟨i,hi,l',e,rfl⟩;rcases Zf i k with h | h
      ·exact .inl ⟨i,h,o,e,rfl⟩
      obtain rfl:i=k:=by omega
      rw [e] at e1;obtain ⟨rfl,rfl⟩:=Zm<|osl e1;exact .inr ⟨rfl,rfl⟩
     rintro (⟨i,hi,l',e,rfl⟩ | ⟨rfl,rfl⟩)
     ·exact ⟨i,by omega,o,e,rfl⟩
     exact ⟨k,by omega,o,e1,rfl⟩
    refine Uc.bind (P:=λl'=>(∀ o,o∈l'↔Q (k+1) o)/\l'.length<=k+1/\∀ r∈l',r.length<=21) (.gdD ⟨by omega,hk⟩ ((Uc.of (P:=(· = (lk,b))) e1 rfl).bind λv18 e18=>?_)) λl' ⟨g1,g2,g3⟩ => .gdI (by omega)<|.pure ⟨⟨k+1,by omega,rfl,g1,g2,g3⟩,by simp only [];omega⟩;subst e18;refine .bif (λhb => .gd (aT (by omega) rfl)<|.pure ⟨λo=>?_,by simp;omega,λr hr=>?_⟩) λhb => .pure ⟨λo=>?_,by omega,h5⟩
    ·rw [YV,YT,h3,hQ];exact ⟨λh=>h.imp id λe=>⟨hb,e⟩,λh=>h.imp id λe=>e.2⟩
    ·rcases YV.1 hr with h | h
     ·exact h5 r h
     rw [YT.1 h];exact e3
    rw [h3,hQ];refine ⟨.inl,λh=>?_⟩;rcases h with h | h
    ·exact h
    have : b=Ur:=hb;rw [h.1] at this
    cases this
   refine (KH (by omega) λr hr=>YF (h5 r hr)<|by omega).bind λv28 S => .pure ⟨S.lt,λo=>(S.mem o).trans<|h3 o⟩
  have hs:Uc (gm p) λq=>q.Pairwise ltL/\(∀ o,o∈q↔TrL p o)/\q.length<=3000:=by
   unfold gm nP;refine Uc.bind (P:=(· = eZ p)) ((Uc.of (P:=(· = Uq)) hS rfl).bind λv1 h1 => .bif (λh=>by subst h1;cases h) λ_=>(M0 hv).bind λv3 h3 => .pure h3) λv1 h1=>?_;subst v1;refine Uc.bind (P:=λq=>q.Pairwise ltL/\(∀ o,o∈q↔TrL p o)/\q.length<=3000) ?_ λv hv => .pure hv;refine Uc.loop (λz=>∃ k:Nat,k<=(eZ p).length/\z.1=(k:Int)/\(∀ o,o∈z.2↔Q k o)/\z.2.length<=k/\z.2.Pairwise ltL) (λz=>(((eZ p).length:Int)-z.1).toNat) ⟨0,by omega,rfl,λo=>⟨λh=>by simp at h,λ⟨i,h,_⟩=>absurd h<|by omega⟩,by simp,.nil⟩ λz ⟨k,h1,h2,h3,h4,h5⟩ => ?_;obtain ⟨z1,l⟩:=z;simp only at h2 h3 h4 h5;subst h2;unfold mN J;simp only [tnn];refine .bifD (λhk=>?_) λhk => .pure ⟨h5,λo=>by rw [h3,show k=(eZ p).length by omega];exact Qtr o,by omega⟩;have hk':k<(eZ p).length:=by omega
   have hC:=wN hp<|getD_in hk';obtain ⟨lk,b,e1,e2,e3,e4,_⟩:=ym hv<|getD_in hk';have hQ:∀ o,Q (k+1) o↔Q k o\/(b=Uq/\o=lk):=λo=>by
    constructor
    ·rintro ⟨i,hi,l',e,rfl⟩;rcases Zf i k with h | h
     ·exact .inl ⟨i,h,o,e,rfl⟩
     obtain rfl:i=k:=by omega
     rw [e] at e1;obtain ⟨rfl,rfl⟩:=Zm<|osl e1;exact .inr ⟨rfl,rfl⟩
    rintro (⟨i,hi,l',e,rfl⟩ | ⟨rfl,rfl⟩)
    ·exact ⟨i,by omega,o,e,rfl⟩
    exact ⟨k,by omega,o,e1,rfl⟩
   have htr:∀ o,Q k o->TrL p o:=λo ⟨i,hi,l',e,he⟩=>(Qtr o).1 ⟨i,by omega,l',e,he⟩;refine Uc.bind (P:=λl'=>(∀ o,o∈l'↔Q (k+1) o)/\l'.length<=k+1/\l'.Pairwise ltL) (.gdD ⟨by omega,hk⟩ ?_) λl' ⟨g1,g2,g3⟩ => .gdI (by omega)<|.pure ⟨⟨k+1,by omega,rfl,g1,g2,g3⟩,by simp only [];omega⟩;refine (Oq hp<|SF hp hC).bind λv10 h10=>?_;subst v10;refine (Uc.of (P:=(· = (lk,b))) e2 rfl).bind λv11 h11=>?_;subst h11;refine .bif (λhb=>?_) λhb => .pure ⟨λo=>?_,by omega,h5⟩
   ·have hlk:=M4 (e4 hb).1;unfold wF;refine Uc.bind (P:=λl'=>(∀ o,o∈l'↔Q (k+1) o)/\l'.length<=k+1/\l'.Pairwise ltL) (Uc.bind (P:=λl'=>(∀ o,o∈l'↔Q (k+1) o)/\l'.length<=k+1/\l'.Pairwise ltL) ?_ λv hv => .pure hv) λv hv => .pure hv;refine (QF h5 (by omega) (λr hr=>by rw [M4 (htr r<|(h3 r).1 hr),hlk])<|show lk.length<=1000 by omega).mono λq ⟨q1,q2,q3⟩=>⟨λo=>?_,by omega,q1⟩;rw [q2,h3,hQ];exact ⟨λh=>h.imp id λe=>⟨hb,e⟩,λh=>h.imp id λe=>e.2⟩
   rw [h3,hQ];refine ⟨.inl,λh=>?_⟩;rcases h with h | h
   ·exact h
   have : b=Ur:=hb;rw [h.1] at this
   cases this
  obtain ⟨q,e,q1,q2⟩:=hi;obtain ⟨q',e',q1',q2',q3'⟩:=hs;obtain rfl:=M6 q1 q1' λo=>(q2 o).trans (q2' o).symm;exact ⟨q,e,e',nofun,λ_=>⟨q1,q2,q3'⟩⟩
end
def tab (N:Nat) (g:Nat->Int):LI:=(YE N).map g
section
variable {N:Nat} {g h:Nat->Int}
theorem Jb:(tab N g).length=N:=by simp [tab]
theorem M7 {i:Nat} (hi:i<N):(tab N g).getD i Uo=g i:=by
 unfold tab
 simp_all
theorem oI (e:∀ i,i<N->g i=h i):tab N g=tab N h:=Zt λi hi=>e i<|YS.1 hi
theorem Jc (i:Nat) (v:Int):(tab N g).set i v=tab N λj=>if j=i then v else g j:=by
 apply List.ext_getElem
 ·simp [tab]
 intro j h1 h2;rw [List.getElem_set];simp only [tab,Zl,List.getElem_range];omega
theorem Gv:YW N (Uo:Int)=tab N λ_=>0:=by
 apply List.ext_getElem
 ·simp [tab]
 intro j h1 h2;simp only [tab,Zl,List.getElem_replicate]
 rfl
end
theorem vM {f g:Nat->Bool}:∀ {n:Nat},(∀ k,k<n->f k=g k)->Ue f n=Ue g n
 | 0,_=>rfl
 | n+1,h=>by
  unfold Ue;rw [h n (by omega),vM λk hk=>h k (by omega)]
theorem QG (f g:Nat->Bool) (n:Nat):Ue f n&&&Ue g n=Ue (λj=>f j&&g j) n:=by
 apply Zu;intro j;rw [Nat.testBit_and,j4,j4,j4]
 grind
theorem OG (n:Nat):Ue (λ_=>Ur) n=0:=by
 induction n with
 | zero=>rfl
 | succ n ih=>unfold Ue;grind
def Ui (N:Nat) (f:Int->Int->Bool):LI:=tab N λi=>((Ue (λk=>f (i:Int) (k:Int)) N:Nat):Int)
section
variable {N:Nat} {f g:Int->Int->Bool}
theorem jk:(Ui N f).length=N:=Jb
theorem yn {i:Nat} (h:i<N):(Ui N f).getD i Uo=((Ue (λk=>f (i:Int) (k:Int)) N:Nat):Int):=M7 h
theorem tK (h:∀ i k:Nat,i<N->k<N->f i k=g i k):Ui N f=Ui N g:=oI λi hi=>by rw [vM λk hk=>h i k hi hk]
def P15 (n:Int) (is:Int->Int->Option Bool) (s6:(LI)×Int):((LI)×Int)->Option (((LI)×Int) ⊕ (LI)):=λs14=>
 bif Uu (s14.2<n) then
  YO (
   YO (is s6.2 s14.2) λv19=>
   bif v19 then
    gd (Uu<|0<=s6.2/\s6.2<(s14.1.length:Int)) <|
    gd (Uu<|0<=s14.2) <|
    Us (s14.1.set s6.2.toNat<|bOr .i64 (s14.1.getD s6.2.toNat Uo)<|G3 .i64 (1:Int) s14.2)
   else
    Us s14.1
  ) λs18=>
  gd (TT .i64<|s14.2+(1:Int)) <|
  Us (.inl (s18,(s14.2+(1:Int))))
 else
  Us (.inr s14.1)
def P7 (n:Int) (is:Int->Int->Option Bool):((LI)×Int)->Option (((LI)×Int) ⊕ (LI)):=λs6=>
 bif Uu (s6.2<n) then
  YO (
   loopO (P15 n is s6) (s6.1,(0:Int))
  ) λs10=>
  gd (TT .i64<|s6.2+(1:Int)) <|
  Us (.inl (s10,(s6.2+(1:Int))))
 else
  Us (.inr s6.1)
def Pu (n:Int) (is:Int->Int->Option Bool):Option (LI):=
 gd (Uu<|0<=n/\n<=n/\n*((8:Nat):Int)<=140737488355328/\n<=140737488355328) <|
 YO (
  loopO (P7 n is) ((YW n.toNat (Uo:Int)),(0:Int))
 ) λs2=>
 Us s2
def part (N:Nat) (f:Int->Int->Bool) (i k:Nat):LI:=tab N λj=>if j<i then ((Ue (λk=>f (j:Int) (k:Int)) N:Nat):Int) else if j=i then ((Ue (λk=>f (j:Int) (k:Int)) k:Nat):Int) else 0
theorem HL (hN:N<=60) {is:Int->Int->Option Bool} (hi:∀ i k:Nat,i<N->k<N->Uc (is (i:Int) (k:Int)) (· = f i k)):Uc (Pu (N:Int) is) (· = Ui N f):=by
 unfold Pu;refine .gdD ⟨by omega,by omega,by omega,by omega⟩ (Uc.bind (P:=(· = Ui N f)) ?_ λv hv => .pure hv);have e0:YW (N:Int).toNat (Uo:Int)=part N f 0 0:=by
  rw [tnn,Gv];refine oI λj _=>?_;rw [if_neg (by omega)]
  split <;> simp [Ue]
 rw [e0];refine Uc.loop (λz=>∃ i:Nat,i<=N/\z=(part N f i 0,(i:Int))) (λz=>((N:Int)-z.2).toNat) ⟨0,by omega,rfl⟩ λz ⟨i,h1,h2⟩ => ?_;subst h2;unfold P7;simp only [];refine .bifD (λhk=>?_) λhk => .pure ?_
 ·refine Uc.bind (P:=(· = part N f (i+1) 0)) ?_ λv hv => .gdI (by omega)<|.pure ⟨⟨i+1,by omega,by simp_all⟩,by omega⟩;refine Uc.loop (λz=>∃ k:Nat,k<=N/\z=(part N f i k,(k:Int))) (λz=>((N:Int)-z.2).toNat) ⟨0,by omega,rfl⟩ λz ⟨k,k1,k2⟩ => ?_;subst k2;unfold P15;simp only [tnn];refine .bifD (λhkk=>?_) λhkk => .pure ?_
  ·refine Uc.bind (P:=(· = part N f i (k+1))) ((hi i k (by omega)<|by omega).bind λv hv => .bif (λhb => .gdD ⟨by omega,by unfold part;rw [Jb];omega⟩<|.gdD (by omega)<|.pure ?_) λhb => .pure ?_) λv hv => .gdI (by omega) (.pure ⟨⟨k+1,by omega,by simp_all⟩,by omega⟩)
   ·unfold part;rw [M7 (by omega),if_neg (by omega),if_pos rfl,Gn (by omega),zL (da<|by omega) (by have := Nat.pow_lt_pow_right (a:=2) (by omega) (show k<63 by omega);omega),Jc];refine oI λj _=>?_
    by_cases e:j=i
    ·subst e;rw [if_pos rfl,if_neg (by omega),if_pos rfl];rw [hv] at hb;rw [Ue,if_pos hb]
    omega
   unfold part;refine oI λj _=>?_
   by_cases e:j=i
   ·subst e;rw [if_neg (by omega),if_pos rfl,if_neg (by omega),if_pos rfl];rw [hv] at hb;rw [Ue,if_neg (by rw [hb];decide)]
   omega
  have : k=N:=by omega
  subst this;unfold part;refine oI λj _=>?_
  by_cases e:j=i
  ·omega
  by_cases e2:j<i
  ·omega
  rw [if_neg e2,if_neg e,if_neg (by omega)]
  split <;> simp [Ue]
 have : i=N:=by omega
 subst this;exact oI λj hj=>by omega
theorem RG (i:Nat):(Ue (λk=>f (i:Int) (k:Int)) N)<2 ^ N:=MH _ _
theorem QH {m n:Nat} (hm:m<2 ^ n) (hn:n<=62):ij .i64 (m:Int) (n:Int)=0:=by
 show (m:Int).fdiv (2 ^ (min (n:Int).toNat 64))=_;have hq:min (n:Int).toNat 64=n:=by omega
 rw [hq,show (2:Int) ^ n=((2 ^ n:Nat):Int) by simp,Int.fdiv_eq_ediv_of_nonneg _ (Int.natCast_nonneg _)];have : m / 2 ^ n=0:=Nat.div_eq_of_lt hm;omega
theorem vN (hN:N<=16):Uc (cV<|Ui N f) (· = Uq):=by
 unfold cV bi bG;refine Uc.bind (P:=(· = Uq)) (.bifD (λ_=>?_) λh=>absurd (show ((Ui N f).length:Int)<=16 by rw [jk];omega) h) λv hv => .pure hv;refine Uc.bind (P:=(· = Ur)) (Uc.bind (P:=(· = -1)) (Uc.sum (PS:=λ_=>True) (PW:=(· = (-1:Int))) ?_ λ_ _ => .pure rfl) λv hv => .pure<|by simp_all) λv hv => .pure (by simp_all);refine Uc.loop (λz=>∃ i:Nat,i<=N/\z=(i:Int)) (λz=>((N:Int)-z).toNat) ⟨0,by omega,rfl⟩ λz ⟨i,h1,h2⟩ => ?_;subst h2;unfold cE pR J;simp only [jk,tnn];refine .bifD (λhk=>?_) λhk => .pure trivial;have hg:=yn (f:=f) (show i<N by omega);refine .gdD ⟨by omega,hk⟩ (Uc.bind (P:=(· = Ur)) (Uc.bind (P:=(· = Ur)) (.bifD (λh=>absurd h<|by omega) λ_ => .gdD (by omega)<|.pure<|decide_eq_false<|by rw [hg,QH (RG i) (by omega)];omega) λv hv => .pure hv) λv hv => .bif (λh=>by simp_all) λ_ => .gdI (by omega)<|.pure ⟨⟨i+1,by omega,rfl⟩,by omega⟩)
theorem M8 (hN:N<=16):Uc (eY (Ui N f)<|Ui N g) (· = Uq):=by
 unfold eY;refine Uc.bind (P:=(· = Uq)) (.bif (λ_=>(vN hN).bind λv hv => .pure hv) λh=>?_) λv hv=>?_
 ·rw [jk,jk] at h
  grind
 subst hv;exact Uc.bind (P:=(· = Uq)) (.bif (λ_=>(vN hN).bind λv hv => .pure hv) λh=>by cases h) λv hv => .pure hv
theorem wO (hN:N<=60) {i k:Nat} (hi:i<N) (hk:k<N):Uc (gY (Ui N f) (i:Int) (k:Int)) (· = f i k):=by
 unfold gY J;simp only [jk,tnn];rw [yn hi,MG (da<|by omega) (by omega),j4,decide_eq_true hk,YL];refine .gdD ⟨by omega,by omega⟩<|.gdD (by omega)<|.pure ?_
 grind
theorem OH {a b:Nat} (ha:a<9223372036854775808) (hb:b<9223372036854775808):dY .i64 (a:Int) (b:Int)=((a&&&b:Nat):Int):=by
 have hlt:(a&&&b)<2 ^ 63:=Nat.and_lt_two_pow a hb;show IntKind.wrap .i64 (((YM 64 (a:Int)&&&YM 64 (b:Int)).toNat:Nat):Int)=_;have h1:(YM 64 (a:Int)).toNat=a:=by rw [Zv,Zw];omega
 have h2:(YM 64 (b:Int)).toNat=b:=by rw [Zv,Zw];omega
 rw [BitVec.toNat_and,h1,h2];exact yN hlt
theorem M9 (f g:Nat->Bool) {n:Nat} (hn:n<=62):F7 .i64 ((Ue f n:Nat):Int) ((Ue g n:Nat):Int)=((Ue (λj=>f j && !g j) n:Nat):Int):=by
 have ha:=da (f:=f) hn;have hb:=da (f:=g) hn;show IntKind.wrap .i64 (((YM 64 ((Ue f n:Nat):Int) &&& ~~~ YM 64 ((Ue g n:Nat):Int)).toNat:Nat):Int)=_;have key:(YM 64 ((Ue f n:Nat):Int) &&& ~~~ YM 64 ((Ue g n:Nat):Int)).toNat=Ue (λj=>f j && !g j) n:=by
  apply Zu;intro j;rw [j4];have h1:∀ m:Nat,m<9223372036854775808->∀ j,(YM 64 ((m:Nat):Int)).getLsbD j=m.testBit j:=λm hm j=>by
   grind
  show (YM 64 ((Ue f n:Nat):Int) &&& ~~~ YM 64 ((Ue g n:Nat):Int)).getLsbD j=_;rw [BitVec.getLsbD_and,BitVec.getLsbD_not,h1 _ ha,h1 _ hb,j4,j4]
  by_cases hj:j<n
  ·grind
  grind
 rw [key];exact yN<|da hn
theorem Gw (hN:N<=16) {by_:Int->Int->Option Int} {q:Int->Int->Bool} (step:((LI)×Int)->Option (((LI)×Int) ⊕ (LI)))
  (hs:∀ s8:(LI)×Int,step s8=bif Uu (s8.2<((Ui N f).length:Int)) then
   gd (Uu<|0<=s8.2/\s8.2<((Ui N f).length:Int))<|gd (Uu<|0<=s8.2/\s8.2<((Ui N g).length:Int)) <|
   YO (by_ ((Ui N f).getD s8.2.toNat Uo)<|(Ui N g).getD s8.2.toNat Uo) λv14=>
   gd (Uu (0<=s8.2/\s8.2<(s8.1.length:Int)))<|gd (TT .i64 (s8.2+(1:Int)))<|Us (.inl ((s8.1.set s8.2.toNat v14),(s8.2+(1:Int)))) else Us (.inr s8.1))
  (hb:∀ i:Nat,i<N->Uc (by_ ((Ue (λk=>f (i:Int) (k:Int)) N:Nat):Int) ((Ue (λk=>g (i:Int) (k:Int)) N:Nat):Int)) (· = ((Ue (λk=>q (i:Int) (k:Int)) N:Nat):Int))) :
  Uc (YO (eY (Ui N f) (Ui N g)) λv1=>bif !v1 then Us ([]:LI) else
   gd (Uu<|0<=((Ui N f).length:Int)/\((Ui N f).length:Int)<=((Ui N f).length:Int)/\((Ui N f).length:Int)*((8:Nat):Int)<=140737488355328/\((Ui N f).length:Int)<=140737488355328) <|
   YO (loopO step ((YW ((Ui N f).length:Int).toNat (Uo:Int)),(0:Int))) λs4=>Us s4) (· = Ui N q):=by
 refine (M8 hN).bind λv hv=>?_;subst hv;refine .bif (λh=>by cases h) λ_=>?_;refine .gdD ⟨by omega,by omega,by rw [jk];omega,by rw [jk];omega⟩ (Uc.bind (P:=(· = Ui N q)) ?_ λv hv => .pure hv);rw [jk,tnn,Gv];refine Uc.loop (λz=>∃ i:Nat,i<=N/\z=(tab N (λj=>if j<i then ((Ue (λk=>q (j:Int) (k:Int)) N:Nat):Int) else 0),(i:Int))) (λz=>((N:Int)-z.2).toNat) ⟨0,by omega,rfl⟩ λz ⟨i,h1,h2⟩ => ?_;subst h2;rw [hs];simp only [jk,tnn];refine .bifD (λhk=>?_) λhk => .pure ?_
 ·rw [yn (by omega),yn (by omega)];refine .gdD ⟨by omega,hk⟩<|.gdD ⟨by omega,hk⟩<|(hb i<|by omega).bind λv hv => .gdD ⟨by omega,by rw [Jb];omega⟩<|.gdI (by omega)<|.pure ⟨⟨i+1,by omega,?_⟩,by simp only [];omega⟩;rw [Jc,hv]
  grind
 have : i=N:=by omega
 subst this;exact oI λj hj=>by omega
theorem QI (hN:N<=16):Uc (n8 (Ui N f)<|Ui N g) (· = Ui N λi k=>f i k||g i k):=by
 unfold n8;refine Uc.bind (P:=(· = Ui N λi k=>f i k||g i k)) (Gw hN (by_:=pU) _ (λ_=>rfl) λi hi => .pure ?_) λv hv => .pure hv;rw [zL (da<|by omega) (da<|by omega),JV]
theorem RH (hN:N<=16):Uc (qf (Ui N f)<|Ui N g) (· = Ui N λi k=>f i k&&g i k):=by
 unfold qf;refine Uc.bind (P:=(· = Ui N λi k=>f i k&&g i k)) (Gw hN (by_:=qV) _ (λ_=>rfl) λi hi => .pure ?_) λv hv => .pure hv;rw [OH (da<|by omega) (da<|by omega),QG]
theorem QJ (hN:N<=16):Uc (og (Ui N f)<|Ui N g) (· = Ui N λi k=>f i k && !g i k):=by
 unfold og;refine Uc.bind (P:=(· = Ui N λi k=>f i k && !g i k)) (Gw hN (by_:=pV) _ (λ_=>rfl) λi hi => .pure ?_) λv hv => .pure hv;rw [M9 _ _ (by omega)]
end
open Go.RowKit
section
variable {p:List (List TW)} {x:XS} {F F':LI}
theorem KP {l:LI} (h:l.length<=4000000):Uc (aJ l) (· = l):=by
 unfold aJ
 cases l with
 | nil=>exact .of (v:=[]) (by show nilK Uq (Us ([]:LI)) (Us [])=Us [];unfold nilK;exact if_pos rfl) rfl
 | cons a l=>exact (Uc.gd (aT (by simp at h ⊢;omega) rfl) (.pure<|by simp):Uc (gd (bw (([]:LI).length+(a::l).length) 8)<|Us (([]:LI)++a::l)) (· = a::l))
end
section
variable {N:Nat} {f g:Int->Int->Bool}
theorem Na (i:Nat) (h:Int->Int->Bool) (hi:∀ j k:Nat,j<N->k<N->h j k=if j=i then g i k else f j k):(Ui N f).set i ((Ue (λk=>g (i:Int) (k:Int)) N:Nat):Int)=Ui N h:=by
 unfold Ui;rw [Jc];refine oI λj hj=>?_
 by_cases e:j=i
 ·subst e;rw [if_pos rfl];exact congrArg (λn:Nat=>(n:Int))<|vM λk hk=>((hi j k hj hk).trans<|if_pos rfl).symm
 rw [if_neg e];exact congrArg (λn:Nat=>(n:Int))<|vM λk hk=>((hi j k hj hk).trans<|if_neg e).symm
theorem Nb (hN:N<=16):Uc (lj<|Ui N f) (· = Ui N λi k=>f k i):=by
 unfold lj;refine (vN hN).bind λv hv=>?_;subst hv;refine .bif (λh=>by cases h) λ_=>?_;rw [jk];exact Uc.bind (P:=(· = Ui N λi k=>f k i)) (HL (by omega) (is:=λi k=>mP i k<|Ui N f) λi k hi hk=>(wO (by omega) hk hi).bind λv hv => .pure hv) λv hv => .pure hv
def Jd (f g:Int->Int->Bool) (M:Nat) (i k:Int):Bool:=(YE M).any λm=>f i (m:Int)&&g (m:Int) k
theorem HQ (M:Nat) (i k:Int):Jd f g (M+1) i k=(Jd f g M i k||(f i (M:Int)&&g (M:Int) k)):=by
 unfold Jd;rw [Y6,List.any_append];simp
theorem Nc (hN:N<=16):Uc (ll (Ui N f)<|Ui N g) (· = Ui N (Jd f g N)):=by
 unfold ll;refine (M8 hN).bind λv hv=>?_;subst hv;refine .bif (λh=>by cases h) λ_=>?_;refine .gdD ⟨by omega,by omega,by rw [jk];omega,by rw [jk];omega⟩ (Uc.bind (P:=(· = Ui N (Jd f g N))) ?_ λv hv => .pure hv);have e0:YW ((Ui N f).length:Int).toNat (Uo:Int)=Ui N λi k=>Uu (i<(0:Nat))&&Jd f g N i k:=by
  rw [jk,tnn,Gv];refine oI λi hi=>?_;rw [vM (g:=λ_=>Ur) λk hk=>by show (Uu ((i:Int)<((0:Nat):Int))&&_)=Ur;rw [decide_eq_false (by omega)];rfl,OG]
  rfl
 rw [e0];refine Uc.loop (λz=>∃ i:Nat,i<=N/\z=(Ui N λj k=>Uu (j<(i:Int))&&Jd f g N j k,(i:Int))) (λz=>((N:Int)-z.2).toNat) ⟨0,by omega,rfl⟩ λz ⟨i,h1,h2⟩ => ?_;subst h2;unfold rK;simp only [jk];refine .bifD (λhk=>?_) λhk => .pure ?_
 ·refine Uc.bind (P:=(· = Ui N (λj k=>Uu (j<((i+1:Nat):Int))&&Jd f g N j k))) ?_ λv hv => .gdI (by omega)<|.pure ⟨⟨i+1,by omega,by rw [hv];rfl⟩,by simp only [];omega⟩;refine Uc.loop (λz=>∃ m:Nat,m<=N/\z=(Ui N (λj k=>if j=(i:Int) then Jd f g m j k else Uu (j<(i:Int))&&Jd f g N j k),(m:Int))) (λz=>((N:Int)-z.2).toNat) ⟨0,by omega,congrArg (λl=>(l,(0:Int)))<|tK λj k hj hk=>?_⟩ λz ⟨m,m1,m2⟩ => ?_
  ·by_cases e:(j:Int)=(i:Int)
   ·rw [if_pos e,decide_eq_false (by omega)];rfl
   rw [if_neg e]
  subst m2;unfold qB J;simp only [jk];refine .bifD (λhkk=>?_) λhkk => .pure<|tK λj k hj hk=>?_
  ·refine Uc.bind (P:=(· = Ui N (λj k=>if j=(i:Int) then Jd f g (m+1) j k else Uu (j<(i:Int))&&Jd f g N j k))) ?_ λv hv => .gdI (by omega)<|.pure ⟨⟨m+1,by omega,by rw [hv];rfl⟩,by simp only [];omega⟩;refine (wO (by omega) (i:=i) (k:=m) (by omega)<|by omega).bind λv hv => .bif (λhb=>?_) λhb => .pure<|tK λj k hj hk=>?_
   ·simp only [tnn];refine .gdD ⟨by omega,by omega⟩<|.gdD ⟨by omega,by omega⟩<|.pure ?_;rw [yn (by omega),yn (by omega),zL (da<|by omega) (da<|by omega),JV];refine Na (g:=λj k=>(if j=(i:Int) then Jd f g m j k else Uu (j<(i:Int))&&Jd f g N j k)||g (m:Int) k) i _ λj k hj hk=>?_;rw [hv] at hb
    by_cases e:j=i
    ·subst e;rw [if_pos rfl,if_pos rfl,if_pos rfl,HQ,hb,YL]
    rw [if_neg (by omega),if_neg (by omega),if_neg (by omega)]
   rw [hv] at hb
   by_cases e:(j:Int)=(i:Int)
   ·rw [if_pos e,if_pos e,HQ,e,hb];simp
   rw [if_neg e,if_neg e]
  have : m=N:=by omega
  subst this
  by_cases e:(j:Int)=(i:Int)
  ·rw [if_pos e,decide_eq_true (by omega)];rfl
  rw [if_neg e]
  congr 1
  exact decide_eq_decide.2 (by omega)
 have : i=N:=by omega
 subst this;exact tK λj k hj hk=>by rw [decide_eq_true (by omega)];rfl
def Uj (f:Int->Int->Bool):Nat->Int->Int->Bool
 | 0=>f
 | m+1=>λi k=>Uj f m i k||(Uj f m i (m:Int)&&Uj f m (m:Int) k)
theorem QK (m:Nat) (k:Int):Uj f (m+1) (m:Int) k=Uj f m (m:Int) k:=by
 show (Uj f m (m:Int) k||(Uj f m (m:Int) (m:Int)&&Uj f m (m:Int) k))=_
 cases Uj f m (m:Int) k <;> simp
theorem OI (hN:N<=16) {m:Nat} (hk:m<N):Uc (loopO (kN (Ui N<|Uj f m,(m:Int))) (Ui N<|Uj f m,(0:Int))) (· = Ui N (Uj f<|m+1)):=by
 refine Uc.loop (λz=>∃ i:Nat,i<=N/\z=(Ui N (λj k=>if j<(i:Int) then Uj f (m+1) j k else Uj f m j k),(i:Int))) (λz=>((N:Int)-z.2).toNat) ⟨0,by omega,congrArg (λl=>(l,(0:Int)))<|tK (g:=λj k=>if j<((0:Nat):Int) then Uj f (m+1) j k else Uj f m j k) λj k _ _=>(if_neg<|by omega).symm⟩ λz ⟨i,i1,i2⟩ => ?_;subst i2;unfold kN J;simp only [jk];refine .bifD (λhkk=>?_) λhkk => .pure (tK λj k hj _=>by rw [if_pos (by omega)]);refine Uc.bind (P:=(· = Ui N (λj k=>if j<((i+1:Nat):Int) then Uj f (m+1) j k else Uj f m j k))) ?_ λv hv => .gdI (by omega)<|.pure ⟨⟨i+1,by omega,by rw [hv];rfl⟩,by simp only [];omega⟩;refine (wO (by omega) (i:=i) (k:=m) (by omega)<|by omega).bind λv hv=>?_;rw [if_neg (by omega)] at hv;refine .bif (λhb=>?_) λhb => .pure<|tK λj k hj hk=>?_
 ·simp only [tnn];refine .gdD ⟨by omega,by omega⟩<|.gdD ⟨by omega,by omega⟩<|.pure ?_;rw [yn (by omega),yn (by omega),zL (da<|by omega) (da<|by omega),JV];have e1:Ue (λj=>(if (i:Int)<(i:Int) then Uj f (m+1) (i:Int) (j:Int) else Uj f m (i:Int) (j:Int))||(if (m:Int)<(i:Int) then Uj f (m+1) (m:Int) (j:Int) else Uj f m (m:Int) (j:Int))) N=Ue (λk=>Uj f (m+1) (i:Int) (k:Int)) N:=vM λk hk=>by
   rw [if_neg (by omega),QK];rw [hv] at hb;show _=(Uj f m (i:Int) (k:Int)||(Uj f m (i:Int) (m:Int)&&Uj f m (m:Int) (k:Int)));rw [hb];simp
  rw [e1];refine Na (g:=Uj f<|m+1) i _ λj k hj hk=>?_
  by_cases e:j=i
  ·subst e;rw [if_pos (by omega),if_pos rfl]
  rw [if_neg e]
  by_cases e2:(j:Int)<(i:Int)
  ·rw [if_pos e2,if_pos (by omega)]
  rw [if_neg e2,if_neg (by omega)]
 by_cases e:(j:Int)<(i:Int)
 ·rw [if_pos e,if_pos (by omega)]
 rw [if_neg e]
 by_cases e2:j=i
 ·subst e2;rw [if_pos (by omega)];rw [hv] at hb;show _=(Uj f m (j:Int) (k:Int)||(Uj f m (j:Int) (m:Int)&&Uj f m (m:Int) (k:Int)));rw [hb];simp
 rw [if_neg (by omega)]
theorem HZ (hN:N<=16):Uc (iJ<|Ui N f) (· = Ui N (Uj f N)):=by
 unfold iJ;refine (vN hN).bind λv hv=>?_;subst hv;refine .bif (λh=>by cases h) λ_=>(KP<|by rw [jk];omega).bind λv3 h3=>?_;subst h3;refine Uc.bind (P:=(· = Ui N (Uj f N))) ?_ λv hv => .pure hv;refine Uc.loop (λz=>∃ m:Nat,m<=N/\z=(Ui N<|Uj f m,(m:Int))) (λz=>((N:Int)-z.2).toNat) ⟨0,by omega,rfl⟩ λz ⟨m,h1,h2⟩ => ?_;subst h2;unfold qA;simp only [jk];refine .bifD (λhk=>?_) λhk => .pure ?_
 ·exact Uc.bind (P:=(· = Ui N (Uj f<|m+1))) (OI hN<|by omega) λv hv => .gdI (by omega)<|.pure ⟨⟨m+1,by omega,by rw [hv];rfl⟩,by simp only [];omega⟩
 have : m=N:=by omega
 subst this
 rfl
theorem OJ {m:Nat} {i k:Int} (h:f i k=Uq):Uj f m i k=Uq:=by
 induction m with
 | zero=>exact h
 | succ m ih=>show (_||_)=Uq;rw [ih];rfl
theorem J6:∀ (m:Nat) (i k:Int) (j:Nat),j<m->Uj f m i (j:Int)=Uq->Uj f m (j:Int) k=Uq->Uj f m i k=Uq
 | 0,_,_,_,h,_,_=>absurd h (Nat.not_lt_zero _)
 | m+1,i,k,j,hj,h1,h2=>by
  have ih:=J6 m;simp only [Uj,Bool.or_eq_true,bae] at h1 h2 ⊢
  by_cases e:j=m
  ·subst e;have a1:Uj f j i (j:Int)=Uq:=by rcases h1 with h | h;exact h;exact h.1
   have a2:Uj f j (j:Int) k=Uq:=by rcases h2 with h | h;exact h;exact h.2
   exact .inr ⟨a1,a2⟩
  have hj':j<m:=by omega
  rcases h1 with h1 | ⟨h1,h1'⟩ <;> rcases h2 with h2 | ⟨h2,h2'⟩
  ·exact .inl<|ih i k j hj' h1 h2
  ·exact .inr ⟨ih i m j hj' h1 h2,h2'⟩
  ·exact .inr ⟨h1,ih m k j hj' h1' h2⟩
  exact .inr ⟨h1,h2'⟩
theorem Nf {i k:Int} {j:Nat} (hj:j<N) (h1:Uj f N i (j:Int)=Uq) (h2:Uj f N (j:Int) k=Uq):Uj f N i k=Uq:=J6 N i k j hj h1 h2
theorem J7 {R:Int->Int->Prop} (hR:∀ (i k:Int) (j:Nat),j<N->R i (j:Int)->R (j:Int) k->R i k) (hf:∀ i k:Int,f i k=Uq->R i k):∀ (m:Nat),m<=N->∀ i k:Int,Uj f m i k=Uq->R i k
 | 0,_,i,k,h=>hf i k h
 | m+1,hm,i,k,h=>by
  simp only [Uj,Bool.or_eq_true,bae] at h;rcases h with h | ⟨h1,h2⟩
  ·exact J7 hR hf m (by omega) i k h
  exact hR i k m (by omega) (J7 hR hf m (by omega) _ _ h1)<|J7 hR hf m (by omega) _ _ h2
def pu (N:Nat) (f:Int->Int->Bool):Bool:=(YE N).all λi => !f (i:Int) (i:Int)
theorem AX:pu N f=Uq↔∀ i:Nat,i<N->f i i=Ur:=by
 unfold pu;rw [List.all_eq_true];exact ⟨λh i hi=>by simpa using h i (YS.2 hi),λh i hi=>by simp [h i (YS.1 hi)]⟩
theorem Ng (hN:N<=16):Uc (eC<|Ui N f) (· = pu N f):=by
 unfold eC;refine Uc.sum (PS:=λ_=>∀ i:Nat,i<N->f i i=Ur) (PW:=(· = pu N f)) ?_ λ_ h => .pure (AX.2 h).symm;refine Uc.loop (λz=>∃ i:Nat,i<=N/\z=(i:Int)/\∀ j:Nat,j<i->f j j=Ur) (λz=>((N:Int)-z).toNat) ⟨0,by omega,rfl,λj hj=>absurd hj<|by omega⟩ λz ⟨i,h1,h2,h3⟩ => ?_;subst h2;unfold oh;simp only [jk];refine .bifD (λhk=>(wO (by omega) (i:=i) (k:=i) (by omega)<|by omega).bind λv hv => .bif (λhb => .pure ?_) λhb => .gdI (by omega)<|.pure ⟨⟨i+1,by omega,rfl,λj hj=>?_⟩,by omega⟩) λhk => .pure λj hj=>h3 j (by omega)
 ·show Ur=_
  symm
  rw [Bool.eq_false_iff];intro hl;have := AX.1 hl i (by omega);rw [<- hv,hb] at this
  cases this
 by_cases e:j=i
 ·subst e;rw [<- hv];exact hb
 exact h3 j (by omega)
theorem Nh (hN:N<=16):Uc (lm<|Ui N f) (· = pu N (Uj f N)):=by
 unfold lm;refine (vN hN).bind λv hv=>?_;subst hv;exact Uc.bind (P:=(· = pu N (Uj f N))) (.bif (λ_=>(HZ hN).bind λv hv=>by subst hv;exact (Ng hN).bind λw hw => .pure hw) λh=>by cases h) λv hv => .pure hv
end
def NL (base:BA->Int->Int->Bool) (N:Nat) (op:Int) (nm:BA) (rs:List<|Int->Int->Bool):Int->Int->Bool:=
 if op=1 then base nm else
 let a:=rs.getD 0 λ_ _=>Ur;let b:=rs.getD 1 λ_ _=>Ur
 if op=6 then λi k=>a k i else if op=7 then Uj a N else
 if op=2 then λi k=>a i k||b i k else if op=3 then λi k=>a i k&&b i k else if op=4 then λi k=>a i k && !b i k else Jd a b N
mutual
def FP (base:BA->Int->Int->Bool) (N:Nat):ZTE->Int->Int->Bool
 | .mk op nm ks=>NL base N op nm (ET base N ks)
def ET (base:BA->Int->Int->Bool) (N:Nat):List ZTE->List (Int->Int->Bool)
 | []=>[]
 | t::l=>FP base N t::ET base N l
end
mutual
def VT:ZTE->Prop
 | .mk op nm ks=>(op=1/\nm∈He)\/((op=6\/op=7)/\ks.length=1/\VL ks)\/((op=2\/op=3\/op=4\/op=5)/\ks.length=2/\VL ks)
def VL:List ZTE->Prop
 | []=>True
 | t::l=>VT t/\VL l
end
theorem RI {α:Type} {l:List α} (h:l.length=1):∃ a,l=[a]:=by
 match l,h with
 | [a],_=>exact ⟨a,rfl⟩
theorem RJ {α:Type} {l:List α} (h:l.length=2):∃ a b,l=[a,b]:=by
 match l,h with
 | [a,b],_=>exact ⟨a,b,rfl⟩
section
variable {p:List (List TW)} {x:TY} {N:Nat} {base:BA->Int->Int->Bool}
def EvT (p:List<|List TW) (x:TY) (N:Nat) (base:BA->Int->Int->Bool) (d:Nat) (t:ZTE):Prop:=∀ m,d<m->Uc (dx m p x t.out) (· = Ui N (FP base N t))
mutual
theorem RL (hN:N<=16) (hb:∀ nm∈He,Uc (iX p x nm) (· = Ui N (base nm))):∀ t:ZTE,VT t->∃ d,EvT p x N base d t
 | .mk op nm ks,h=>by
  rw [VT] at h;rcases h with ⟨h1,h2⟩ | ⟨h1,h2,h3⟩ | ⟨h1,h2,h3⟩
  ·refine ⟨0,λm hm=>?_⟩;obtain ⟨m,rfl⟩:∃ q,m=q+1:=⟨m-1,by omega⟩;show Uc (dw (dx m) p x ⟨op,nm,ks⟩) _;unfold dw J;simp only [];subst h1;refine .bif (λ_=>(hb nm h2).bind λv hv => .pure ?_) λh=>absurd h (by decide);rw [hv,FP,NL,if_pos rfl]
  ·obtain ⟨d,hd⟩:=QL hN hb ks h3;obtain ⟨a,rfl⟩:=RI h2;refine ⟨d+1,λm hm=>?_⟩;obtain ⟨m,rfl⟩:∃ q,m=q+1:=⟨m-1,by omega⟩;have ha:=hd a (by simp) m (by omega);show Uc (dw (dx m) p x ⟨op,nm,[a]⟩) _;unfold dw J;simp only [];refine .bif (λh=>absurd (eq_of_beq h)<|by omega) λ_ => .gdD ⟨by decide,by simp⟩<|ha.bind λv hv=>?_;subst hv;rcases h1 with rfl | rfl
   ·refine .bif (λ_=>(Nb hN).bind λv hv => .pure ?_) λh=>absurd h (by decide);rw [hv,FP,ET,ET,NL,if_neg (by decide),if_pos rfl]
    rfl
   refine .bif (λh=>absurd h<|by decide) λ_ => .bif (λ_=>(HZ hN).bind λv hv => .pure ?_) λh=>absurd h (by decide);rw [hv,FP,ET,ET,NL,if_neg (by decide),if_neg (by decide),if_pos rfl]
   rfl
  obtain ⟨d,hd⟩:=QL hN hb ks h3;obtain ⟨a,b,rfl⟩:=RJ h2;refine ⟨d+1,λm hm=>?_⟩;obtain ⟨m,rfl⟩:∃ q,m=q+1:=⟨m-1,by omega⟩;have ha:=hd a (by simp) m (by omega);have hbb:=hd b (by simp) m (by omega);show Uc (dw (dx m) p x ⟨op,nm,[a,b]⟩) _;unfold dw J;simp only [];refine .bif (λh=>absurd (eq_of_beq h)<|by omega) λ_ => .gdD ⟨by decide,by simp⟩<|ha.bind λv hv=>?_;subst hv;refine .bif (λh=>absurd (eq_of_beq h)<|by omega) λ_ => .bif (λh=>absurd (eq_of_beq h)<|by omega) λ_ => .gdD ⟨by decide,by simp⟩<|hbb.bind λw hw=>?_;subst hw;rcases h1 with rfl | rfl | rfl | rfl
  ·refine .bif (λ_=>(QI hN).bind λv hv => .pure ?_) λh=>absurd h (by decide);rw [hv,FP,ET,ET,ET,NL,if_neg (by decide),if_neg (by decide),if_neg (by decide),if_pos rfl]
   rfl
  ·refine .bif (λh=>absurd h<|by decide) λ_ => .bif (λ_=>(RH hN).bind λv hv => .pure ?_) λh=>absurd h (by decide);rw [hv,FP,ET,ET,ET,NL,if_neg (by decide),if_neg (by decide),if_neg (by decide),if_neg (by decide),if_pos rfl]
   rfl
  ·refine .bif (λh=>absurd h<|by decide) λ_ => .bif (λh=>absurd h<|by decide) λ_ => .bif (λ_=>(QJ hN).bind λv hv => .pure ?_) λh=>absurd h (by decide);rw [hv,FP,ET,ET,ET,NL,if_neg (by decide),if_neg (by decide),if_neg (by decide),if_neg (by decide),if_neg (by decide),if_pos rfl]
   rfl
  refine .bif (λh=>absurd h<|by decide) λ_ => .bif (λh=>absurd h<|by decide) λ_ => .bif (λh=>absurd h<|by decide) λ_=>(Nc hN).bind λv hv => .pure ?_;rw [hv,FP,ET,ET,ET,NL,if_neg (by decide),if_neg (by decide),if_neg (by decide),if_neg (by decide),if_neg (by decide),if_neg (by decide)]
  rfl
theorem QL (hN:N<=16) (hb:∀ nm∈He,Uc (iX p x nm) (· = Ui N (base nm))):∀ l:List ZTE,VL l->∃ d,∀ t∈l,EvT p x N base d t
 | [],_=>⟨0,λt h=>by cases h⟩
 | t::l,h=>by
  rw [VL] at h;obtain ⟨d1,h1⟩:=RL hN hb t h.1;obtain ⟨d2,h2⟩:=QL hN hb l h.2;refine ⟨max d1 d2,λu hu=>?_⟩;rcases Y1.1 hu with rfl | hu
  ·exact λm hm=>h1 m (by omega)
  exact λm hm=>h2 u hu m (by omega)
end
theorem RN (hN:N<=16) (hb:∀ nm∈He,Uc (iX p x nm) (· = Ui N (base nm))) {t:ZTE} (h:VT t):Uc (uU p x t.out) (· = Ui N (FP base N t)):=by
 obtain ⟨d,hd⟩:=RL hN hb t h;exact yQ d hd
def okR (base:BA->Int->Int->Bool) (N:Nat) (r:aj):Bool:=pu N (if r.Kind=1 then Uj (FP base N r.Expr.inn) N else FP base N r.Expr.inn)
def VR (r:aj):Prop:=(r.Kind=1\/r.Kind=2)/\VT r.Expr.inn
theorem OL (hN:N<=16) (hb:∀ nm∈He,Uc (iX p x nm) (· = Ui N (base nm))) {m:List aj} (hm:∀ r∈m,VR r) (hl:m.length<=1000):Uc (iL p x m) λv=>(v.1<0↔∀ r∈m,okR base N r=Uq)/\(v.1<0->v.1 = -1):=by
 unfold iL;refine Uc.sum (PS:=λ_=>∀ r∈m,okR base N r=Uq) (PW:=λv:Int×LI=>(v.1<0↔∀ r∈m,okR base N r=Uq)/\(v.1<0->v.1 = -1)) ?_ λ_ h => .pure ⟨⟨λ_=>h,λ_=>by decide⟩,λ_=>rfl⟩;refine Uc.loop (λz=>∃ i:Nat,i<=m.length/\z=(i:Int)/\∀ j:Nat,j<i->okR base N (m.getD j Uo)=Uq) (λz=>((m.length:Int)-z).toNat) ⟨0,by omega,rfl,λj hj=>absurd hj<|by omega⟩ λz ⟨i,h1,h2,h3⟩ => ?_;subst h2;unfold rL J;simp only [tnn];refine .bifD (λhk=>?_) λhk => .pure λr hr=>?_
 ·have hmem:=getD_in (l:=m) (i:=i) (by omega);generalize hr:m.getD i Uo=r at hmem;obtain ⟨k1,k2⟩:=hm r hmem;refine .gdD ⟨by omega,hk⟩<|(RN hN hb (t:=r.Expr.inn) k2).bind λv hv=>?_;subst hv;refine Uc.bind (P:=(· = okR base N r)) ?_ λw hw => .bif (λhf => .pure ⟨⟨λh=>absurd h (by simp only [];omega),λh=>?_⟩,λh=>absurd h<|by simp only [];omega⟩) λh => .gdI (by omega) (.pure ⟨⟨i+1,by omega,rfl,λj hj=>?_⟩,by omega⟩)
  ·unfold qW okR;rcases k1 with k1 | k1
   ·rw [k1];exact .bif (λ_=>(Nh hN).bind λv hv => .pure<|by rw [hv,if_pos rfl]) λh=>absurd h (by decide)
   rw [k1];exact .bif (λh=>absurd h<|by decide) λ_ => .bif (λ_=>(Ng hN).bind λv hv => .pure<|by rw [hv,if_neg (by decide)]) λh=>absurd h (by decide)
  ·have := h r hmem;rw [<- hw] at this;rw [this] at hf
   cases hf
  by_cases e:j=i
  ·subst e;rw [hr,<- hw];simpa using h
  exact h3 j (by omega)
 obtain ⟨j,hj,rfl⟩:=Zd hr;have := h3 j (by omega);rw [gdq,geq hj] at this;exact this
end
theorem Ni {l:LI} (hl:l.length<=4000000) (n:Int):Uc (bK l n) (· = plc l n):=by
 unfold bK;refine Uc.sum (PS:=λ_=>n∉l) (PW:=(· = plc l n)) ?_ λ_ hn => .pure (by unfold plc;simp_all);refine Uc.loop (λz=>∃ i:Nat,i<=l.length/\z=(i:Int)/\∀ j,j<i->l.getD j Uo≠n) (λz=>((l.length:Int)-z).toNat) ⟨0,by omega,rfl,λj hj=>by omega⟩ λz ⟨i,h1,h2,h3⟩ => ?_;subst h2;unfold gV J;refine .bifD (λhk => .gdD ⟨by omega,hk⟩<|.bif (λhe => .pure ?_) λhe => .gdI (by omega)<|.pure ⟨⟨i+1,by omega,rfl,λj hj=>?_⟩,by omega⟩) λhk => .pure ?_
 ·simp only [tnn,beq_iff_eq] at he;have hi:i<l.length:=by omega
  have hm:n∈l:=by rw [he];exact AC hi
  show (i:Int)=plc l n;unfold plc;rw [if_pos hm]
  congr 1
  have h4:=Zc hm;rcases Nat.lt_trichotomy i (l.idxOf n) with h5 | h5 | h5
  ·exfalso;have : l.idxOf n<=i:=by
    have e:l=l.take i++l.drop i:=(Za i l).symm;rw [e,List.idxOf_append]
    split
    ·have := Zc (by assumption:n∈l.take i);rw [YH] at this;omega
    rw [Y3 hi,show l[i]=n by rw [he,gdq,geq hi];rfl,List.idxOf_cons_self,YH];omega
   omega
  ·exact h5
  grind
 ·grind
 intro hm;have h4:=Zc hm
 grind
def rW (e:TZ) (w:Bool):Bool:=(e.bq==w) && !(e.Reads==w)
theorem J8 (e:TZ) (w:Bool):Uc (dJ e w) (· = rW e w):=by
 unfold dJ;exact Uc.bind (P:=(· = rW e w)) (.bif (λh => .pure<|by unfold rW;simp_all) λh => .pure<|by unfold rW;simp_all) λv hv => .pure hv
def Pv (l:List TW):Bool:=l.any λy=>y.Op==4
theorem RO {l:List TW} (hl:l.length<=4000000):Uc (aC l) (· = Pv l):=by
 unfold aC aV;refine Uc.bind (P:=λv:Int=>(0<=v↔Pv l=Uq)) ?_ λv hv => .pure ?_
 ·refine Uc.sum (PS:=λ_=>Pv l=Ur) (PW:=λv:Int=>(0<=v↔Pv l=Uq)) ?_ λ_ hn => .pure (by rw [hn];simp);refine Uc.loop (λz=>∃ i:Nat,i<=l.length/\z=(i:Int)/\∀ j,j<i->((l.getD j Uo).Op==4)=Ur) (λz=>((l.length:Int)-z).toNat) ⟨0,by omega,rfl,λj hj=>by omega⟩ λz ⟨i,h1,h2,h3⟩ => ?_;subst h2;unfold bz tu J;simp only [tnn];refine .bifD (λhk => .gdD ⟨by omega,hk⟩ (Uc.bind (P:=(· = ((l.getD i Uo).Op==4))) (.pure rfl) λv hv => .bif (λhe => .pure ⟨λ_=>?_,λ_=>by omega⟩) λhe => .gdI (by omega)<|.pure ⟨⟨i+1,by omega,rfl,λj hj=>?_⟩,by omega⟩)) λhk => .pure ?_
  ·unfold Pv;rw [List.any_eq_true];exact ⟨l.getD i Uo,getD_in (by omega),by rw [<- hv];exact he⟩
  ·by_cases e:j=i
   ·subst e;rw [<- hv];exact he
   exact h3 j (by omega)
  show Pv l=Ur;unfold Pv;rw [List.any_eq_false];intro y hy;obtain ⟨j,hj,rfl⟩:=Zd hy;have := h3 j (by omega);rw [gdq,geq hj] at this;rw [show l[j]=(Us l[j]).getD Uo from rfl,this]
  decide
 simp_all
section
variable {p:List (List TW)} {x:XS} {F:LI}
def Sq (p:List<|List TW) (i k:Int):Bool:=poB p i k&&Pv (((p.getD (ev p i).Thread.toNat Uo).drop (ev p i).Index.toNat).take<|(ev p k).Index.toNat-(ev p i).Index.toNat)
def Tz (p:List<|List TW) (i k:Int):Bool:=Uu<|(ev p i).Loc=(ev p k).Loc
def extB (p:List<|List TW) (i k:Int):Bool:=Uu ((ev p i).Thread≠(ev p k).Thread)||Uu ((ev p i).Thread<0)
def nmR (p:List<|List TW) (x:XS) (nm:BA):Int->Int->Bool:=
 if nm=⟨#[112,111]⟩ then poB p else if nm=⟨#[108,111,99]⟩ then Tz p else if nm=⟨#[101,120,116]⟩ then extB p else if nm=⟨#[114,102]⟩ then rfB p x else
 if nm=⟨#[99,111]⟩ then coB p x else if nm=⟨#[102,114]⟩ then frB p x else if nm=⟨#[102,101,110,99,101]⟩ then Sq p else
 if nm=⟨#[119,114]⟩ then (λi k=>rW (ev p i) Uq&&rW (ev p k) Ur) else if nm=⟨#[119,119]⟩ then (λi k=>rW (ev p i) Uq&&rW (ev p k) Uq) else λi k=>Uu (i=k)
theorem Nj {l:LI} {n:Int}:0<=plc l n↔n∈l:=by
 unfold plc
 grind
theorem J9 (hX:XOk p x) {l:Int} (hl:0<=l/\l<=2) (i k:Int):Uc (ez ⟨x.1,x.2⟩ l i k) (· = (Uu (i∈od x l)&&Uu (k∈od x l)&&Uu (plc (od x l) i<plc (od x l) k))):=by
 unfold ez J;refine .gdD ⟨hl.1,by simp only [];rw [hX.o];omega⟩ ((Ni (hX.r _) i).bind λv hv=>(Ni (hX.r _) k).bind λw hw=>?_);change v=plc (od x l) i at hv;change w=plc (od x l) k at hw;subst hv hw;refine Uc.bind (P:=(· = (Uu (i∈od x l)&&Uu (k∈od x l)))) (.bifD (λh => .pure ?_) λh => .pure ?_) λv hv=>Uc.bind (P:=(· = (Uu (i∈od x l)&&Uu (k∈od x l)&&Uu (plc (od x l) i<plc (od x l) k)))) (.bif (λh => .pure ?_) λh => .pure ?_) λv hv => .pure hv
 ·rw [decide_eq_true (Nj.1 h),YL];exact decide_eq_decide.2 Nj
 ·rw [decide_eq_false λe=>h (Nj.2 e)]
  rfl
 ·rw [<- hv,h,YL]
 simp_all
theorem RP (hp:PV p) (C:Cand p x F) {i k:Nat} (hi:i<(evs p).length) (hk:k<(evs p).length) (nm:BA) (hn:nm∈He):Uc (rT p ⟨x.1,x.2⟩ (evs p) nm (i:Int) (k:Int)) (· = nmR p x nm i k):=by
 have ei:(evs p).getD i Uo=ev p (i:Int):=by unfold ev;rw [tnn]
 have ek:(evs p).getD k Uo=ev p (k:Int):=by unfold ev;rw [tnn]
 have hl:=qG hp (n:=(i:Int)) (by omega) (by omega);have hX:=SF hp C;have hiF:(i:Int)∈F:=(C.mem _).2 ⟨by omega,by omega⟩;have hkF:(k:Int)∈F:=(C.mem _).2 ⟨by omega,by omega⟩;unfold rT J;simp only [tnn,ei,ek];refine .gdD ⟨by omega,by omega⟩ (.gdD ⟨by omega,by omega⟩ (Uc.bind (P:=(· = (Uu (0<=(ev p i).Thread)&&Uu ((ev p i).Thread=(ev p k).Thread)))) (.bifD (λh => .pure ?_) λh => .pure ?_) λsame hs=>Uc.bind (P:=(· = poB p i k)) (.bif (λh => .pure ?_) λh => .pure ?_) λpo hpo=>?_))
 ·rw [decide_eq_true h,YL];exact Po _ _
 ·rw [decide_eq_false h];rfl
 ·unfold poB;rw [Bool.and_comm (Uu<|(ev p i).Thread=(ev p k).Thread),<- hs,h,YL]
 ·unfold poB;rw [Bool.and_comm (Uu<|(ev p i).Thread=(ev p k).Thread),<- hs,h,Bool.false_and]
 subst hpo;clear hs;have hn':nm=⟨#[112,111]⟩\/nm=⟨#[108,111,99]⟩\/nm=⟨#[101,120,116]⟩\/nm=⟨#[114,102]⟩\/nm=⟨#[99,111]⟩\/nm=⟨#[102,114]⟩\/nm=⟨#[102,101,110,99,101]⟩\/nm=⟨#[119,114]⟩\/nm=⟨#[119,119]⟩\/nm=⟨#[105,100]⟩:=by
  simpa [He] using hn
 rcases hn' with rfl | rfl | rfl | rfl | rfl | rfl | rfl | rfl | rfl | rfl
 ·exact Uc.sumR<|.bif (λ_ => .pure rfl) λh=>absurd h (by decide)
 ·exact Uc.sumR<|.bif (λh=>absurd h<|by decide) λ_ => .bif (λ_ => .pure<|congrArg Sum.inr<|Po _ _) λh=>absurd h (by decide)
 ·refine Uc.sumR<|.bif (λh=>absurd h<|by decide) λ_ => .bif (λh=>absurd h<|by decide) λ_ => .bif (λ_=>?_) λh=>absurd h (by decide);refine Uc.bind (P:=(· = extB p i k)) (.bif (λh => .pure ?_) λh => .pure ?_) λv hv => .pure<|congrArg Sum.inr hv
  ·unfold extB;rw [decide_eq_true (show (ev p i).Thread≠(ev p k).Thread by simpa using h)]
   rfl
  unfold extB;rw [decide_eq_false (show ¬ (ev p i).Thread≠(ev p k).Thread by simpa using h)]
  rfl
 ·refine Uc.sumR<|.bif (λh=>absurd h<|by decide) λ_ => .bif (λh=>absurd h<|by decide) λ_ => .bif (λh=>absurd h<|by decide) λ_ => .bif (λ_=>?_) λh=>absurd h (by decide);refine .gdD ⟨by omega,by show _<((x.1.length:Nat):Int);rw [C.flen];omega⟩ (.pure<|congrArg Sum.inr ?_);show (x.1.getD k Uo==(i:Int))=rfB p x i k;unfold rfB;rw [tnn,Po]
  cases hr:(ev p (k:Int)).Reads with
  | true=>rw [YL]
  | false=>
   have := C.frN _ hkF hr;rw [tnn] at this;rw [this,Bool.false_and];exact decide_eq_false (by omega)
 ·refine Uc.sumR<|.bif (λh=>absurd h<|by decide) λ_ => .bif (λh=>absurd h<|by decide) λ_ => .bif (λh=>absurd h<|by decide) λ_ => .bif (λh=>absurd h<|by decide) λ_ => .bif (λ_=>?_) λh=>absurd h (by decide);refine (J9 hX hl i k).bind λv hv => .pure<|congrArg Sum.inr ?_;show v=coB p x i k;rw [hv];unfold coB
  congr 1
  have O:=C.ods _ hl;rw [Bool.eq_iff_iff];simp only [bae,dte]
  constructor
  ·rintro ⟨h1,h2⟩;exact ⟨⟨((O.mem _).1 h1).2.1,((O.mem _).1 h2).2.1⟩,((O.mem _).1 h2).2.2.symm⟩
  rintro ⟨⟨h1,h2⟩,h3⟩;exact ⟨(O.mem _).2 ⟨hiF,h1,rfl⟩,(O.mem _).2 ⟨hkF,h2,h3.symm⟩⟩
 ·refine Uc.sumR<|.bif (λh=>absurd h<|by decide) λ_ => .bif (λh=>absurd h<|by decide) λ_ => .bif (λh=>absurd h<|by decide) λ_ => .bif (λh=>absurd h<|by decide) λ_ => .bif (λh=>absurd h<|by decide) λ_ => .bif (λ_=>?_) λh=>absurd h (by decide);refine Uc.bind (P:=(· = frB p x i k)) (.bif (λh1 => .bif (λh2 => .bif (λh3 => .gdD ⟨by omega,by show _<((x.1.length:Nat):Int);rw [C.flen];omega⟩<|(J9 hX hl _ _).bind λv hv => .pure ?_) λh3 => .pure ?_) λh2 => .pure ?_) λh1 => .pure ?_) λv hv => .pure (congrArg Sum.inr hv)
  ·have h3 : ¬ (i:Int)=(k:Int):=by simpa using h3
   have O:=C.ods _ hl;rw [hv];unfold frB;have hrd:=C.rdc _ hiF h1;rw [tnn] at hrd ⊢;rw [h1,h2,decide_eq_false h3,decide_eq_true hrd];simp only [Bool.and_self,YL,Bool.not_false,Bool.and_true]
   congr 1
   refine decide_eq_decide.2 ⟨λh=>((O.mem _).1 h).2.2.symm,λh=>(O.mem _).2 ⟨hkF,h2,h.symm⟩⟩
  ·have h3:(i:Int)=(k:Int):=by simpa using h3
   unfold frB;rw [decide_eq_true h3];simp
  ·unfold frB;rw [h2];simp
  unfold frB;rw [h1];simp
 ·refine Uc.sumR<|.bif (λh=>absurd h<|by decide) λ_ => .bif (λh=>absurd h<|by decide) λ_ => .bif (λh=>absurd h<|by decide) λ_ => .bif (λh=>absurd h<|by decide) λ_ => .bif (λh=>absurd h<|by decide) λ_ => .bif (λh=>absurd h<|by decide) λ_ => .bif (λ_=>?_) λh=>absurd h (by decide);refine Uc.bind (P:=(· = Sq p i k)) (.bif (λh=>?_) λh => .pure<|by unfold Sq;rw [h];rfl) λv hv => .pure (congrArg Sum.inr hv);have hpo:=h;unfold poB at h;simp only [bae,dte] at h;obtain ⟨⟨h1,h2⟩,h3⟩:=h;rcases gH (p:=p) (n:=(k:Int)) (by omega) (by omega) with hc | ⟨t,q,hI,e⟩
  ·exfalso;have : (ev p (k:Int)).Thread = -1:=by
    rw [show (k:Int)=((k:Nat):Int) from rfl,(p5 (p:=p) (l:=k)<|by omega).1]
   omega
  rcases gH (p:=p) (n:=(i:Int)) (by omega) (by omega) with hc | ⟨t',q',hI',e'⟩
  ·exfalso;have : (ev p (i:Int)).Thread = -1:=by
    rw [(p5 (p:=p) (l:=i)<|by omega).1]
   omega
  have a1:=(hI.ev (p:=p)).1;have a2:=(hI'.ev (p:=p)).1;rw [<- e] at a1;rw [<- e'] at a2;rw [a1,a2] at h1 h3;simp only at h1 h3;have ht:t'=t:=by omega
  subst ht;have hlen:=hI.k;refine .gdD ⟨by rw [a2];simp only [];omega,by rw [a2];simp only [];have := hI'.t;omega⟩ (.gdD ⟨by rw [a2];simp only [];omega,by rw [a1,a2];simp only [];omega,by rw [a1,a2];simp only [];rw [tnn];omega⟩<|(RO ?_).bind λv hv => .pure ?_)
  ·have := hp.vs.2 t';rw [a2];simp only [YH,YQ,tnn];omega
  rw [hv];unfold Sq;rw [hpo,YL]
 ·refine Uc.sumR<|.bif (λh=>absurd h<|by decide) λ_ => .bif (λh=>absurd h<|by decide) λ_ => .bif (λh=>absurd h<|by decide) λ_ => .bif (λh=>absurd h<|by decide) λ_ => .bif (λh=>absurd h<|by decide) λ_ => .bif (λh=>absurd h<|by decide) λ_ => .bif (λh=>absurd h<|by decide) λ_ => .bif (λ_=>?_) λh=>absurd h (by decide);refine (J8 _ _).bind λv hv=>Uc.bind (P:=(· = (rW (ev p i) Uq&&rW (ev p k) Ur))) (.bif (λh=>(J8 _ _).bind λw hw => .pure ?_) λh => .pure ?_) λv hv => .pure<|congrArg Sum.inr hv
  ·have e:rW (ev p i) Uq=Uq:=hv.symm.trans h;show w=(rW (ev p i) Uq&&rW (ev p k) Ur);rw [e];exact hw
  have e:rW (ev p i) Uq=Ur:=hv.symm.trans h;show Ur=(rW (ev p i) Uq&&rW (ev p k) Ur);rw [e]
  rfl
 ·refine Uc.sumR<|.bif (λh=>absurd h<|by decide) λ_ => .bif (λh=>absurd h<|by decide) λ_ => .bif (λh=>absurd h<|by decide) λ_ => .bif (λh=>absurd h<|by decide) λ_ => .bif (λh=>absurd h<|by decide) λ_ => .bif (λh=>absurd h<|by decide) λ_ => .bif (λh=>absurd h<|by decide) λ_ => .bif (λh=>absurd h<|by decide) λ_ => .bif (λ_=>?_) λh=>absurd h (by decide);refine (J8 _ _).bind λv hv=>Uc.bind (P:=(· = (rW (ev p i) Uq&&rW (ev p k) Uq))) (.bif (λh=>(J8 _ _).bind λw hw => .pure ?_) λh => .pure ?_) λv hv => .pure<|congrArg Sum.inr hv
  ·have e:rW (ev p i) Uq=Uq:=hv.symm.trans h;show w=(rW (ev p i) Uq&&rW (ev p k) Uq);rw [e];exact hw
  have e:rW (ev p i) Uq=Ur:=hv.symm.trans h;show Ur=(rW (ev p i) Uq&&rW (ev p k) Uq);rw [e]
  rfl
 refine Uc.sum (PS:=λ_=>True) (PW:=(· = nmR p x ⟨#[105,100]⟩ i k)) (.bif (λh=>absurd h<|by decide) λ_ => .bif (λh=>absurd h<|by decide) λ_ => .bif (λh=>absurd h<|by decide) λ_ => .bif (λh=>absurd h<|by decide) λ_ => .bif (λh=>absurd h<|by decide) λ_ => .bif (λh=>absurd h<|by decide) λ_ => .bif (λh=>absurd h<|by decide) λ_ => .bif (λh=>absurd h<|by decide) λ_ => .bif (λh=>absurd h<|by decide) λ_ => .pure trivial) λ_ _ => .pure<|Po _ _
theorem SI (hp:PV p) (C:Cand p x F) {nm:BA} (hn:nm∈He):Uc (iX p ⟨x.1,x.2⟩ nm) (· = Ui (evs p).length (nmR p x nm)):=by
 have hel:=kT hp.vs;unfold iX;refine (Gh hp.vs).bind λv1 h1=>?_;subst h1;exact Uc.bind (P:=(· = Ui (evs p).length (nmR p x nm))) (HL (by omega) (is:=λi k=>uT i k p ⟨x.1,x.2⟩ (evs p) nm) λi k hi hk=>(RP hp C hi hk nm hn).bind λv hv => .pure hv) λv hv => .pure hv
theorem RQ (hv:bS (Uh p)=Uq):(evs p).length<=15:=by
 have h1:=Eo (p:=p) (λe=>Uu (0<=e.Thread)||Uq) yT (λt k x ho=>by simp [yT,qw,ho]) (λx ho=>by simp [yT,qw,ho]);rw [show (ev0.filter λe=>Uu (0<=e.Thread)||Uq).length=3 from rfl,Zj.2 (λa _=>by simp)] at h1;simp only [bS,vB,bae,dte] at hv;omega
end
end
end Go.Proofs.YtdmahcaohkplcaaGreatDoor
