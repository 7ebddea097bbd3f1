/- Texts joined. No conditions. -/
import Derived.Test.YtpkhamajimidnaaGreatDoorW8
namespace Go.Proofs.YtpkhamajimidnaaGreatDoor
noncomputable section
open _root_.Bool renaming true_and -> Ur, false_and -> UK, eq_iff_iff -> UX
open _root_.BitVec renaming ofInt -> Us, ofInt_natCast -> UC, toNat_ofNat -> UD
open _root_.List renaming replicate -> Ut, mem_cons_self -> Uu, range -> Uv, mem_singleton -> Uw, mem_range -> Ux, range_succ -> UB, mem_map -> UG, map_append -> UH, getElem_of_mem -> UI, mem_cons -> UJ, mem_filter -> UN, drop_eq_getElem_cons -> UO, ext_getElem -> UQ, length_filter_le -> UU, idxOf_lt_length_of_mem -> UV, length_take -> UW, drop_eq_nil_of_le -> U0, mem_cons_of_mem -> U2, countP_singleton -> U3
open _root_.Option renaming bind -> Uy
open _root_.Nat renaming and_le_left -> Uz, lt_succ_self -> UF, lt_irrefl -> UM, eq_of_testBit_eq -> UR, pow_lt_pow_right -> UT, le_trans -> UY, sub_self -> UZ
open _root_.Int renaming toNat_of_nonneg -> UA, lt_irrefl -> UL, fdiv_eq_ediv_of_nonneg -> U1
open _root_.Prod renaming ext -> UE
open Go.RowKit
set_option maxRecDepth 100000
section
variable {p:List (List Px)} {x:XS} {F F':LI}
def Cf (p:List (List Px)):LI:=(Uv (evs p).length).map λ(i:Nat)=>(i:Int)
theorem Cand.congr (C:Cand p x F) (h:∀ n,n∈F'↔n∈F):Cand p x F':=
 ⟨λn=>(h n).trans (C.mem n),C.flen,C.olen,λl hl=>⟨(C.ods l hl).nd,λn=>by rw [(C.ods l hl).mem,h]⟩,C.hd,λi hi hr=>C.rdc i ((h i).1 hi) hr,λi hi hr=>C.ne i ((h i).1 hi) hr,λi hi hr=>C.frN i ((h i).1 hi) hr⟩
theorem Ia (l:Int):(PG p l).Nodup:=List.Pairwise.filter _ MR
theorem nC {c:Py} (hp:PV p) (h:c∈ez p):Cand p (c.From,c.Order) (Cf p):=by
 unfold ez at h;simp only [List.mem_flatMap,UG] at h;obtain ⟨f,hf,o,ho,rfl⟩:=h;obtain ⟨f1,f2⟩:=nV.1 hf;obtain ⟨o1,o2⟩:=nV.1 ho;have hfl:=EK hf;have oget:∀ l:Nat,l<3->∃ r,o.getD l []=(l:Int)::r/\r.Perm (PG p (l:Int)).tail:=λl hl=>by
  obtain ⟨y,hy,e⟩:=o2 l hl;have hy':y∈chL p l:=by
   match l,hl with
   | 0,_=>exact hy
   | 1,_=>exact hy
   | 2,_=>exact hy
  unfold chL at hy';obtain ⟨r,hr,rfl⟩:=UG.1 hy';exact ⟨r,by rw [gdq,e];rfl,(vz rfl).1 hr⟩
 have operm:∀ l:Nat,l<3->(o.getD l []).Perm (PG p (l:Int)):=λl hl=>by
  obtain ⟨r,e,hr⟩:=oget l hl;obtain ⟨t,ht⟩:=H6 (p:=p) l hl;rw [e];rw [ht] at hr ⊢;exact hr.cons _
 have fget:∀ i:Nat,i<(evs p).length->f.getD i default∈chE p i:=λi hi=>by
  obtain ⟨y,hy,e⟩:=f2 i (by simp [chF];exact hi);rw [gdq,e];simpa [chF] using hy
 have odn:∀ l:Int,0<=l/\l<=2->(od (f,o) l).Perm (PG p l):=λl hl=>by
  have := operm l.toNat (by omega);rw [UA hl.1] at this;exact this
 have rd:∀ i:Int,i∈Cf p->(ev p i).Reads=true->f.getD i.toNat default∈PG p (ev p i).Loc/\f.getD i.toNat default≠i:=λi hi hr=>by
  obtain ⟨i0,i1⟩:=(CO i).1 hi;have := fget i.toNat (by omega);unfold chE at this;rw [UA i0,if_pos hr,UN] at this;exact ⟨this.1,by simpa using this.2⟩
 refine ⟨λn=>CO n,hfl,o1,λl hl=>⟨(odn l hl).nodup_iff.2 (Ia l),λn=>?_⟩,λl hl=>?_,λi hi hr=>?_,λi hi hr=>(rd i hi hr).2,λi hi hr=>?_⟩
 ·rw [(odn l hl).mem_iff];unfold PG;rw [UN];unfold Wl;rw [bae,dte];exact Iff.rfl
 ·obtain ⟨r,e,_⟩:=oget l hl;exact ⟨r,by unfold od;rw [tnn];exact e⟩
 ·obtain ⟨i0,i1⟩:=(CO i).1 hi;exact (odn _ (pz hp i0 i1)).mem_iff.2 (rd i hi hr).1
 obtain ⟨i0,i1⟩:=(CO i).1 hi;have := fget i.toNat (by omega);unfold chE at this;rw [UA i0,if_neg (by rw [hr];decide)] at this;simpa using this
theorem Ib {a b:LI} (k:Nat) (ha:k<a.length) (hb:k<b.length):cmpL (a.drop k) (b.drop k)=if a.getD k default<b.getD k default then -1 else if b.getD k default<a.getD k default then 1 else cmpL (a.drop (k+1)) (b.drop (k+1)):=by
 have e1:a.getD k default=a[k]:=by rw [gdq,geq ha];rfl
 have e2:b.getD k default=b[k]:=by rw [gdq,geq hb];rfl
 rw [UO ha,UO hb,cmpL,e1,e2]
theorem JH {a b:LI} (h:a.length=b.length) (hl:a.length<=1000000):PE (mQ a b) (· = cmpL a b):=by
 unfold mQ;refine PE.sum (PS:=λ_=>cmpL a b=0) (PW:=(· = cmpL a b)) ?_ λ_ h0 => .pure h0.symm;refine PE.loop (λz=>∃ k:Nat,k<=a.length/\z=(k:Int)/\cmpL a b=cmpL (a.drop k) (b.drop k)) (λz=>((a.length:Int)-z).toNat) ⟨0,by omega,rfl,rfl⟩ λz ⟨k,h1,h2,h3⟩ => ?_;subst h2;unfold tq;simp only [tnn];refine PE.bind (P:=(· = decide (k<a.length))) (.bifD (λhk => .pure ?_) λhk => .pure ?_) λc hc=>?_
 ·rw [decide_eq_true (show k<a.length by omega)];exact decide_eq_true (by omega)
 ·rw [decide_eq_false (show ¬ k<a.length by omega)]
 subst hc;refine .bifD (λhk=>?_) λhk => .pure ?_
 ·rw [Ib k hk (by omega)] at h3;refine .gdD ⟨by omega,by omega⟩ (.gdD ⟨by omega,by omega⟩ (.bifD (λhlt => .pure ?_) λhge => .bifD (λhlt => .pure ?_) λhge2 => .gdI (by omega) (.pure ⟨⟨k+1,by omega,rfl,?_⟩,by omega⟩)))
  ·rw [if_pos hlt] at h3;exact h3.symm
  ·rw [if_neg hge,if_pos hlt] at h3;exact h3.symm
  rw [if_neg hge,if_neg hge2] at h3;exact h3
 rw [h3,U0 (by omega),U0 (by omega)]
 rfl
end
def tab (N:Nat) (g:Nat->Int):LI:=(Uv N).map g
section
variable {N:Nat} {g h:Nat->Int}
theorem ub:(tab N g).length=N:=by simp [tab]
theorem EN {i:Nat} (hi:i<N):(tab N g).getD i default=g i:=by
 unfold tab;rw [gdq,List.getElem?_map,List.getElem?_range hi]
 rfl
theorem fF (e:∀ i,i<N->g i=h i):tab N g=tab N h:=List.map_congr_left λi hi=>e i (Ux.1 hi)
theorem CQ (i:Nat) (v:Int):(tab N g).set i v=tab N λj=>if j=i then v else g j:=by
 apply UQ
 ·simp [tab]
 intro j h1 h2;rw [List.getElem_set];simp only [tab,List.getElem_map,List.getElem_range]
 by_cases e:i=j
 ·subst e;simp
 rw [if_neg e,if_neg (Ne.symm e)]
theorem zO:Ut N (default:Int)=tab N λ_=>0:=by
 apply UQ
 ·simp [tab]
 intro j h1 h2;simp only [tab,List.getElem_map,List.getElem_replicate]
 rfl
theorem zP:tab (N+1) g=tab N g++[g N]:=by
 unfold tab;rw [UB,UH]
 rfl
end
theorem da {f g:Nat->Bool}:∀ {n:Nat},(∀ k,k<n->f k=g k)->PF f n=PF g n
 | 0,_=>rfl
 | n+1,h=>by
  unfold PF;rw [h n (by omega),da λk hk=>h k (by omega)]
theorem Ic (f g:Nat->Bool) (n:Nat):PF f n&&&PF g n=PF (λj=>f j&&g j) n:=by
 apply UR;intro j;rw [Nat.testBit_and,kD,kD,kD]
 cases decide (j<n) <;> rfl
theorem zQ (n:Nat):PF (λ_=>false) n=0:=by
 induction n with
 | zero=>rfl
 | succ n ih=>unfold PF;simp [ih]
def PI (N:Nat) (f:Int->Int->Bool):LI:=tab N λi=>((PF (λk=>f (i:Int) (k:Int)) N:Nat):Int)
section
variable {N:Nat} {f g:Int->Int->Bool}
theorem bu:(PI N f).length=N:=ub
theorem iR {i:Nat} (h:i<N):(PI N f).getD i default=((PF (λk=>f (i:Int) (k:Int)) N:Nat):Int):=EN h
theorem kM (h:∀ i k:Nat,i<N->k<N->f i k=g i k):PI N f=PI N g:=fF λi hi=>by rw [da λk hk=>h i k hi hk]
def P15 (n:Int) (is:Int->Int->Option Bool) (s6:(LI)×Int):((LI)×Int)->Option (((LI)×Int) ⊕ (LI)):=λs14=>
 bif decide (s14.2<n) then
  Uy (
   Uy (is s6.2 s14.2) λv19=>
   bif v19 then
    gd (decide (0<=s6.2/\s6.2<(s14.1.length:Int))) <|
    gd (decide (0<=s14.2)) <|
    some (s14.1.set s6.2.toNat (Pu .i64 (s14.1.getD s6.2.toNat default) (CB .i64 (1:Int) s14.2)))
   else
    some s14.1
  ) λs18=>
  gd (Pv .i64 (s14.2+(1:Int))) <|
  some (.inl (s18,(s14.2+(1:Int))))
 else
  some (.inr s14.1)
def P7 (n:Int) (is:Int->Int->Option Bool):((LI)×Int)->Option (((LI)×Int) ⊕ (LI)):=λs6=>
 bif decide (s6.2<n) then
  Uy (
   loopO (P15 n is s6) (s6.1,(0:Int))
  ) λs10=>
  gd (Pv .i64 (s6.2+(1:Int))) <|
  some (.inl (s10,(s6.2+(1:Int))))
 else
  some (.inr s6.1)
def Kr (n:Int) (is:Int->Int->Option Bool):Option (LI):=
 gd (decide (0<=n/\n<=n/\n*((8:Nat):Int)<=140737488355328/\n<=140737488355328)) <|
 Uy (
  loopO (P7 n is) ((Ut n.toNat (default:Int)),(0:Int))
 ) λs2=>
 some s2
def part (N:Nat) (f:Int->Int->Bool) (i k:Nat):LI:=tab N λj=>if j<i then ((PF (λk=>f (j:Int) (k:Int)) N:Nat):Int) else if j=i then ((PF (λk=>f (j:Int) (k:Int)) k:Nat):Int) else 0
theorem DX (hN:N<=60) {is:Int->Int->Option Bool} (hi:∀ i k:Nat,i<N->k<N->PE (is (i:Int) (k:Int)) (· = f i k)):PE (Kr (N:Int) is) (· = PI N f):=by
 unfold Kr;refine .gdD ⟨by omega,by omega,by omega,by omega⟩ (PE.bind (P:=(· = PI N f)) ?_ λv hv => .pure hv);have e0:Ut (N:Int).toNat (default:Int)=part N f 0 0:=by
  rw [tnn,zO];refine fF λj _=>?_;rw [if_neg (by omega)]
  split <;> simp [PF]
 rw [e0];refine PE.loop (λz=>∃ i:Nat,i<=N/\z=(part N f i 0,(i:Int))) (λz=>((N:Int)-z.2).toNat) ⟨0,by omega,rfl⟩ λz ⟨i,h1,h2⟩ => ?_;subst h2;unfold P7;simp only [];refine .bifD (λhk=>?_) λhk => .pure ?_
 ·refine PE.bind (P:=(· = part N f (i+1) 0)) ?_ λv hv => .gdI (by omega) (.pure ⟨⟨i+1,by omega,by rw [hv];rfl⟩,by simp only [];omega⟩);refine PE.loop (λz=>∃ k:Nat,k<=N/\z=(part N f i k,(k:Int))) (λz=>((N:Int)-z.2).toNat) ⟨0,by omega,rfl⟩ λz ⟨k,k1,k2⟩ => ?_;subst k2;unfold P15;simp only [tnn];refine .bifD (λhkk=>?_) λhkk => .pure ?_
  ·refine PE.bind (P:=(· = part N f i (k+1))) ((hi i k (by omega) (by omega)).bind λv hv => .bif (λhb => .gdD ⟨by omega,by unfold part;rw [ub];omega⟩ (.gdD (by omega) (.pure ?_))) λhb => .pure ?_) λv hv => .gdI (by omega) (.pure ⟨⟨k+1,by omega,by rw [hv];rfl⟩,by simp only [];omega⟩)
   ·unfold part;rw [EN (by omega),if_neg (by omega),if_pos rfl,zN (by omega),ru (bC (by omega)) (by have := UT (a:=2) (by omega) (show k<63 by omega);omega),CQ];refine fF λj _=>?_
    by_cases e:j=i
    ·subst e;rw [if_pos rfl,if_neg (by omega),if_pos rfl];rw [hv] at hb;rw [PF,if_pos hb]
    rw [if_neg e,if_neg e,if_neg e]
   unfold part;refine fF λj _=>?_
   by_cases e:j=i
   ·subst e;rw [if_neg (by omega),if_pos rfl,if_neg (by omega),if_pos rfl];rw [hv] at hb;rw [PF,if_neg (by rw [hb];decide)]
   rw [if_neg e,if_neg e]
  have : k=N:=by omega
  subst this;unfold part;refine fF λj _=>?_
  by_cases e:j=i
  ·subst e;rw [if_neg (by omega),if_pos rfl,if_pos (by omega)]
  by_cases e2:j<i
  ·rw [if_pos e2,if_pos (by omega)]
  rw [if_neg e2,if_neg e,if_neg (by omega)]
  split <;> simp [PF]
 have : i=N:=by omega
 subst this;exact fF λj hj=>by rw [if_pos hj]
theorem MV (i:Nat):(PF (λk=>f (i:Int) (k:Int)) N)<2 ^ N:=Ft _ _
theorem Lr {m n:Nat} (hm:m<2 ^ n) (hn:n<=62):jw .i64 (m:Int) (n:Int)=0:=by
 show (m:Int).fdiv (2 ^ (min (n:Int).toNat 64))=_;have hq:min (n:Int).toNat 64=n:=by omega
 rw [hq,show (2:Int) ^ n=((2 ^ n:Nat):Int) by simp,U1 _ (Int.natCast_nonneg _)];have : m / 2 ^ n=0:=Nat.div_eq_of_lt hm;omega
theorem nD (hN:N<=16):PE (bL (PI N f)) (· = true):=by
 unfold bL bg bz;refine PE.bind (P:=(· = true)) (.bifD (λ_=>?_) λh=>absurd (show ((PI N f).length:Int)<=16 by rw [bu];omega) h) λv hv => .pure hv;refine PE.bind (P:=(· = false)) (PE.bind (P:=(· = -1)) (PE.sum (PS:=λ_=>True) (PW:=(· = (-1:Int))) ?_ λ_ _ => .pure rfl) λv hv => .pure (by subst hv;rfl)) λv hv => .pure (by subst hv;rfl);refine PE.loop (λz=>∃ i:Nat,i<=N/\z=(i:Int)) (λz=>((N:Int)-z).toNat) ⟨0,by omega,rfl⟩ λz ⟨i,h1,h2⟩ => ?_;subst h2;unfold bN nu;simp only [bu,tnn];refine .bifD (λhk=>?_) λhk => .pure trivial;have hg:=iR (f:=f) (show i<N by omega);refine .gdD ⟨by omega,hk⟩ (PE.bind (P:=(· = false)) (PE.bind (P:=(· = false)) (.bifD (λh=>absurd h (by rw [hg];omega)) λ_ => .gdD (by omega) (.pure (decide_eq_false (by rw [hg,Lr (MV i) (by omega)];omega)))) λv hv => .pure hv) λv hv => .bif (λh=>by rw [hv] at h;cases h) λ_ => .gdI (by omega) (.pure ⟨⟨i+1,by omega,rfl⟩,by omega⟩))
theorem Ie (hN:N<=16):PE (dH (PI N f) (PI N g)) (· = true):=by
 unfold dH;refine PE.bind (P:=(· = true)) (.bif (λ_=>(nD hN).bind λv hv => .pure hv) λh=>?_) λv hv=>?_
 ·rw [bu,bu] at h;simp at h
 subst hv;exact PE.bind (P:=(· = true)) (.bif (λ_=>(nD hN).bind λv hv => .pure hv) λh=>by cases h) λv hv => .pure hv
theorem lT (hN:N<=60) {i k:Nat} (hi:i<N) (hk:k<N):PE (cH (PI N f) (i:Int) (k:Int)) (· = f i k):=by
 unfold cH;simp only [bu,tnn];rw [iR hi,Kq (bC (by omega)) (by omega),kD,decide_eq_true hk,Ur];refine .gdD ⟨by omega,by omega⟩ (.gdD (by omega) (.pure ?_))
 cases f i k <;> rfl
theorem CS {a b:Nat} (ha:a<9223372036854775808) (hb:b<9223372036854775808):eF .i64 (a:Int) (b:Int)=((a&&&b:Nat):Int):=by
 have hlt:(a&&&b)<2 ^ 63:=Nat.and_lt_two_pow a hb;show IntKind.wrap .i64 (((Us 64 (a:Int)&&&Us 64 (b:Int)).toNat:Nat):Int)=_;have h1:(Us 64 (a:Int)).toNat=a:=by rw [UC,UD];omega
 have h2:(Us 64 (b:Int)).toNat=b:=by rw [UC,UD];omega
 rw [BitVec.toNat_and,h1,h2];exact uD hlt
theorem DY (f g:Nat->Bool) {n:Nat} (hn:n<=62):oD .i64 ((PF f n:Nat):Int) ((PF g n:Nat):Int)=((PF (λj=>f j && !g j) n:Nat):Int):=by
 have ha:=bC (f:=f) hn;have hb:=bC (f:=g) hn;show IntKind.wrap .i64 (((Us 64 ((PF f n:Nat):Int) &&& ~~~ Us 64 ((PF g n:Nat):Int)).toNat:Nat):Int)=_;have key:(Us 64 ((PF f n:Nat):Int) &&& ~~~ Us 64 ((PF g n:Nat):Int)).toNat=PF (λj=>f j && !g j) n:=by
  apply UR;intro j;rw [kD];have h1:∀ m:Nat,m<9223372036854775808->∀ j,(Us 64 ((m:Nat):Int)).getLsbD j=m.testBit j:=λm hm j=>by
   show (Us 64 ((m:Nat):Int)).toNat.testBit j=_;rw [UC,UD,Nat.mod_eq_of_lt (by omega)]
  show (Us 64 ((PF f n:Nat):Int) &&& ~~~ Us 64 ((PF g n:Nat):Int)).getLsbD j=_;rw [BitVec.getLsbD_and,BitVec.getLsbD_not,h1 _ ha,h1 _ hb,kD,kD]
  by_cases hj:j<n
  ·rw [decide_eq_true hj,decide_eq_true (show j<64 by omega)];simp
  rw [decide_eq_false hj];simp
 rw [key];exact uD (bC hn)
theorem CU (hN:N<=16) {by_:Int->Int->Option Int} {q:Int->Int->Bool} (step:((LI)×Int)->Option (((LI)×Int) ⊕ (LI)))
  (hs:∀ s8:(LI)×Int,step s8=bif decide (s8.2<((PI N f).length:Int)) then
   gd (decide (0<=s8.2/\s8.2<((PI N f).length:Int)))<|gd (decide (0<=s8.2/\s8.2<((PI N g).length:Int))) <|
   Uy (by_ ((PI N f).getD s8.2.toNat default) ((PI N g).getD s8.2.toNat default)) λv14=>
   gd (decide (0<=s8.2/\s8.2<(s8.1.length:Int)))<|gd (Pv .i64 (s8.2+(1:Int)))<|some (.inl ((s8.1.set s8.2.toNat v14),(s8.2+(1:Int)))) else some (.inr s8.1))
  (hb:∀ i:Nat,i<N->PE (by_ ((PF (λk=>f (i:Int) (k:Int)) N:Nat):Int) ((PF (λk=>g (i:Int) (k:Int)) N:Nat):Int)) (· = ((PF (λk=>q (i:Int) (k:Int)) N:Nat):Int))) :
  PE (Uy (dH (PI N f) (PI N g)) λv1=>bif !v1 then some ([]:LI) else
   gd (decide (0<=((PI N f).length:Int)/\((PI N f).length:Int)<=((PI N f).length:Int)/\((PI N f).length:Int)*((8:Nat):Int)<=140737488355328/\((PI N f).length:Int)<=140737488355328)) <|
   Uy (loopO step ((Ut ((PI N f).length:Int).toNat (default:Int)),(0:Int))) λs4=>some s4) (· = PI N q):=by
 refine (Ie hN).bind λv hv=>?_;subst hv;refine .bif (λh=>by cases h) λ_=>?_;refine .gdD ⟨by omega,by omega,by rw [bu];omega,by rw [bu];omega⟩ (PE.bind (P:=(· = PI N q)) ?_ λv hv => .pure hv);rw [bu,tnn,zO];refine PE.loop (λz=>∃ i:Nat,i<=N/\z=(tab N (λj=>if j<i then ((PF (λk=>q (j:Int) (k:Int)) N:Nat):Int) else 0),(i:Int))) (λz=>((N:Int)-z.2).toNat) ⟨0,by omega,rfl⟩ λz ⟨i,h1,h2⟩ => ?_;subst h2;rw [hs];simp only [bu,tnn];refine .bifD (λhk=>?_) λhk => .pure ?_
 ·rw [iR (by omega),iR (by omega)];refine .gdD ⟨by omega,hk⟩ (.gdD ⟨by omega,hk⟩ ((hb i (by omega)).bind λv hv => .gdD ⟨by omega,by rw [ub];omega⟩ (.gdI (by omega) (.pure ⟨⟨i+1,by omega,?_⟩,by simp only [];omega⟩))));rw [CQ,hv];refine UE (fF λj _=>?_) rfl
  by_cases e:j=i
  ·subst e;rw [if_pos rfl,if_pos (by omega)]
  rw [if_neg e]
  by_cases e2:j<i
  ·rw [if_pos e2,if_pos (by omega)]
  rw [if_neg e2,if_neg (by omega)]
 have : i=N:=by omega
 subst this;exact fF λj hj=>by rw [if_pos hj]
theorem Ls (hN:N<=16):PE (mG (PI N f) (PI N g)) (· = PI N λi k=>f i k||g i k):=by
 unfold mG;refine PE.bind (P:=(· = PI N λi k=>f i k||g i k)) (CU hN (by_:=ny) _ (λ_=>rfl) λi hi => .pure ?_) λv hv => .pure hv;rw [ru (bC (by omega)) (bC (by omega)),BX]
theorem MW (hN:N<=16):PE (nR (PI N f) (PI N g)) (· = PI N λi k=>f i k&&g i k):=by
 unfold nR;refine PE.bind (P:=(· = PI N λi k=>f i k&&g i k)) (CU hN (by_:=oL) _ (λ_=>rfl) λi hi => .pure ?_) λv hv => .pure hv;rw [CS (bC (by omega)) (bC (by omega)),Ic]
theorem Lt (hN:N<=16):PE (mH (PI N f) (PI N g)) (· = PI N λi k=>f i k && !g i k):=by
 unfold mH;refine PE.bind (P:=(· = PI N λi k=>f i k && !g i k)) (CU hN (by_:=nz) _ (λ_=>rfl) λi hi => .pure ?_) λv hv => .pure hv;rw [DY _ _ (by omega)]
end
section
variable {p:List (List Px)} {x:XS} {F F':LI}
theorem Ig (l:Int):(PG p l).length<=(evs p).length:=by
 unfold PG;have := UU (Wl p l) ((Uv (evs p).length).map λ(i:Nat)=>(i:Int));simpa using this
structure Chk (p:List (List Px)) (x:XS):Prop where
 f:x.1.length=(evs p).length
 o:x.2.length=3
 r:∀ n:Nat,n<(evs p).length->if (ev p (n:Int)).Reads=true then x.1.getD n default∈PG p (ev p (n:Int)).Loc/\x.1.getD n default≠n else x.1.getD n default = -1
 ords:∀ l:Nat,l<3->(x.2.getD l default).Perm (PG p (l:Int))/\(x.2.getD l default).getD 0 default=l
theorem Ih:∀ {w l:LI},w.Nodup->l.length=w.length->(∀ n∈w,n∈l)->l.Perm w
 | [],l,_,h,_=>by rw [List.length_eq_zero_iff.1 h]
 | a::w,l,hn,h,hs=>by
  have ha:=hs a Uu;have hp:=List.perm_cons_erase ha;obtain ⟨n1,n2⟩:=List.nodup_cons.1 hn;refine hp.trans (List.Perm.cons a (Ih n2 ?_ λn hm=>?_))
  ·have := hp.length_eq;rw [h] at this;simp only [llc] at this;omega
  exact (List.mem_erase_of_ne (by rintro rfl;exact n1 hm)).2 (hs n (U2 _ hm))
theorem Gp {l w:LI} (hl:l.length<=4000000) (hw:w.Nodup) (hwl:w.length<=4000000) (h0:0<w.length):PE (nJ l w) λb=>b=true↔l.Perm w/\l.getD 0 default=w.getD 0 default:=by
 unfold nJ;refine PE.sum (PS:=λ_=>l.length=w.length/\l.getD 0 default=w.getD 0 default) (PW:=λb=>b=true↔l.Perm w/\l.getD 0 default=w.getD 0 default) (PE.bind (P:=λb:Bool=>b=false↔l.length=w.length/\l.getD 0 default=w.getD 0 default) (.bif (λh=>?_) λh=>?_) λv hv => .bif (λh=>?_) λh => .pure (hv.1 h)) λ_ ⟨e1,e2⟩ => ?_
 ·have h : ¬ (l.length:Int)=(w.length:Int):=by simpa using h
  exact .pure ⟨λe=>(by cases e),λe=>absurd e.1 (by omega)⟩
 ·have h:(l.length:Int)=(w.length:Int):=by simpa using h
  refine .gdD ⟨by omega,by omega⟩ (.gdD ⟨by omega,by omega⟩ (.pure ?_));show (l.getD 0 default != w.getD 0 default)=false↔_;rw [bne_eq_false_iff_eq];exact ⟨λe=>⟨by omega,e⟩,λe=>e.2⟩
 ·refine .pure ⟨λe=>(by cases e),λe=>?_⟩;have : v=false:=hv.2 ⟨e.1.length_eq,e.2⟩;rw [this] at h
  cases h
 refine PE.sum (PS:=λ_=>∀ n∈w,n∈l) (PW:=λb=>b=true↔l.Perm w/\l.getD 0 default=w.getD 0 default) ?_ λ_ hs => .pure ⟨λ_=>⟨Ih hw e1 hs,e2⟩,λ_=>rfl⟩;refine PE.loop (λz=>∃ i:Nat,i<=w.length/\z=(i:Int)/\∀ j:Nat,j<i->w.getD j default∈l) (λz=>((w.length:Int)-z).toNat) ⟨0,by omega,rfl,λj hj=>absurd hj (by omega)⟩ λz ⟨i,h1,h2,h3⟩ => ?_;subst h2;unfold qJ;simp only [tnn];refine .bifD (λhk => .gdD ⟨by omega,hk⟩ ((wC hl _).bind λv hv => .bifD (λhneg => .pure ?_) λhpos => .gdI (by omega) (.pure ⟨⟨i+1,by omega,rfl,λj hj=>?_⟩,by omega⟩))) λhk => .pure λn hn=>?_
 ·refine ⟨λe=>(by cases e),λe=>?_⟩;have hm:w.getD i default∈l:=e.1.mem_iff.2 (getD_in (by omega));rw [hv,Ld hm] at hneg;omega
 ·by_cases ej:j=i
  ·subst ej
   by_cases hm:w.getD j default∈l
   ·exact hm
   rw [hv] at hpos;unfold plc at hpos;rw [if_neg hm] at hpos;omega
  exact h3 j (by omega)
 obtain ⟨j,hj,rfl⟩:=UI hn;have := h3 j (by omega);rw [gdq,geq hj] at this;exact this
theorem Ii {l:LI} (n:Int):plc l n<0↔n∉l:=by
 unfold plc
 split
 ·rename_i h;exact ⟨λe=>by omega,λe=>absurd h e⟩
 rename_i h;exact ⟨λ_=>h,λ_=>by omega⟩
theorem MX (hp:PV p) (hv:bB (p.map λr=>r.map lu)=true) (hsz:p.length<=1048576/\total p<=1048576) (hx:∀ r∈x.2,r.length<=1048576):PE (kP p ⟨x.1,x.2⟩) λb=>b=true↔Chk p x:=by
 have hel:=jo hp.vs;have hS:cm p=some (bB (p.map λr=>r.map lu)):=tO (decide_eq_true hsz);unfold kP;refine (PE.of (P:=(· = true)) hS hv).bind λv1 h1=>?_;subst h1;refine .bif (λh=>by cases h) λ_=>(xI hp.vs).bind λv3 h3=>?_;subst h3;refine PE.bind (P:=λb:Bool=>b=false↔x.1.length=(evs p).length/\x.2.length=3) (.bif (λh => .pure ⟨λe=>(by cases e),λe=>?_⟩) λh => .pure ?_) λv4 h4 => .bif (λh => .pure ⟨λe=>(by cases e),λe=>?_⟩) λh=>?_
 ·have h : ¬ (x.1.length:Int)=((evs p).length:Int):=by simpa using h
  omega
 ·have h:(x.1.length:Int)=((evs p).length:Int):=by simpa using h
  show ((x.2.length:Int) != 3)=false↔_;rw [bne_eq_false_iff_eq];exact ⟨λe=>⟨by omega,by omega⟩,λe=>by omega⟩
 ·have := h4.2 ⟨e.f,e.o⟩;rw [this] at h
  cases h
 obtain ⟨hf,ho⟩:=h4.1 h;refine PE.sum (PS:=λ_=>∀ n:Nat,n<(evs p).length->if (ev p (n:Int)).Reads=true then x.1.getD n default∈PG p (ev p (n:Int)).Loc/\x.1.getD n default≠n else x.1.getD n default = -1) (PW:=λb=>b=true↔Chk p x) ?_ λ_ hr=>?_
 ·refine PE.loop (λz=>∃ n:Nat,n<=(evs p).length/\z=(n:Int)/\∀ j:Nat,j<n->if (ev p (j:Int)).Reads=true then x.1.getD j default∈PG p (ev p (j:Int)).Loc/\x.1.getD j default≠j else x.1.getD j default = -1) (λz=>(((evs p).length:Int)-z).toNat) ⟨0,by omega,rfl,λj hj=>absurd hj (by omega)⟩ λz ⟨n,n1,n2,n3⟩ => ?_;subst n2;unfold o5;have en:(evs p).getD n default=ev p (n:Int):=by unfold ev;rw [tnn]
  simp only [tnn,en];refine .bifD (λhk=>?_) λhk => .pure λm hm=>n3 m (by omega);have hl:=pz hp (n:=(n:Int)) (by omega) hk;refine PE.sum (PS:=λ_=>if (ev p (n:Int)).Reads=true then x.1.getD n default∈PG p (ev p (n:Int)).Loc/\x.1.getD n default≠n else x.1.getD n default = -1) ?_ λ_ hn => .gdI (by omega) (.pure ⟨⟨n+1,by omega,rfl,λj hj=>?_⟩,by omega⟩)
  ·refine PE.sum (PS:=λ_=>(ev p (n:Int)).Reads=true->x.1.getD n default∈PG p (ev p (n:Int)).Loc) ?_ λ_ hin=>?_
   ·refine PE.bind (P:=λb:Bool=>b=false↔((ev p (n:Int)).Reads=true->x.1.getD n default∈PG p (ev p (n:Int)).Loc)) (.gdD ⟨by omega,hk⟩ (.bif (λhrd=>(vw hp _).bind λv18 h18 => .gdD ⟨by omega,by omega⟩ ?_) λhrd => .pure ⟨λ_ e=>(by rw [hrd] at e;cases e),λ_=>rfl⟩)) λv hv => .bif (λh => .pure ⟨λe=>(by cases e),λe=>?_⟩) λh => .pure (hv.1 h)
    ·have h18:v18=PG p (ev p (n:Int)).Loc:=h18;subst h18;refine (wC (by have := Ig (p:=p) (ev p (n:Int)).Loc;omega) _).bind λv20 h20 => .pure ?_;rw [decide_eq_false_iff_not,h20,Ii];exact ⟨λe _=>Decidable.not_not.1 e,λe=>Decidable.not_not.2 (e hrd)⟩
    have := e.r n (by omega);have h0:v=false:=hv.2 λhrd=>by
     rw [if_pos hrd] at this;exact this.1
    rw [h0] at h
    cases h
   refine .gdD ⟨by omega,hk⟩ (PE.bind (P:=λb:Bool=>b=false↔((ev p (n:Int)).Reads=false->x.1.getD n default = -1)) (.bif (λhrd => .gdD ⟨by omega,by omega⟩ (.pure ?_)) λhrd => .pure ⟨λ_ e=>by simp [e] at hrd,λ_=>rfl⟩) λv23 h23=>?_)
   ·have hrd:(ev p (n:Int)).Reads=false:=by simpa using hrd
    show (x.1.getD n default != -1)=false↔_;rw [bne_eq_false_iff_eq];exact ⟨λe _=>e,λe=>e hrd⟩
   refine PE.bind (P:=λb:Bool=>b=false↔v23=false/\x.1.getD n default≠n) (.bif (λh => .pure ⟨λe=>(by cases e),λe=>by rw [h] at e;exact absurd e.1 (by decide)⟩) λh => .gdD ⟨by omega,by omega⟩ (.pure ?_)) λv26 h26 => .bif (λh => .pure ⟨λe=>(by cases e),λe=>?_⟩) λh => .pure ?_
   ·show (x.1.getD n default==(n:Int))=false↔_;rw [beq_eq_false_iff_ne];exact ⟨λe=>⟨h,e⟩,λe=>e.2⟩
   ·have hc:=e.r n (by omega);have h0:v26=false:=h26.2 (by
     cases hrd:(ev p (n:Int)).Reads with
     | true=>
      rw [if_pos hrd] at hc;exact ⟨h23.2 λe=>(by rw [hrd] at e;cases e),hc.2⟩
     | false=>
      rw [if_neg (by rw [hrd];decide)] at hc;exact ⟨h23.2 λ_=>hc,by rw [hc];omega⟩)
    rw [h0] at h
    cases h
   obtain ⟨g1,g2⟩:=h26.1 h;have g3:=h23.1 g1;have key:if (ev p (n:Int)).Reads=true then x.1.getD n default∈PG p (ev p (n:Int)).Loc/\x.1.getD n default≠n else x.1.getD n default = -1:=by
    by_cases hrd:(ev p (n:Int)).Reads=true
    ·rw [if_pos hrd];exact ⟨hin hrd,g2⟩
    rw [if_neg hrd];exact g3 (by simpa using hrd)
   exact key
  by_cases ej:j=n
  ·subst ej;exact hn
  exact n3 j (by omega)
 refine PE.sum (PS:=λ_=>∀ l:Nat,l<3->(x.2.getD l default).Perm (PG p (l:Int))/\(x.2.getD l default).getD 0 default=l) (PW:=λb=>b=true↔Chk p x) ?_ λ_ hod => .pure ⟨λ_=>⟨hf,ho,hr,hod⟩,λ_=>rfl⟩;refine PE.loop (λz=>∃ n:Nat,n<=3/\z=(n:Int)/\∀ l:Nat,l<n->(x.2.getD l default).Perm (PG p (l:Int))/\(x.2.getD l default).getD 0 default=l) (λz=>(3-z).toNat) ⟨0,by omega,rfl,λl hl=>absurd hl (by omega)⟩ λz ⟨n,n1,n2,n3⟩ => ?_;subst n2;unfold o6;simp only [tnn];refine .bifD (λhk => .gdD ⟨by omega,by omega⟩ ((vw hp _).bind λv38 h38=>?_)) λhk => .pure λl hl=>n3 l (by omega);have h38:v38=PG p (n:Int):=h38;subst h38;obtain ⟨t,ht⟩:=Fu (p:=p) (l:=n) (by omega);have hwl:=Ig (p:=p) (n:Int);refine (Gp (l:=x.2.getD n default) (by have := hx _ (getD_in (show n<x.2.length by omega));omega) (Ia _) (by omega) (by rw [ht];simp)).bind λv39 h39 => .bif (λh => .pure ⟨λe=>(by cases e),λe=>?_⟩) λh => .gdI (by omega) (.pure ⟨⟨n+1,by omega,rfl,λl hl=>?_⟩,by omega⟩)
 ·obtain ⟨g1,g2⟩:=e.ords n (by omega);have : v39=true:=h39.2 ⟨g1,by rw [g2,ht];rfl⟩;rw [this] at h
  cases h
 by_cases el:l=n
 ·subst el;obtain ⟨g1,g2⟩:=h39.1 (by simpa using h);exact ⟨g1,by rw [g2,ht];rfl⟩
 exact n3 l (by omega)
theorem Cg {l:LI} (h:l.length<=4000000):PE (aG l) (· = l):=by
 unfold aG
 cases l with
 | nil=>exact .of (v:=[]) (by show nilK true (some ([]:LI)) (some [])=some [];unfold nilK;exact if_pos rfl) rfl
 | cons a l=>exact (PE.gd (aI (by simp at h ⊢;omega) rfl) (.pure (by simp)):PE (gd (bF (([]:LI).length+(a::l).length) 8) (some (([]:LI)++a::l))) (· = a::l))
end
section
variable {N:Nat} {f g:Int->Int->Bool}
theorem EO (i:Nat) (h:Int->Int->Bool) (hi:∀ j k:Nat,j<N->k<N->h j k=if j=i then g i k else f j k):(PI N f).set i ((PF (λk=>g (i:Int) (k:Int)) N:Nat):Int)=PI N h:=by
 unfold PI;rw [CQ];refine fF λj hj=>?_
 by_cases e:j=i
 ·subst e;rw [if_pos rfl];exact congrArg (λn:Nat=>(n:Int)) (da λk hk=>((hi j k hj hk).trans (if_pos rfl)).symm)
 rw [if_neg e];exact congrArg (λn:Nat=>(n:Int)) (da λk hk=>((hi j k hj hk).trans (if_neg e)).symm)
theorem Ij (hN:N<=16):PE (j5 (PI N f)) (· = PI N λi k=>f k i):=by
 unfold j5;refine (nD hN).bind λv hv=>?_;subst hv;refine .bif (λh=>by cases h) λ_=>?_;rw [bu];exact PE.bind (P:=(· = PI N λi k=>f k i)) (DX (by omega) (is:=λi k=>lM i k (PI N f)) λi k hi hk=>(lT (by omega) hk hi).bind λv hv => .pure hv) λv hv => .pure hv
def Bv (f g:Int->Int->Bool) (M:Nat) (i k:Int):Bool:=(Uv M).any λm=>f i (m:Int)&&g (m:Int) k
theorem wG (M:Nat) (i k:Int):Bv f g (M+1) i k=(Bv f g M i k||(f i (M:Int)&&g (M:Int) k)):=by
 unfold Bv;rw [UB,List.any_append];simp
theorem Ik (hN:N<=16):PE (j6 (PI N f) (PI N g)) (· = PI N (Bv f g N)):=by
 unfold j6;refine (Ie hN).bind λv hv=>?_;subst hv;refine .bif (λh=>by cases h) λ_=>?_;refine .gdD ⟨by omega,by omega,by rw [bu];omega,by rw [bu];omega⟩ (PE.bind (P:=(· = PI N (Bv f g N))) ?_ λv hv => .pure hv);have e0:Ut ((PI N f).length:Int).toNat (default:Int)=PI N λi k=>decide (i<(0:Nat))&&Bv f g N i k:=by
  rw [bu,tnn,zO];refine fF λi hi=>?_;rw [da (g:=λ_=>false) λk hk=>by show (decide ((i:Int)<((0:Nat):Int))&&_)=false;rw [decide_eq_false (by omega)];rfl,zQ]
  rfl
 rw [e0];refine PE.loop (λz=>∃ i:Nat,i<=N/\z=(PI N (λj k=>decide (j<(i:Int))&&Bv f g N j k),(i:Int))) (λz=>((N:Int)-z.2).toNat) ⟨0,by omega,rfl⟩ λz ⟨i,h1,h2⟩ => ?_;subst h2;unfold kC;simp only [bu];refine .bifD (λhk=>?_) λhk => .pure ?_
 ·refine PE.bind (P:=(· = PI N (λj k=>decide (j<((i+1:Nat):Int))&&Bv f g N j k))) ?_ λv hv => .gdI (by omega) (.pure ⟨⟨i+1,by omega,by rw [hv];rfl⟩,by simp only [];omega⟩);refine PE.loop (λz=>∃ m:Nat,m<=N/\z=(PI N (λj k=>if j=(i:Int) then Bv f g m j k else decide (j<(i:Int))&&Bv f g N j k),(m:Int))) (λz=>((N:Int)-z.2).toNat) ⟨0,by omega,congrArg (λl=>(l,(0:Int))) (kM λj k hj hk=>?_)⟩ λz ⟨m,m1,m2⟩ => ?_
  ·by_cases e:(j:Int)=(i:Int)
   ·rw [if_pos e,decide_eq_false (by omega)];rfl
   rw [if_neg e]
  subst m2;unfold ji;simp only [bu];refine .bifD (λhkk=>?_) λhkk => .pure (kM λj k hj hk=>?_)
  ·refine PE.bind (P:=(· = PI N (λj k=>if j=(i:Int) then Bv f g (m+1) j k else decide (j<(i:Int))&&Bv f g N j k))) ?_ λv hv => .gdI (by omega) (.pure ⟨⟨m+1,by omega,by rw [hv];rfl⟩,by simp only [];omega⟩);refine (lT (by omega) (i:=i) (k:=m) (by omega) (by omega)).bind λv hv => .bif (λhb=>?_) λhb => .pure (kM λj k hj hk=>?_)
   ·simp only [tnn];refine .gdD ⟨by omega,by omega⟩ (.gdD ⟨by omega,by omega⟩ (.pure ?_));rw [iR (by omega),iR (by omega),ru (bC (by omega)) (bC (by omega)),BX];refine EO (g:=λj k=>(if j=(i:Int) then Bv f g m j k else decide (j<(i:Int))&&Bv f g N j k)||g (m:Int) k) i _ λj k hj hk=>?_;rw [hv] at hb
    by_cases e:j=i
    ·subst e;rw [if_pos rfl,if_pos rfl,if_pos rfl,wG,hb,Ur]
    rw [if_neg (by omega),if_neg (by omega),if_neg (by omega)]
   rw [hv] at hb
   by_cases e:(j:Int)=(i:Int)
   ·rw [if_pos e,if_pos e,wG,e,hb];simp
   rw [if_neg e,if_neg e]
  have : m=N:=by omega
  subst this
  by_cases e:(j:Int)=(i:Int)
  ·rw [if_pos e,decide_eq_true (by omega)];rfl
  rw [if_neg e]
  congr 1
  exact decide_eq_decide.2 (by omega)
 have : i=N:=by omega
 subst this;exact kM λj k hj hk=>by rw [decide_eq_true (by omega)];rfl
def PK (f:Int->Int->Bool):Nat->Int->Int->Bool
 | 0=>f
 | m+1=>λi k=>PK f m i k||(PK f m i (m:Int)&&PK f m (m:Int) k)
theorem Il (m:Nat) (k:Int):PK f (m+1) (m:Int) k=PK f m (m:Int) k:=by
 show (PK f m (m:Int) k||(PK f m (m:Int) (m:Int)&&PK f m (m:Int) k))=_
 cases PK f m (m:Int) k <;> simp
theorem JI (hN:N<=16) {m:Nat} (hk:m<N):PE (loopO (fu (PI N (PK f m),(m:Int))) (PI N (PK f m),(0:Int))) (· = PI N (PK f (m+1))):=by
 refine PE.loop (λz=>∃ i:Nat,i<=N/\z=(PI N (λj k=>if j<(i:Int) then PK f (m+1) j k else PK f m j k),(i:Int))) (λz=>((N:Int)-z.2).toNat) ⟨0,by omega,congrArg (λl=>(l,(0:Int))) (kM (g:=λj k=>if j<((0:Nat):Int) then PK f (m+1) j k else PK f m j k) λj k _ _=>(if_neg (by omega)).symm)⟩ λz ⟨i,i1,i2⟩ => ?_;subst i2;unfold fu;simp only [bu];refine .bifD (λhkk=>?_) λhkk => .pure (kM λj k hj _=>by rw [if_pos (by omega)]);refine PE.bind (P:=(· = PI N (λj k=>if j<((i+1:Nat):Int) then PK f (m+1) j k else PK f m j k))) ?_ λv hv => .gdI (by omega) (.pure ⟨⟨i+1,by omega,by rw [hv];rfl⟩,by simp only [];omega⟩);refine (lT (by omega) (i:=i) (k:=m) (by omega) (by omega)).bind λv hv=>?_;rw [if_neg (by omega)] at hv;refine .bif (λhb=>?_) λhb => .pure (kM λj k hj hk=>?_)
 ·simp only [tnn];refine .gdD ⟨by omega,by omega⟩ (.gdD ⟨by omega,by omega⟩ (.pure ?_));rw [iR (by omega),iR (by omega),ru (bC (by omega)) (bC (by omega)),BX];have e1:PF (λj=>(if (i:Int)<(i:Int) then PK f (m+1) (i:Int) (j:Int) else PK f m (i:Int) (j:Int))||(if (m:Int)<(i:Int) then PK f (m+1) (m:Int) (j:Int) else PK f m (m:Int) (j:Int))) N=PF (λk=>PK f (m+1) (i:Int) (k:Int)) N:=da λk hk=>by
   rw [if_neg (by omega),Il];rw [hv] at hb;show _=(PK f m (i:Int) (k:Int)||(PK f m (i:Int) (m:Int)&&PK f m (m:Int) (k:Int)));rw [hb];simp
  rw [e1];refine EO (g:=PK f (m+1)) i _ λj k hj hk=>?_
  by_cases e:j=i
  ·subst e;rw [if_pos (by omega),if_pos rfl]
  rw [if_neg e]
  by_cases e2:(j:Int)<(i:Int)
  ·rw [if_pos e2,if_pos (by omega)]
  rw [if_neg e2,if_neg (by omega)]
 by_cases e:(j:Int)<(i:Int)
 ·rw [if_pos e,if_pos (by omega)]
 rw [if_neg e]
 by_cases e2:j=i
 ·subst e2;rw [if_pos (by omega)];rw [hv] at hb;show _=(PK f m (j:Int) (k:Int)||(PK f m (j:Int) (m:Int)&&PK f m (m:Int) (k:Int)));rw [hb];simp
 rw [if_neg (by omega)]
theorem DZ (hN:N<=16):PE (gF (PI N f)) (· = PI N (PK f N)):=by
 unfold gF;refine (nD hN).bind λv hv=>?_;subst hv;refine .bif (λh=>by cases h) λ_=>(Cg (by rw [bu];omega)).bind λv3 h3=>?_;subst h3;refine PE.bind (P:=(· = PI N (PK f N))) ?_ λv hv => .pure hv;refine PE.loop (λz=>∃ m:Nat,m<=N/\z=(PI N (PK f m),(m:Int))) (λz=>((N:Int)-z.2).toNat) ⟨0,by omega,rfl⟩ λz ⟨m,h1,h2⟩ => ?_;subst h2;unfold jh;simp only [bu];refine .bifD (λhk=>?_) λhk => .pure ?_
 ·exact PE.bind (P:=(· = PI N (PK f (m+1)))) (JI hN (by omega)) λv hv => .gdI (by omega) (.pure ⟨⟨m+1,by omega,by rw [hv];rfl⟩,by simp only [];omega⟩)
 have : m=N:=by omega
 subst this
 rfl
def uV (N:Nat) (f:Int->Int->Bool):Bool:=(Uv N).all λi => !f (i:Int) (i:Int)
theorem D5:uV N f=true↔∀ i:Nat,i<N->f i i=false:=by
 unfold uV;rw [List.all_eq_true];exact ⟨λh i hi=>by simpa using h i (Ux.2 hi),λh i hi=>by simp [h i (Ux.1 hi)]⟩
theorem EP (hN:N<=16):PE (dz (PI N f)) (· = uV N f):=by
 unfold dz;refine PE.sum (PS:=λ_=>∀ i:Nat,i<N->f i i=false) (PW:=(· = uV N f)) ?_ λ_ h => .pure (D5.2 h).symm;refine PE.loop (λz=>∃ i:Nat,i<=N/\z=(i:Int)/\∀ j:Nat,j<i->f j j=false) (λz=>((N:Int)-z).toNat) ⟨0,by omega,rfl,λj hj=>absurd hj (by omega)⟩ λz ⟨i,h1,h2,h3⟩ => ?_;subst h2;unfold mI;simp only [bu];refine .bifD (λhk=>(lT (by omega) (i:=i) (k:=i) (by omega) (by omega)).bind λv hv => .bif (λhb => .pure ?_) λhb => .gdI (by omega) (.pure ⟨⟨i+1,by omega,rfl,λj hj=>?_⟩,by omega⟩)) λhk => .pure λj hj=>h3 j (by omega)
 ·show false=_
  symm
  rw [Bool.eq_false_iff];intro hl;have := D5.1 hl i (by omega);rw [<- hv,hb] at this
  cases this
 by_cases e:j=i
 ·subst e;rw [<- hv];exact hb
 exact h3 j (by omega)
theorem Im (hN:N<=16):PE (kg (PI N f)) (· = uV N (PK f N)):=by
 unfold kg;refine (nD hN).bind λv hv=>?_;subst hv;exact PE.bind (P:=(· = uV N (PK f N))) (.bif (λ_=>(DZ hN).bind λv hv=>by subst hv;exact (EP hN).bind λw hw => .pure hw) λh=>by cases h) λv hv => .pure hv
end
def EQ (base:ByteArray->Int->Int->Bool) (N:Nat) (op:Int) (nm:ByteArray) (rs:List (Int->Int->Bool)):Int->Int->Bool:=
 if op=1 then base nm else
 let a:=rs.getD 0 λ_ _=>false;let b:=rs.getD 1 λ_ _=>false
 if op=6 then λi k=>a k i else if op=7 then PK a N else
 if op=2 then λi k=>a i k||b i k else if op=3 then λi k=>a i k&&b i k else if op=4 then λi k=>a i k && !b i k else Bv a b N
mutual
def yK (base:ByteArray->Int->Int->Bool) (N:Nat):TXimpl_RelExpr->Int->Int->Bool
 | .mk op nm ks=>EQ base N op nm (uF base N ks)
def uF (base:ByteArray->Int->Int->Bool) (N:Nat):List TXimpl_RelExpr->List (Int->Int->Bool)
 | []=>[]
 | t::l=>yK base N t::uF base N l
end
mutual
def VT:TXimpl_RelExpr->Prop
 | .mk op nm ks=>(op=1/\nm∈zL)\/((op=6\/op=7)/\ks.length=1/\VL ks)\/((op=2\/op=3\/op=4\/op=5)/\ks.length=2/\VL ks)
def VL:List TXimpl_RelExpr->Prop
 | []=>True
 | t::l=>VT t/\VL l
end
theorem Ks {α:Type} {l:List α} (h:l.length=1):∃ a,l=[a]:=by
 match l,h with
 | [a],_=>exact ⟨a,rfl⟩
theorem Kt {α:Type} {l:List α} (h:l.length=2):∃ a b,l=[a,b]:=by
 match l,h with
 | [a,b],_=>exact ⟨a,b,rfl⟩
section
variable {p:List (List Px)} {x:Py} {N:Nat} {base:ByteArray->Int->Int->Bool}
def EvT (p:List (List Px)) (x:Py) (N:Nat) (base:ByteArray->Int->Int->Bool) (d:Nat) (t:TXimpl_RelExpr):Prop:=∀ m,d<m->PE (bY m p x t.out) (· = PI N (yK base N t))
mutual
theorem MZ (hN:N<=16) (hb:∀ nm∈zL,PE (gQ p x nm) (· = PI N (base nm))):∀ t:TXimpl_RelExpr,VT t->∃ d,EvT p x N base d t
 | .mk op nm ks,h=>by
  rw [VT] at h;rcases h with ⟨h1,h2⟩ | ⟨h1,h2,h3⟩ | ⟨h1,h2,h3⟩
  ·refine ⟨0,λm hm=>?_⟩;obtain ⟨m,rfl⟩:∃ q,m=q+1:=⟨m-1,by omega⟩;show PE (bX (bY m) p x ⟨op,nm,ks⟩) _;unfold bX;simp only [];subst h1;refine .bif (λ_=>(hb nm h2).bind λv hv => .pure ?_) λh=>absurd h (by decide);rw [hv,yK,EQ,if_pos rfl]
  ·obtain ⟨d,hd⟩:=Lu hN hb ks h3;obtain ⟨a,rfl⟩:=Ks h2;refine ⟨d+1,λm hm=>?_⟩;obtain ⟨m,rfl⟩:∃ q,m=q+1:=⟨m-1,by omega⟩;have ha:=hd a (by simp) m (by omega);show PE (bX (bY m) p x ⟨op,nm,[a]⟩) _;unfold bX;simp only [];refine .bif (λh=>absurd (eq_of_beq h) (by omega)) λ_ => .gdD ⟨by decide,by simp⟩ (ha.bind λv hv=>?_);subst hv;rcases h1 with rfl | rfl
   ·refine .bif (λ_=>(Ij hN).bind λv hv => .pure ?_) λh=>absurd h (by decide);rw [hv,yK,uF,uF,EQ,if_neg (by decide),if_pos rfl]
    rfl
   refine .bif (λh=>absurd h (by decide)) λ_ => .bif (λ_=>(DZ hN).bind λv hv => .pure ?_) λh=>absurd h (by decide);rw [hv,yK,uF,uF,EQ,if_neg (by decide),if_neg (by decide),if_pos rfl]
   rfl
  obtain ⟨d,hd⟩:=Lu hN hb ks h3;obtain ⟨a,b,rfl⟩:=Kt h2;refine ⟨d+1,λm hm=>?_⟩;obtain ⟨m,rfl⟩:∃ q,m=q+1:=⟨m-1,by omega⟩;have ha:=hd a (by simp) m (by omega);have hbb:=hd b (by simp) m (by omega);show PE (bX (bY m) p x ⟨op,nm,[a,b]⟩) _;unfold bX;simp only [];refine .bif (λh=>absurd (eq_of_beq h) (by omega)) λ_ => .gdD ⟨by decide,by simp⟩ (ha.bind λv hv=>?_);subst hv;refine .bif (λh=>absurd (eq_of_beq h) (by omega)) λ_ => .bif (λh=>absurd (eq_of_beq h) (by omega)) λ_ => .gdD ⟨by decide,by simp⟩ (hbb.bind λw hw=>?_);subst hw;rcases h1 with rfl | rfl | rfl | rfl
  ·refine .bif (λ_=>(Ls hN).bind λv hv => .pure ?_) λh=>absurd h (by decide);rw [hv,yK,uF,uF,uF,EQ,if_neg (by decide),if_neg (by decide),if_neg (by decide),if_pos rfl]
   rfl
  ·refine .bif (λh=>absurd h (by decide)) λ_ => .bif (λ_=>(MW hN).bind λv hv => .pure ?_) λh=>absurd h (by decide);rw [hv,yK,uF,uF,uF,EQ,if_neg (by decide),if_neg (by decide),if_neg (by decide),if_neg (by decide),if_pos rfl]
   rfl
  ·refine .bif (λh=>absurd h (by decide)) λ_ => .bif (λh=>absurd h (by decide)) λ_ => .bif (λ_=>(Lt hN).bind λv hv => .pure ?_) λh=>absurd h (by decide);rw [hv,yK,uF,uF,uF,EQ,if_neg (by decide),if_neg (by decide),if_neg (by decide),if_neg (by decide),if_neg (by decide),if_pos rfl]
   rfl
  refine .bif (λh=>absurd h (by decide)) λ_ => .bif (λh=>absurd h (by decide)) λ_ => .bif (λh=>absurd h (by decide)) λ_=>(Ik hN).bind λv hv => .pure ?_;rw [hv,yK,uF,uF,uF,EQ,if_neg (by decide),if_neg (by decide),if_neg (by decide),if_neg (by decide),if_neg (by decide),if_neg (by decide)]
  rfl
theorem Lu (hN:N<=16) (hb:∀ nm∈zL,PE (gQ p x nm) (· = PI N (base nm))):∀ l:List TXimpl_RelExpr,VL l->∃ d,∀ t∈l,EvT p x N base d t
 | [],_=>⟨0,λt h=>by cases h⟩
 | t::l,h=>by
  rw [VL] at h;obtain ⟨d1,h1⟩:=MZ hN hb t h.1;obtain ⟨d2,h2⟩:=Lu hN hb l h.2;refine ⟨max d1 d2,λu hu=>?_⟩;rcases UJ.1 hu with rfl | hu
  ·exact λm hm=>h1 m (by omega)
  exact λm hm=>h2 u hu m (by omega)
end
theorem M0 (hN:N<=16) (hb:∀ nm∈zL,PE (gQ p x nm) (· = PI N (base nm))) {t:TXimpl_RelExpr} (h:VT t):PE (qZ p x t.out) (· = PI N (yK base N t)):=by
 obtain ⟨d,hd⟩:=MZ hN hb t h;exact kx d hd
end
theorem Io {l:LI} (hl:l.length<=4000000) (n:Int):PE (bZ l n) (· = plc l n):=by
 unfold bZ;refine PE.sum (PS:=λ_=>n∉l) (PW:=(· = plc l n)) ?_ λ_ hn => .pure (by unfold plc;rw [if_neg hn]);refine PE.loop (λz=>∃ i:Nat,i<=l.length/\z=(i:Int)/\∀ j,j<i->l.getD j default≠n) (λz=>((l.length:Int)-z).toNat) ⟨0,by omega,rfl,λj hj=>by omega⟩ λz ⟨i,h1,h2,h3⟩ => ?_;subst h2;unfold kI;refine .bifD (λhk => .gdD ⟨by omega,hk⟩ (.bif (λhe => .pure ?_) λhe => .gdI (by omega) (.pure ⟨⟨i+1,by omega,rfl,λj hj=>?_⟩,by omega⟩))) λhk => .pure ?_
 ·simp only [tnn,beq_iff_eq] at he;have hi:i<l.length:=by omega
  have hm:n∈l:=by rw [he];exact kL hi
  show (i:Int)=plc l n;unfold plc;rw [if_pos hm]
  congr 1
  have h4:=UV hm;rcases Nat.lt_trichotomy i (l.idxOf n) with h5 | h5 | h5
  ·exfalso;have : l.idxOf n<=i:=by
    have e:l=l.take i++l.drop i:=(List.take_append_drop i l).symm;rw [e,List.idxOf_append]
    split
    ·have := UV (by assumption:n∈l.take i);rw [UW] at this;omega
    rw [UO hi,show l[i]=n by rw [he,gdq,geq hi];rfl,List.idxOf_cons_self,UW];omega
   omega
  ·exact h5
  exact absurd (zM hm) (h3 _ h5)
 ·simp only [tnn,beq_eq_false_iff_ne] at he;rcases Nat.lt_or_ge j i with h | h
  ·exact h3 j h
  rw [show j=i by omega];exact λe=>he e.symm
 intro hm;have h4:=UV hm;exact h3 (l.idxOf n) (by omega) (zM hm)
def m5 (e:Pz) (w:Bool):Bool:=(e.az==w) && !(e.Reads==w)
theorem FA (e:Pz) (w:Bool):PE (cu e w) (· = m5 e w):=by
 unfold cu;exact PE.bind (P:=(· = m5 e w)) (.bif (λh => .pure (by unfold m5;rw [h];rfl)) λh => .pure (by unfold m5;rw [h];rfl)) λv hv => .pure hv
def Eg (l:List Px):Bool:=l.any λy=>y.Op==4
theorem M3 {l:List Px} (hl:l.length<=4000000):PE (aA l) (· = Eg l):=by
 unfold aA aR;refine PE.bind (P:=λv:Int=>(0<=v↔Eg l=true)) ?_ λv hv => .pure ?_
 ·refine PE.sum (PS:=λ_=>Eg l=false) (PW:=λv:Int=>(0<=v↔Eg l=true)) ?_ λ_ hn => .pure (by rw [hn];simp);refine PE.loop (λz=>∃ i:Nat,i<=l.length/\z=(i:Int)/\∀ j,j<i->((l.getD j default).Op==4)=false) (λz=>((l.length:Int)-z).toNat) ⟨0,by omega,rfl,λj hj=>by omega⟩ λz ⟨i,h1,h2,h3⟩ => ?_;subst h2;unfold bv qi;simp only [tnn];refine .bifD (λhk => .gdD ⟨by omega,hk⟩ (PE.bind (P:=(· = ((l.getD i default).Op==4))) (.pure rfl) λv hv => .bif (λhe => .pure ⟨λ_=>?_,λ_=>by omega⟩) λhe => .gdI (by omega) (.pure ⟨⟨i+1,by omega,rfl,λj hj=>?_⟩,by omega⟩))) λhk => .pure ?_
  ·unfold Eg;rw [List.any_eq_true];exact ⟨l.getD i default,getD_in (by omega),by rw [<- hv];exact he⟩
  ·by_cases e:j=i
   ·subst e;rw [<- hv];exact he
   exact h3 j (by omega)
  show Eg l=false;unfold Eg;rw [List.any_eq_false];intro y hy;obtain ⟨j,hj,rfl⟩:=UI hy;have := h3 j (by omega);rw [gdq,geq hj] at this;rw [show l[j]=(some l[j]).getD default from rfl,this]
  decide
 show decide ((0:Int)<=v)=Eg l
 cases h:Eg l with
 | true=>exact decide_eq_true (hv.2 h)
 | false=>exact decide_eq_false λe=>by rw [hv.1 e] at h;cases h
section
variable {p:List (List Px)} {x:XS} {F:LI}
def JJ (p:List (List Px)) (i k:Int):Bool:=poB p i k&&Eg (((p.getD (ev p i).Thread.toNat default).drop (ev p i).Index.toNat).take ((ev p k).Index.toNat-(ev p i).Index.toNat))
def OY (p:List (List Px)) (i k:Int):Bool:=decide ((ev p i).Loc=(ev p k).Loc)
def Mm (p:List (List Px)) (i k:Int):Bool:=decide ((ev p i).Thread≠(ev p k).Thread)||decide ((ev p i).Thread<0)
def nmR (p:List (List Px)) (x:XS) (nm:ByteArray):Int->Int->Bool:=
 if nm=⟨#[112,111]⟩ then poB p else if nm=⟨#[108,111,99]⟩ then OY p else if nm=⟨#[101,120,116]⟩ then Mm p else if nm=⟨#[114,102]⟩ then rfB p x else
 if nm=⟨#[99,111]⟩ then coB p x else if nm=⟨#[102,114]⟩ then frB p x else if nm=⟨#[102,101,110,99,101]⟩ then JJ p else
 if nm=⟨#[119,114]⟩ then (λi k=>m5 (ev p i) true&&m5 (ev p k) false) else if nm=⟨#[119,119]⟩ then (λi k=>m5 (ev p i) true&&m5 (ev p k) true) else λi k=>decide (i=k)
theorem Ip {l:LI} {n:Int}:0<=plc l n↔n∈l:=by
 unfold plc
 split
 ·rename_i h;exact ⟨λ_=>h,λ_=>by omega⟩
 rename_i h;exact ⟨λe=>by omega,λe=>absurd e h⟩
theorem FB (hX:XOk p x) {l:Int} (hl:0<=l/\l<=2) (i k:Int):PE (dw ⟨x.1,x.2⟩ l i k) (· = (decide (i∈od x l)&&decide (k∈od x l)&&decide (plc (od x l) i<plc (od x l) k))):=by
 unfold dw;refine .gdD ⟨hl.1,by simp only [];rw [hX.o];omega⟩ ((Io (hX.r _) i).bind λv hv=>(Io (hX.r _) k).bind λw hw=>?_);change v=plc (od x l) i at hv;change w=plc (od x l) k at hw;subst hv hw;refine PE.bind (P:=(· = (decide (i∈od x l)&&decide (k∈od x l)))) (.bifD (λh => .pure ?_) λh => .pure ?_) λv hv=>PE.bind (P:=(· = (decide (i∈od x l)&&decide (k∈od x l)&&decide (plc (od x l) i<plc (od x l) k)))) (.bif (λh => .pure ?_) λh => .pure ?_) λv hv => .pure hv
 ·rw [decide_eq_true (Ip.1 h),Ur];exact decide_eq_decide.2 Ip
 ·rw [decide_eq_false λe=>h (Ip.2 e)]
  rfl
 ·rw [<- hv,h,Ur]
 rw [<- hv,h,UK]
theorem M4 (hp:PV p) (C:Cand p x F) {i k:Nat} (hi:i<(evs p).length) (hk:k<(evs p).length) (nm:ByteArray) (hn:nm∈zL):PE (pV p ⟨x.1,x.2⟩ (evs p) nm (i:Int) (k:Int)) (· = nmR p x nm i k):=by
 have ei:(evs p).getD i default=ev p (i:Int):=by unfold ev;rw [tnn]
 have ek:(evs p).getD k default=ev p (k:Int):=by unfold ev;rw [tnn]
 have hl:=pz hp (n:=(i:Int)) (by omega) (by omega);have hX:=OX hp C;have hiF:(i:Int)∈F:=(C.mem _).2 ⟨by omega,by omega⟩;have hkF:(k:Int)∈F:=(C.mem _).2 ⟨by omega,by omega⟩;unfold pV;simp only [tnn,ei,ek];refine .gdD ⟨by omega,by omega⟩ (.gdD ⟨by omega,by omega⟩ (PE.bind (P:=(· = (decide (0<=(ev p i).Thread)&&decide ((ev p i).Thread=(ev p k).Thread)))) (.bifD (λh => .pure ?_) λh => .pure ?_) λsame hs=>PE.bind (P:=(· = poB p i k)) (.bif (λh => .pure ?_) λh => .pure ?_) λpo hpo=>?_))
 ·rw [decide_eq_true h,Ur];exact CM _ _
 ·rw [decide_eq_false h];rfl
 ·unfold poB;rw [Bool.and_comm (decide ((ev p i).Thread=(ev p k).Thread)),<- hs,h,Ur]
 ·unfold poB;rw [Bool.and_comm (decide ((ev p i).Thread=(ev p k).Thread)),<- hs,h,UK]
 subst hpo;clear hs;have hn':nm=⟨#[112,111]⟩\/nm=⟨#[108,111,99]⟩\/nm=⟨#[101,120,116]⟩\/nm=⟨#[114,102]⟩\/nm=⟨#[99,111]⟩\/nm=⟨#[102,114]⟩\/nm=⟨#[102,101,110,99,101]⟩\/nm=⟨#[119,114]⟩\/nm=⟨#[119,119]⟩\/nm=⟨#[105,100]⟩:=by
  simpa [zL] using hn
 rcases hn' with rfl | rfl | rfl | rfl | rfl | rfl | rfl | rfl | rfl | rfl
 ·exact PE.sumR (.bif (λ_ => .pure rfl) λh=>absurd h (by decide))
 ·exact PE.sumR (.bif (λh=>absurd h (by decide)) λ_ => .bif (λ_ => .pure (congrArg Sum.inr (CM _ _))) λh=>absurd h (by decide))
 ·refine PE.sumR (.bif (λh=>absurd h (by decide)) λ_ => .bif (λh=>absurd h (by decide)) λ_ => .bif (λ_=>?_) λh=>absurd h (by decide));refine PE.bind (P:=(· = Mm p i k)) (.bif (λh => .pure ?_) λh => .pure ?_) λv hv => .pure (congrArg Sum.inr hv)
  ·unfold Mm;rw [decide_eq_true (show (ev p i).Thread≠(ev p k).Thread by simpa using h)]
   rfl
  unfold Mm;rw [decide_eq_false (show ¬ (ev p i).Thread≠(ev p k).Thread by simpa using h)]
  rfl
 ·refine PE.sumR (.bif (λh=>absurd h (by decide)) λ_ => .bif (λh=>absurd h (by decide)) λ_ => .bif (λh=>absurd h (by decide)) λ_ => .bif (λ_=>?_) λh=>absurd h (by decide));refine .gdD ⟨by omega,by show _<((x.1.length:Nat):Int);rw [C.flen];omega⟩ (.pure (congrArg Sum.inr ?_));show (x.1.getD k default==(i:Int))=rfB p x i k;unfold rfB;rw [tnn,CM]
  cases hr:(ev p (k:Int)).Reads with
  | true=>rw [Ur]
  | false=>
   have := C.frN _ hkF hr;rw [tnn] at this;rw [this,UK];exact decide_eq_false (by omega)
 ·refine PE.sumR (.bif (λh=>absurd h (by decide)) λ_ => .bif (λh=>absurd h (by decide)) λ_ => .bif (λh=>absurd h (by decide)) λ_ => .bif (λh=>absurd h (by decide)) λ_ => .bif (λ_=>?_) λh=>absurd h (by decide));refine (FB hX hl i k).bind λv hv => .pure (congrArg Sum.inr ?_);show v=coB p x i k;rw [hv];unfold coB
  congr 1
  have O:=C.ods _ hl;rw [UX];simp only [bae,dte]
  constructor
  ·rintro ⟨h1,h2⟩;exact ⟨⟨((O.mem _).1 h1).2.1,((O.mem _).1 h2).2.1⟩,((O.mem _).1 h2).2.2.symm⟩
  rintro ⟨⟨h1,h2⟩,h3⟩;exact ⟨(O.mem _).2 ⟨hiF,h1,rfl⟩,(O.mem _).2 ⟨hkF,h2,h3.symm⟩⟩
 ·refine PE.sumR (.bif (λh=>absurd h (by decide)) λ_ => .bif (λh=>absurd h (by decide)) λ_ => .bif (λh=>absurd h (by decide)) λ_ => .bif (λh=>absurd h (by decide)) λ_ => .bif (λh=>absurd h (by decide)) λ_ => .bif (λ_=>?_) λh=>absurd h (by decide));refine PE.bind (P:=(· = frB p x i k)) (.bif (λh1 => .bif (λh2 => .bif (λh3 => .gdD ⟨by omega,by show _<((x.1.length:Nat):Int);rw [C.flen];omega⟩ ((FB hX hl _ _).bind λv hv => .pure ?_)) λh3 => .pure ?_) λh2 => .pure ?_) λh1 => .pure ?_) λv hv => .pure (congrArg Sum.inr hv)
  ·have h3 : ¬ (i:Int)=(k:Int):=by simpa using h3
   have O:=C.ods _ hl;rw [hv];unfold frB;have hrd:=C.rdc _ hiF h1;rw [tnn] at hrd ⊢;rw [h1,h2,decide_eq_false h3,decide_eq_true hrd];simp only [Bool.and_self,Ur,Bool.not_false,Bool.and_true]
   congr 1
   refine decide_eq_decide.2 ⟨λh=>((O.mem _).1 h).2.2.symm,λh=>(O.mem _).2 ⟨hkF,h2,h.symm⟩⟩
  ·have h3:(i:Int)=(k:Int):=by simpa using h3
   unfold frB;rw [decide_eq_true h3];simp
  ·unfold frB;rw [h2];simp
  unfold frB;rw [h1];simp
 ·refine PE.sumR (.bif (λh=>absurd h (by decide)) λ_ => .bif (λh=>absurd h (by decide)) λ_ => .bif (λh=>absurd h (by decide)) λ_ => .bif (λh=>absurd h (by decide)) λ_ => .bif (λh=>absurd h (by decide)) λ_ => .bif (λh=>absurd h (by decide)) λ_ => .bif (λ_=>?_) λh=>absurd h (by decide));refine PE.bind (P:=(· = JJ p i k)) (.bif (λh=>?_) λh => .pure (by unfold JJ;rw [h];rfl)) λv hv => .pure (congrArg Sum.inr hv);have hpo:=h;unfold poB at h;simp only [bae,dte] at h;obtain ⟨⟨h1,h2⟩,h3⟩:=h;rcases wB (p:=p) (n:=(k:Int)) (by omega) (by omega) with hc | ⟨t,q,hI,e⟩
  ·exfalso;have : (ev p (k:Int)).Thread = -1:=by
    rw [show (k:Int)=((k:Nat):Int) from rfl,(xJ (p:=p) (l:=k) (by omega)).1]
   omega
  rcases wB (p:=p) (n:=(i:Int)) (by omega) (by omega) with hc | ⟨t',q',hI',e'⟩
  ·exfalso;have : (ev p (i:Int)).Thread = -1:=by
    rw [(xJ (p:=p) (l:=i) (by omega)).1]
   omega
  have a1:=(hI.ev (p:=p)).1;have a2:=(hI'.ev (p:=p)).1;rw [<- e] at a1;rw [<- e'] at a2;rw [a1,a2] at h1 h3;simp only at h1 h3;have ht:t'=t:=by omega
  subst ht;have hlen:=hI.k;refine .gdD ⟨by rw [a2];simp only [];omega,by rw [a2];simp only [];have := hI'.t;omega⟩ (.gdD ⟨by rw [a2];simp only [];omega,by rw [a1,a2];simp only [];omega,by rw [a1,a2];simp only [];rw [tnn];omega⟩ ((M3 ?_).bind λv hv => .pure ?_))
  ·have := hp.vs.2 t';rw [a2];simp only [UW,List.length_drop,tnn];omega
  rw [hv];unfold JJ;rw [hpo,Ur]
 ·refine PE.sumR (.bif (λh=>absurd h (by decide)) λ_ => .bif (λh=>absurd h (by decide)) λ_ => .bif (λh=>absurd h (by decide)) λ_ => .bif (λh=>absurd h (by decide)) λ_ => .bif (λh=>absurd h (by decide)) λ_ => .bif (λh=>absurd h (by decide)) λ_ => .bif (λh=>absurd h (by decide)) λ_ => .bif (λ_=>?_) λh=>absurd h (by decide));refine (FA _ _).bind λv hv=>PE.bind (P:=(· = (m5 (ev p i) true&&m5 (ev p k) false))) (.bif (λh=>(FA _ _).bind λw hw => .pure ?_) λh => .pure ?_) λv hv => .pure (congrArg Sum.inr hv)
  ·have e:m5 (ev p i) true=true:=hv.symm.trans h;show w=(m5 (ev p i) true&&m5 (ev p k) false);rw [e];exact hw
  have e:m5 (ev p i) true=false:=hv.symm.trans h;show false=(m5 (ev p i) true&&m5 (ev p k) false);rw [e]
  rfl
 ·refine PE.sumR (.bif (λh=>absurd h (by decide)) λ_ => .bif (λh=>absurd h (by decide)) λ_ => .bif (λh=>absurd h (by decide)) λ_ => .bif (λh=>absurd h (by decide)) λ_ => .bif (λh=>absurd h (by decide)) λ_ => .bif (λh=>absurd h (by decide)) λ_ => .bif (λh=>absurd h (by decide)) λ_ => .bif (λh=>absurd h (by decide)) λ_ => .bif (λ_=>?_) λh=>absurd h (by decide));refine (FA _ _).bind λv hv=>PE.bind (P:=(· = (m5 (ev p i) true&&m5 (ev p k) true))) (.bif (λh=>(FA _ _).bind λw hw => .pure ?_) λh => .pure ?_) λv hv => .pure (congrArg Sum.inr hv)
  ·have e:m5 (ev p i) true=true:=hv.symm.trans h;show w=(m5 (ev p i) true&&m5 (ev p k) true);rw [e];exact hw
  have e:m5 (ev p i) true=false:=hv.symm.trans h;show false=(m5 (ev p i) true&&m5 (ev p k) true);rw [e]
  rfl
 refine PE.sum (PS:=λ_=>True) (PW:=(· = nmR p x ⟨#[105,100]⟩ i k)) (.bif (λh=>absurd h (by decide)) λ_ => .bif (λh=>absurd h (by decide)) λ_ => .bif (λh=>absurd h (by decide)) λ_ => .bif (λh=>absurd h (by decide)) λ_ => .bif (λh=>absurd h (by decide)) λ_ => .bif (λh=>absurd h (by decide)) λ_ => .bif (λh=>absurd h (by decide)) λ_ => .bif (λh=>absurd h (by decide)) λ_ => .bif (λh=>absurd h (by decide)) λ_ => .pure trivial) λ_ _ => .pure (CM _ _)
theorem Oi (hp:PV p) (C:Cand p x F) {nm:ByteArray} (hn:nm∈zL):PE (gQ p ⟨x.1,x.2⟩ nm) (· = PI (evs p).length (nmR p x nm)):=by
 have hel:=jo hp.vs;unfold gQ;refine (AA hp.vs).bind λv1 h1=>?_;subst h1;exact PE.bind (P:=(· = PI (evs p).length (nmR p x nm))) (DX (by omega) (is:=λi k=>qY i k p ⟨x.1,x.2⟩ (evs p) nm) λi k hi hk=>(M4 hp C hi hk nm hn).bind λv hv => .pure hv) λv hv => .pure hv
theorem Ku (hv:bB (PH p)=true):(evs p).length<=15:=by
 have h1:=AB (p:=p) (λe=>decide (0<=e.Thread)||true) uH (λt k x ho=>by simp [uH,lu,ho]) (λx ho=>by simp [uH,lu,ho]);rw [show (ev0.filter λe=>decide (0<=e.Thread)||true).length=3 from rfl,List.filter_eq_self.2 (λa _=>by simp)] at h1;simp only [bB,rH,bae,dte] at hv;have := hv.1.1.2;omega
end
section
variable {N:Nat} {f g:Int->Int->Bool}
theorem Gq (hN:N<=60) {i k:Nat} (hi:i<N) (hk:k<N):PE (fe (PI N f) (i:Int) (k:Int)) (· = f i k):=lT (f:=f) hN hi hk
theorem zR {q:Nat->Int} {step:List Int×Int->Option ((List Int×Int) ⊕ LI)} (hs:∀ i:Nat,i<N->PE (step (tab i q,(i:Int))) (· = .inl (tab (i+1) q,((i+1:Nat):Int))))
  (he:PE (step (tab N q,(N:Int))) (· = .inr (tab N q))):PE (loopO step (([]:LI),(0:Int))) (· = tab N q):=by
 refine PE.loop (λz=>∃ i:Nat,i<=N/\z=(tab i q,(i:Int))) (λz=>((N:Int)-z.2).toNat) ⟨0,by omega,rfl⟩ λz ⟨i,h1,h2⟩ => ?_;subst h2
 by_cases h:i<N
 ·refine (hs i h).mono λv hv=>?_;subst hv;exact ⟨⟨i+1,by omega,rfl⟩,by simp only [];omega⟩
 obtain rfl:i=N:=by omega
 exact he.mono λv hv=>by subst hv;rfl
theorem Lv (hN:N<=16):PE (nL (PI N f) (PI N g)) (· = PI N λi k=>f i k||g i k):=by
 unfold nL;refine PE.bind (P:=(· = PI N λi k=>f i k||g i k)) (zR (λi hi=>?_) ?_) λv hv => .pure hv
 ·unfold jV;simp only [bu,tnn];refine .bifD (λ_ => .gdD ⟨by omega,by omega⟩ (.gdD ⟨by omega,by omega⟩ (.gd (aI (by rw [ub];omega) rfl) (.gdI (by omega) (.pure ?_))))) λh=>absurd (show (i:Int)<(N:Int) by omega) h;rw [iR hi,iR hi,ru (bC (by omega)) (bC (by omega)),BX,zP]
  rfl
 unfold jV;simp only [bu];exact .bifD (λh=>absurd h (UL _)) λ_ => .pure rfl
theorem M5 (hN:N<=16):PE (pQ (PI N f) (PI N g)) (· = PI N λi k=>f i k&&g i k):=by
 unfold pQ;refine PE.bind (P:=(· = PI N λi k=>f i k&&g i k)) (zR (λi hi=>?_) ?_) λv hv => .pure hv
 ·unfold kT;simp only [bu,tnn];refine .bifD (λ_ => .gdD ⟨by omega,by omega⟩ (.gdD ⟨by omega,by omega⟩ (.gd (aI (by rw [ub];omega) rfl) (.gdI (by omega) (.pure ?_))))) λh=>absurd (show (i:Int)<(N:Int) by omega) h;rw [iR hi,iR hi,CS (bC (by omega)) (bC (by omega)),Ic,zP]
  rfl
 unfold kT;simp only [bu];exact .bifD (λh=>absurd h (UL _)) λ_ => .pure rfl
theorem Lx (hN:N<=16):PE (nM (PI N f) (PI N g)) (· = PI N λi k=>f i k && !g i k):=by
 unfold nM;refine PE.bind (P:=(· = PI N λi k=>f i k && !g i k)) (zR (λi hi=>?_) ?_) λv hv => .pure hv
 ·unfold jX;simp only [bu,tnn];refine .bifD (λ_ => .gdD ⟨by omega,by omega⟩ (.gdD ⟨by omega,by omega⟩ (.gd (aI (by rw [ub];omega) rfl) (.gdI (by omega) (.pure ?_))))) λh=>absurd (show (i:Int)<(N:Int) by omega) h;rw [iR hi,iR hi,DY _ _ (by omega),zP]
  rfl
 unfold jX;simp only [bu];exact .bifD (λh=>absurd h (UL _)) λ_ => .pure rfl
theorem Iq (hN:N<=16):PE (kU (PI N f) (PI N g)) (· = PI N (Bv f g N)):=by
 unfold kU;refine PE.bind (P:=(· = PI N (Bv f g N))) (zR (λi hi=>?_) ?_) λv hv => .pure hv
 ·unfold ia;simp only [bu];refine .bifD (λ_=>PE.bind (P:=(· = tab (i+1) λi=>((PF (λk=>Bv f g N (i:Int) (k:Int)) N:Nat):Int))) (PE.bind (P:=(· = ((PF (λk=>Bv f g N (i:Int) (k:Int)) N:Nat):Int))) ?_ λv hv => .gd (aI (by rw [ub];omega) rfl) (.pure (by rw [zP,hv]))) λv hv => .gdI (by omega) (.pure (by rw [hv];rfl))) λh=>absurd (show (i:Int)<(N:Int) by omega) h;refine PE.loop (λz=>∃ m:Nat,m<=N/\z=((m:Int),((PF (λk=>Bv f g m (i:Int) (k:Int)) N:Nat):Int))) (λz=>((N:Int)-z.1).toNat) ⟨0,by omega,?_⟩ λz ⟨m,m1,m2⟩ => ?_
  ·exact congrArg (λn:Nat=>((0:Int),(n:Int))) ((da (g:=λ_=>false) λk hk=>rfl).trans (zQ N)).symm
  subst m2;unfold o8;simp only [bu];refine .bifD (λhk=>?_) λhk => .pure (by rw [show m=N by omega]);refine PE.bind (P:=(· = ((PF (λk=>Bv f g (m+1) (i:Int) (k:Int)) N:Nat):Int))) ((Gq (by omega) hi (show m<N by omega)).bind λv hv => .bif (λhb => .gdD ⟨by omega,by omega⟩ (.pure ?_)) λhb => .pure ?_) λv hv => .gdI (by omega) (.pure ⟨⟨m+1,by omega,by rw [hv];rfl⟩,by simp only [];omega⟩)
  ·rw [tnn,iR (by omega),ru (bC (by omega)) (bC (by omega)),BX];refine congrArg (λn:Nat=>(n:Int)) (da λk _=>?_);rw [wG,<- hv,hb,Ur]
  refine congrArg (λn:Nat=>(n:Int)) (da λk _=>?_);rw [wG,<- hv,hb,UK,Bool.or_false]
 unfold ia;simp only [bu];exact .bifD (λh=>absurd h (UL _)) λ_ => .pure rfl
theorem Ir (hN:N<=16):PE (kS (PI N f)) (· = PI N λi k=>f k i):=by
 unfold kS;rw [bu];refine .gdD ⟨by omega,by omega,by omega,by omega⟩ (PE.bind (P:=(· = PI N λi k=>f k i)) ?_ λv hv => .pure hv);rw [tnn,zO];refine PE.loop (λz=>∃ i:Nat,i<=N/\z=(tab N (λj=>((PF (λm=>f (m:Int) (j:Int)) i:Nat):Int)),(i:Int))) (λz=>((N:Int)-z.2).toNat) ⟨0,by omega,rfl⟩ λz ⟨i,h1,h2⟩ => ?_;subst h2;unfold lG;simp only [bu];refine .bifD (λhk=>?_) λhk => .pure (by rw [show i=N by omega];rfl);refine PE.bind (P:=(· = tab N (λj=>((PF (λm=>f (m:Int) (j:Int)) (i+1):Nat):Int)))) ?_ λv hv => .gdI (by omega) (.pure ⟨⟨i+1,by omega,by rw [hv];rfl⟩,by simp only [];omega⟩);refine PE.loop (λz=>∃ k:Nat,k<=N/\z=(tab N (λj=>((PF (λm=>f (m:Int) (j:Int)) (if j<k then i+1 else i):Nat):Int)),(k:Int))) (λz=>((N:Int)-z.2).toNat) ⟨0,by omega,congrArg (λl=>(l,(0:Int))) (fF λj _=>by rw [if_neg (by omega)])⟩ λz ⟨k,k1,k2⟩ => ?_;subst k2;unfold kz;simp only [bu,ub];refine .bifD (λhkk=>?_) λhkk => .pure (fF λj hj=>by rw [if_pos (by omega)]);refine PE.bind (P:=(· = tab N (λj=>((PF (λm=>f (m:Int) (j:Int)) (if j<k+1 then i+1 else i):Nat):Int)))) ((Gq (by omega) (show i<N by omega) (show k<N by omega)).bind λv hv => .bif (λhb => .gdD ⟨by omega,by omega⟩ (.gdD (by omega) (.pure ?_))) λhb => .pure ?_) λv hv => .gdI (by omega) (.pure ⟨⟨k+1,by omega,by rw [hv];rfl⟩,by simp only [];omega⟩)
 ·rw [tnn,EN (by omega),if_neg (by omega),zN (by omega),ru (bC (by omega)) (by have := UT (a:=2) (by omega) (show i<63 by omega);omega),CQ];refine fF λj _=>?_
  by_cases e:j=k
  ·subst e;rw [if_pos rfl,if_pos (by omega),PF,if_pos (by rw [<- hv];exact hb)]
  rw [if_neg e]
  by_cases e2:j<k
  ·rw [if_pos e2,if_pos (by omega)]
  rw [if_neg e2,if_neg (by omega)]
 refine fF λj _=>?_
 by_cases e:j=k
 ·subst e;rw [if_neg (by omega),if_pos (by omega),PF,if_neg (by rw [<- hv,hb];decide)]
 by_cases e2:j<k
 ·rw [if_pos e2,if_pos (by omega)]
 rw [if_neg e2,if_neg (by omega)]
theorem Iu (hN:N<=16) {m:Nat} (hk:m<N):PE (loopO (f7 (PI N (PK f m),(m:Int))) (PI N (PK f m),(0:Int))) (· = PI N (PK f (m+1))):=by
 refine PE.loop (λz=>∃ i:Nat,i<=N/\z=(PI N (λj k=>if j<(i:Int) then PK f (m+1) j k else PK f m j k),(i:Int))) (λz=>((N:Int)-z.2).toNat) ⟨0,by omega,congrArg (λl=>(l,(0:Int))) (kM (g:=λj k=>if j<((0:Nat):Int) then PK f (m+1) j k else PK f m j k) λj k _ _=>(if_neg (by omega)).symm)⟩ λz ⟨i,i1,i2⟩ => ?_;subst i2;unfold f7;simp only [bu];refine .bifD (λhkk=>?_) λhkk => .pure (kM λj k hj _=>by rw [if_pos (by omega)]);refine PE.bind (P:=(· = PI N (λj k=>if j<((i+1:Nat):Int) then PK f (m+1) j k else PK f m j k))) ?_ λv hv => .gdI (by omega) (.pure ⟨⟨i+1,by omega,by rw [hv];rfl⟩,by simp only [];omega⟩);refine (Gq (by omega) (i:=i) (k:=m) (by omega) (by omega)).bind λv hv=>?_;rw [if_neg (by omega)] at hv;refine .bif (λhb=>?_) λhb => .pure (kM λj k hj hk=>?_)
 ·simp only [tnn];refine .gdD ⟨by omega,by omega⟩ (.gdD ⟨by omega,by omega⟩ (.pure ?_));rw [iR (by omega),iR (by omega),ru (bC (by omega)) (bC (by omega)),BX];have e1:PF (λj=>(if (i:Int)<(i:Int) then PK f (m+1) (i:Int) (j:Int) else PK f m (i:Int) (j:Int))||(if (m:Int)<(i:Int) then PK f (m+1) (m:Int) (j:Int) else PK f m (m:Int) (j:Int))) N=PF (λk=>PK f (m+1) (i:Int) (k:Int)) N:=da λk hk=>by
   rw [if_neg (by omega),Il];rw [hv] at hb;show _=(PK f m (i:Int) (k:Int)||(PK f m (i:Int) (m:Int)&&PK f m (m:Int) (k:Int)));rw [hb];simp
  rw [e1];refine EO (g:=PK f (m+1)) i _ λj k hj hk=>?_
  by_cases e:j=i
  ·subst e;rw [if_pos (by omega),if_pos rfl]
  rw [if_neg e]
  by_cases e2:(j:Int)<(i:Int)
  ·rw [if_pos e2,if_pos (by omega)]
  rw [if_neg e2,if_neg (by omega)]
 by_cases e:(j:Int)<(i:Int)
 ·rw [if_pos e,if_pos (by omega)]
 rw [if_neg e]
 by_cases e2:j=i
 ·subst e2;rw [if_pos (by omega)];rw [hv] at hb;show _=(PK f m (j:Int) (k:Int)||(PK f m (j:Int) (m:Int)&&PK f m (m:Int) (k:Int)));rw [hb];simp
 rw [if_neg (by omega)]
theorem D6 (hN:N<=16):PE (iC (PI N f)) (· = PI N (PK f N)):=by
 unfold iC;refine .gd (aI (by rw [bu];simp;omega) rfl) (PE.bind (P:=(· = PI N (PK f N))) ?_ λv hv => .pure hv);rw [List.nil_append];refine PE.loop (λz=>∃ m:Nat,m<=N/\z=(PI N (PK f m),(m:Int))) (λz=>((N:Int)-z.2).toNat) ⟨0,by omega,rfl⟩ λz ⟨m,h1,h2⟩ => ?_;subst h2;unfold lH;simp only [bu];refine .bifD (λhk=>?_) λhk => .pure (by rw [show m=N by omega]);refine PE.bind (P:=(· = PI N (PK f (m+1)))) (Iu hN (by omega)) λv hv => .gdI (by omega) (.pure ⟨⟨m+1,by omega,by rw [hv];rfl⟩,by simp only [];omega⟩)
theorem Iv (hN:N<=16):PE (nN (PI N f)) (· = uV N f):=EP hN
theorem Iw (hN:N<=16):PE (kV (PI N f)) (· = uV N (PK f N)):=by
 unfold kV;exact (D6 hN).bind λv hv=>by subst hv;exact (Iv hN).bind λw hw => .pure hw
def Iy (N:Nat) (f:Int->Int->Bool):Bool:=(Uv N).all λi=>(Uv N).all λk => !f (i:Int) (k:Int)
theorem FC:Iy N f=true↔∀ i:Nat,i<N->∀ k:Nat,k<N->f i k=false:=by
 unfold Iy;simp only [List.all_eq_true,Ux,Bool.not_eq_true']
theorem Ly (hN:N<=16):PE (nO (PI N f)) λn=>(n==0)=Iy N f:=by
 unfold nO;refine PE.bind (P:=λn:Int=>n=0↔∀ i:Nat,i<N->∀ k:Nat,k<N->f i k=false) ?_ λv hv => .pure (by rw [UX,FC,beq_iff_eq];exact hv);refine PE.loop (λz=>∃ i:Nat,i<=N/\z.1=(i:Int)/\0<=z.2/\z.2<=(i:Int)*16/\(z.2=0↔∀ j:Nat,j<i->∀ k:Nat,k<N->f j k=false)) (λz=>((N:Int)-z.1).toNat) ⟨0,by omega,rfl,by simp,by simp,by simp⟩ λz ⟨i,h1,h2,h3,h4,h5⟩ => ?_;obtain ⟨zi,zn⟩:=z;simp only at h2 h3 h4 h5;subst h2;unfold rM;simp only [bu];refine .bifD (λhk=>?_) λhk => .pure (show (zn=0↔_) from (show i=N by omega) ▸ h5);refine PE.bind (P:=λn:Int=>0<=n/\n<=((i:Int)+1)*16/\(n=0↔(zn=0/\∀ k:Nat,k<N->f i k=false))) ?_ λv ⟨v1,v2,v3⟩ => .gdI (by omega) (.pure ⟨⟨i+1,by omega,by simp,v1,by simp only [];omega,?_⟩,by simp only [];omega⟩)
 ·refine PE.loop (λz=>∃ k:Nat,k<=N/\z.1=(k:Int)/\zn<=z.2/\z.2<=zn+(k:Int)/\(z.2=0↔(zn=0/\∀ q:Nat,q<k->f i q=false))) (λz=>((N:Int)-z.1).toNat) ⟨0,by omega,rfl,by simp,by simp,by simp⟩ λz ⟨k,k1,k2,k3,k4,k5⟩ => ?_;obtain ⟨zk,zm⟩:=z;simp only at k2 k3 k4 k5;subst k2;unfold qL;simp only [bu];refine .bifD (λhkk=>?_) λhkk => .pure ⟨by omega,by omega,show (zm=0↔_) from (show k=N by omega) ▸ k5⟩;refine PE.bind (P:=λm:Int=>zn<=m/\m<=zn+(k:Int)+1/\(m=0↔(zn=0/\∀ q:Nat,q<k+1->f i q=false))) ((Gq (by omega) (show i<N by omega) (show k<N by omega)).bind λv hv => .bif (λhb => .gdI (by omega) (.pure ⟨by omega,by omega,λh=>by omega,λ⟨_,h⟩ => ?_⟩)) λhb => .pure ⟨by omega,by omega,λh=>⟨(k5.1 h).1,λq hq=>?_⟩,λ⟨g1,g2⟩=>k5.2 ⟨g1,λq hq=>g2 q (by omega)⟩⟩) λv ⟨v1,v2,v3⟩ => .gdI (by omega) (.pure ⟨⟨k+1,by omega,by simp,v1,by simp only [];omega,v3⟩,by simp only [];omega⟩)
  ·have := h k (by omega);rw [<- hv,hb] at this
   cases this
  by_cases e:q=k
  ·subst e;rw [<- hv];exact hb
  exact (k5.1 h).2 q (by omega)
 simp only [];rw [v3,h5]
 constructor
 ·rintro ⟨g1,g2⟩ j hj k hkn
  by_cases e:j=i
  ·subst e;exact g2 k hkn
  exact g1 j (by omega) k hkn
 exact λg=>⟨λj hj=>g j (by omega),λk hk=>g i (by omega) k hk⟩
end
theorem D7 {a b:Nat} (ha:a<4294967296) (hb:b<18446744073709551616):eF .u64 (a:Int) (b:Int)=((a&&&b:Nat):Int):=by
 have hle:(a&&&b)<=a:=Uz;show IntKind.wrap .u64 (((Us 64 (a:Int)&&&Us 64 (b:Int)).toNat:Nat):Int)=_;have h1:(Us 64 (a:Int)).toNat=a:=by rw [UC,UD];omega
 have h2:(Us 64 (b:Int)).toNat=b:=by rw [UC,UD];omega
 rw [BitVec.toNat_and,h1,h2];show ((a&&&b:Nat):Int) % 18446744073709551616=_;omega
theorem Ch (a k:Nat) (hk:k<=64):jw .u64 (a:Int) (k:Int)=((a / 2 ^ k:Nat):Int):=by
 show (a:Int).fdiv (2 ^ (min (k:Int).toNat 64))=_;have hm:min (k:Int).toNat 64=k:=by omega
 rw [hm,show (2:Int) ^ k=((2 ^ k:Nat):Int) by simp,U1 _ (Int.natCast_nonneg _)]
 rfl
def pcA (x:Nat):Nat:=(x / 2&&&6148914691236517205)+(x&&&6148914691236517205)
def pcB (a:Nat):Nat:=(a / 4&&&3689348814741910323)+(a&&&3689348814741910323)
def pcC (b:Nat):Nat:=b / 16+b&&&1085102592571150095
def pcD (c:Nat):Nat:=let d:=c+c / 256;let e:=d+d / 65536;e+e / 4294967296&&&127
def pc (x:Nat):Nat:=pcD (pcC (pcB (pcA x)))
def Oj (x:Nat):Bool:=Nat.ble (pc x) 16&&((pc x==0)==(x==0))
def M6:Nat->Nat->Bool
 | 0,b=>Oj b
 | n+1,b=>M6 n b&&M6 n (b+2 ^ n)
theorem AJ:∀ (n b:Nat),M6 n b=true->∀ x,b<=x->x<b+2 ^ n->Oj x=true
 | 0,b,h,x,h1,h2=>by
  rw [show x=b by omega];exact h
 | n+1,b,h,x,h1,h2=>by
  rw [M6,bae] at h;rw [Nat.pow_succ] at h2
  by_cases e:x<b+2 ^ n
  ·exact AJ n b h.1 x h1 e
  exact AJ n _ h.2 x (by omega) (by omega)
theorem JK:M6 16 0=true:=by decide +kernel
theorem Ol {x:Nat} (h:x<65536):pc x<=16/\(pc x=0↔x=0):=by
 have := AJ 16 0 JK x (Nat.zero_le _) (by omega);unfold Oj at this;rw [bae] at this;refine ⟨nlb this.1,?_⟩;have h2:=this.2
 by_cases e:x=0
 ·subst e;exact ⟨λ_=>rfl,λ_=>by simpa using h2⟩
 constructor
 ·intro e2;rw [e2] at h2;simp [e] at h2
 exact λe2=>absurd e2 e
theorem inU {n:Nat} (h:n<4294967296):Pv .u64 (n:Int)=true:=MK ⟨by omega,by omega⟩
theorem JL {x:Nat} (h:x<65536):PE (fw (x:Int)) (· = (pc x:Int)):=by
 unfold fw ig;refine PE.bind (P:=(· = (pc x:Int))) ?_ λv hv => .pure hv;have a1:eF .u64 (jw .u64 (x:Int) (1:Int)) (6148914691236517205:Int)+eF .u64 (x:Int) (6148914691236517205:Int)=((pcA x:Nat):Int):=by
  rw [show jw .u64 (x:Int) (1:Int)=((x / 2:Nat):Int) from Ch x 1 (by omega),show (6148914691236517205:Int)=((6148914691236517205:Nat):Int) from rfl,D7 (by omega) (by omega),D7 (by omega) (by omega)]
  rfl
 have a2:pcA x<131072:=by
  have h1:(x / 2&&&6148914691236517205)<=x / 2:=Uz;have h2:(x&&&6148914691236517205)<=x:=Uz;unfold pcA;omega
 generalize hA:pcA x=A at a1 a2;have b1:eF .u64 (jw .u64 (A:Int) (2:Int)) (3689348814741910323:Int)+eF .u64 (A:Int) (3689348814741910323:Int)=((pcB A:Nat):Int):=by
  rw [show jw .u64 (A:Int) (2:Int)=((A / 4:Nat):Int) from Ch A 2 (by omega),show (3689348814741910323:Int)=((3689348814741910323:Nat):Int) from rfl,D7 (by omega) (by omega),D7 (by omega) (by omega)]
  rfl
 have b2:pcB A<262144:=by
  have h1:(A / 4&&&3689348814741910323)<=A / 4:=Uz;have h2:(A&&&3689348814741910323)<=A:=Uz;unfold pcB;omega
 generalize hB:pcB A=B at b1 b2;have c1:jw .u64 (B:Int) (4:Int)+(B:Int)=((B / 16+B:Nat):Int):=by
  rw [show jw .u64 (B:Int) (4:Int)=((B / 16:Nat):Int) from Ch B 4 (by omega)];omega
 have c2:eF .u64 ((B / 16+B:Nat):Int) (1085102592571150095:Int)=((pcC B:Nat):Int):=by
  rw [show (1085102592571150095:Int)=((1085102592571150095:Nat):Int) from rfl,D7 (by omega) (by omega)]
  rfl
 have c3:pcC B<524288:=by
  have h1:(B / 16+B&&&1085102592571150095)<=B / 16+B:=Uz;unfold pcC;omega
 generalize hC:pcC B=C at c2 c3;have d1:(C:Int)+jw .u64 (C:Int) (8:Int)=((C+C / 256:Nat):Int):=by
  rw [show jw .u64 (C:Int) (8:Int)=((C / 256:Nat):Int) from Ch C 8 (by omega)];omega
 have hp:pc x=pcD C:=by unfold pc;rw [hA,hB,hC]
 have e0:∀ D:Nat,(D:Int)+jw .u64 (D:Int) (16:Int)=((D+D / 65536:Nat):Int):=λD=>by
  rw [show jw .u64 (D:Int) (16:Int)=((D / 65536:Nat):Int) from Ch D 16 (by omega)];omega
 have e1:∀ D:Nat,(D:Int)+jw .u64 (D:Int) (32:Int)=((D+D / 4294967296:Nat):Int):=λD=>by
  rw [show jw .u64 (D:Int) (32:Int)=((D / 4294967296:Nat):Int) from Ch D 32 (by omega)];omega
 rw [a1,b1,c1];refine .gdD (by omega) (.gd (inU (by omega)) (.gdD (by omega) (.gd (inU (by omega)) (.gdD (by omega) (.gd (inU (by omega)) (PE.bind (P:=(· = ((B / 16+B:Nat):Int))) (.pure rfl) λw hw=>?_))))));subst hw;rw [c2,d1,e0,e1];refine .gdD (by omega) (.gd (inU (by omega)) (.gdD (by omega) (.gd (inU (by omega)) (.gdD (by omega) (.gd (inU (by omega)) (.gdI (by omega) (.pure ?_)))))));rw [show (127:Int)=((127:Nat):Int) from rfl,CS (by omega) (by omega),hp]
 rfl
section
variable {N:Nat} {f g:Int->Int->Bool}
theorem JM {q:Nat->Bool} {n:Nat}:PF q n=0↔∀ k,k<n->q k=false:=by
 constructor
 ·intro h k hk;have := kD q n k;rw [h,decide_eq_true hk,Nat.zero_testBit,Ur] at this;exact this.symm
 intro h;rw [da (g:=λ_=>false) h,zQ]
theorem LA (hN:N<=16):PE (mJ (PI N f)) λn=>(n==0)=Iy N f:=by
 unfold mJ;refine (nD hN).bind λv hv=>?_;subst hv;refine .bif (λh=>by cases h) λ_=>?_;refine PE.bind (P:=λn:Int=>n=0↔∀ i:Nat,i<N->∀ k:Nat,k<N->f i k=false) ?_ λv hv => .pure (by rw [UX,FC,beq_iff_eq];exact hv);refine PE.loop (λz=>∃ i:Nat,i<=N/\z.1=(i:Int)/\0<=z.2/\z.2<=(i:Int)*16/\(z.2=0↔∀ j:Nat,j<i->∀ k:Nat,k<N->f j k=false)) (λz=>((N:Int)-z.1).toNat) ⟨0,by omega,rfl,by simp,by simp,by simp⟩ λz ⟨i,h1,h2,h3,h4,h5⟩ => ?_;obtain ⟨zi,zn⟩:=z;simp only at h2 h3 h4 h5;subst h2;unfold qP;simp only [bu,tnn];refine .bifD (λhk=>?_) λhk => .pure (show (zn=0↔_) from (show i=N by omega) ▸ h5);rw [iR (by omega)];have hlt:PF (λk=>f (i:Int) (k:Int)) N<65536:=Nat.lt_of_lt_of_le (Ft _ _) (by have := Nat.pow_le_pow_right (n:=2) (by omega) hN;omega);obtain ⟨p1,p2⟩:=Ol hlt;refine .gdD ⟨by omega,hk⟩ (.gd (inU (by omega)) ((JL hlt).bind λv hv=>?_));subst hv;refine .gdI (by omega) (.gdI (by omega) (.pure ⟨⟨i+1,by omega,by simp,by simp only [];omega,by simp only [];omega,?_⟩,by simp only [];omega⟩));simp only [];have e:zn+(pc (PF (λk=>f (i:Int) (k:Int)) N):Int)=0↔zn=0/\PF (λk=>f (i:Int) (k:Int)) N=0:=by rw [<- p2];omega
 rw [e,h5,JM]
 constructor
 ·rintro ⟨g1,g2⟩ j hj k hkn
  by_cases e:j=i
  ·subst e;exact g2 k hkn
  exact g1 j (by omega) k hkn
 exact λg=>⟨λj hj=>g j (by omega),λk hk=>g i (by omega) k hk⟩
def okK (kind:Int) (N:Nat) (f:Int->Int->Bool):Bool:=if kind=1 then uV N (PK f N) else if kind=2 then uV N f else Iy N f
theorem O9 (hN:N<=16) (kind:Int):PE (kX kind (PI N f)) (· = okK kind N f):=by
 unfold kX okK;refine .bif (λh=>(Im hN).bind λv hv => .pure (by rw [hv,if_pos (eq_of_beq h)])) λh=>?_;rw [if_neg (λe=>by rw [e] at h;cases h)];refine .bif (λh=>(EP hN).bind λv hv => .pure (by rw [hv,if_pos (eq_of_beq h)])) λh=>?_;rw [if_neg (λe=>by rw [e] at h;cases h)];exact (LA hN).bind λv hv => .pure hv
theorem Pb (hN:N<=16) (kind:Int):PE (nP kind (PI N f)) (· = okK kind N f):=by
 unfold nP okK;refine .bif (λh=>(Iw hN).bind λv hv => .pure (by rw [hv,if_pos (eq_of_beq h)])) λh=>?_;rw [if_neg (λe=>by rw [e] at h;cases h)];refine .bif (λh=>(Iv hN).bind λv hv => .pure (by rw [hv,if_pos (eq_of_beq h)])) λh=>?_;rw [if_neg (λe=>by rw [e] at h;cases h)];exact (Ly hN).bind λv hv => .pure hv
end
section
variable {p:List (List Px)} {x:Py} {N:Nat} {base:ByteArray->Int->Int->Bool}
def OZ (p:List (List Px)) (x:Py) (N:Nat) (base:ByteArray->Int->Int->Bool) (d:Nat) (t:TXimpl_RelExpr):Prop:=∀ m,d<m->PE (cQ m p x t.out) (· = PI N (yK base N t))
mutual
theorem Kv (hN:N<=16) (hb:∀ nm∈zL,PE (eZ p x nm) (· = PI N (base nm))):∀ t:TXimpl_RelExpr,VT t->∃ d,OZ p x N base d t
 | .mk op nm ks,h=>by
  rw [VT] at h;rcases h with ⟨h1,h2⟩ | ⟨h1,h2,h3⟩ | ⟨h1,h2,h3⟩
  ·refine ⟨0,λm hm=>?_⟩;obtain ⟨m,rfl⟩:∃ q,m=q+1:=⟨m-1,by omega⟩;show PE (cO (cQ m) p x ⟨op,nm,ks⟩) _;unfold cO;simp only [];subst h1;refine .bif (λ_=>(hb nm h2).bind λv hv => .pure ?_) λh=>absurd h (by decide);rw [hv,yK,EQ,if_pos rfl]
  ·obtain ⟨d,hd⟩:=Iz hN hb ks h3;obtain ⟨a,rfl⟩:=Ks h2;refine ⟨d+1,λm hm=>?_⟩;obtain ⟨m,rfl⟩:∃ q,m=q+1:=⟨m-1,by omega⟩;have ha:=hd a (by simp) m (by omega);show PE (cO (cQ m) p x ⟨op,nm,[a]⟩) _;unfold cO;simp only [];refine .bif (λh=>absurd (eq_of_beq h) (by omega)) λ_ => .gdD ⟨by decide,by simp⟩ (ha.bind λv hv=>?_);subst hv;rcases h1 with rfl | rfl
   ·refine .bif (λ_=>(Ir hN).bind λv hv => .pure ?_) λh=>absurd h (by decide);rw [hv,yK,uF,uF,EQ,if_neg (by decide),if_pos rfl]
    rfl
   refine .bif (λh=>absurd h (by decide)) λ_ => .bif (λ_=>(D6 hN).bind λv hv => .pure ?_) λh=>absurd h (by decide);rw [hv,yK,uF,uF,EQ,if_neg (by decide),if_neg (by decide),if_pos rfl]
   rfl
  obtain ⟨d,hd⟩:=Iz hN hb ks h3;obtain ⟨a,b,rfl⟩:=Kt h2;refine ⟨d+1,λm hm=>?_⟩;obtain ⟨m,rfl⟩:∃ q,m=q+1:=⟨m-1,by omega⟩;have ha:=hd a (by simp) m (by omega);have hbb:=hd b (by simp) m (by omega);show PE (cO (cQ m) p x ⟨op,nm,[a,b]⟩) _;unfold cO;simp only [];refine .bif (λh=>absurd (eq_of_beq h) (by omega)) λ_ => .gdD ⟨by decide,by simp⟩ (ha.bind λv hv=>?_);subst hv;refine .bif (λh=>absurd (eq_of_beq h) (by omega)) λ_ => .bif (λh=>absurd (eq_of_beq h) (by omega)) λ_ => .gdD ⟨by decide,by simp⟩ (hbb.bind λw hw=>?_);subst hw;rcases h1 with rfl | rfl | rfl | rfl
  ·refine .bif (λ_=>(Lv hN).bind λv hv => .pure ?_) λh=>absurd h (by decide);rw [hv,yK,uF,uF,uF,EQ,if_neg (by decide),if_neg (by decide),if_neg (by decide),if_pos rfl]
   rfl
  ·refine .bif (λh=>absurd h (by decide)) λ_ => .bif (λ_=>(M5 hN).bind λv hv => .pure ?_) λh=>absurd h (by decide);rw [hv,yK,uF,uF,uF,EQ,if_neg (by decide),if_neg (by decide),if_neg (by decide),if_neg (by decide),if_pos rfl]
   rfl
  ·refine .bif (λh=>absurd h (by decide)) λ_ => .bif (λh=>absurd h (by decide)) λ_ => .bif (λ_=>(Lx hN).bind λv hv => .pure ?_) λh=>absurd h (by decide);rw [hv,yK,uF,uF,uF,EQ,if_neg (by decide),if_neg (by decide),if_neg (by decide),if_neg (by decide),if_neg (by decide),if_pos rfl]
   rfl
  refine .bif (λh=>absurd h (by decide)) λ_ => .bif (λh=>absurd h (by decide)) λ_ => .bif (λh=>absurd h (by decide)) λ_=>(Iq hN).bind λv hv => .pure ?_;rw [hv,yK,uF,uF,uF,EQ,if_neg (by decide),if_neg (by decide),if_neg (by decide),if_neg (by decide),if_neg (by decide),if_neg (by decide)]
  rfl
theorem Iz (hN:N<=16) (hb:∀ nm∈zL,PE (eZ p x nm) (· = PI N (base nm))):∀ l:List TXimpl_RelExpr,VL l->∃ d,∀ t∈l,OZ p x N base d t
 | [],_=>⟨0,λt h=>by cases h⟩
 | t::l,h=>by
  rw [VL] at h;obtain ⟨d1,h1⟩:=Kv hN hb t h.1;obtain ⟨d2,h2⟩:=Iz hN hb l h.2;refine ⟨max d1 d2,λu hu=>?_⟩;rcases UJ.1 hu with rfl | hu
  ·exact λm hm=>h1 m (by omega)
  exact λm hm=>h2 u hu m (by omega)
end
theorem Kw (hN:N<=16) (hb:∀ nm∈zL,PE (eZ p x nm) (· = PI N (base nm))) {t:TXimpl_RelExpr} (h:VT t):PE (pR p x t.out) (· = PI N (yK base N t)):=by
 obtain ⟨d,hd⟩:=Kv hN hb t h;exact kx d hd
def okM (base:ByteArray->Int->Int->Bool) (N:Nat) (r:ah):Bool:=okK r.Kind N (yK base N r.Expr.inn)
def ER (base:ByteArray->Int->Int->Bool) (N:Nat) (m:List ah) (k:Int):Prop:=
 (k = -1/\∀ r∈m,okM base N r=true)\/∃ i:Nat,k=(i:Int)/\i<m.length/\okM base N (m.getD i default)=false/\∀ j:Nat,j<i->okM base N (m.getD j default)=true
theorem ER.uniq {m:List ah} {k l:Int} (h:ER base N m k) (h':ER base N m l):k=l:=by
 rcases h with ⟨h1,h2⟩ | ⟨i,h1,h2,h3,h4⟩ <;> rcases h' with ⟨g1,g2⟩ | ⟨j,g1,g2,g3,g4⟩
 ·omega
 ·rw [h2 _ (getD_in g2)] at g3;cases g3
 ·rw [g2 _ (getD_in h2)] at h3;cases h3
 have : i=j:=by
  rcases Nat.lt_trichotomy i j with h | h | h
  ·rw [g4 i h] at h3;cases h3
  ·exact h
  rw [h4 j h] at g3;cases g3
 omega
theorem Om (hN:N<=16) (hb:∀ nm∈zL,PE (gQ p x nm) (· = PI N (base nm))) {m:List ah} (hm:∀ r∈m,VT r.Expr.inn) (hl:m.length<=1000):PE (ko p x m) λv=>ER base N m v.1/\(0<=v.1->v.2=PI N (yK base N (m.getD v.1.toNat default).Expr.inn)):=by
 unfold ko;refine PE.sum (PS:=λ_=>∀ r∈m,okM base N r=true) (PW:=λv:Int×LI=>ER base N m v.1/\(0<=v.1->v.2=PI N (yK base N (m.getD v.1.toNat default).Expr.inn))) ?_ λ_ h => .pure ⟨.inl ⟨rfl,h⟩,λh=>absurd h (by decide)⟩;refine PE.loop (λz=>∃ i:Nat,i<=m.length/\z=(i:Int)/\∀ j:Nat,j<i->okM base N (m.getD j default)=true) (λz=>((m.length:Int)-z).toNat) ⟨0,by omega,rfl,λj hj=>absurd hj (by omega)⟩ λz ⟨i,h1,h2,h3⟩ => ?_;subst h2;unfold o9;simp only [tnn];refine .bifD (λhk=>?_) λhk => .pure λr hr=>?_
 ·refine .gdD ⟨by omega,hk⟩ ((M0 hN hb (t:=(m.getD i default).Expr.inn) (hm _ (getD_in (by omega)))).bind λv hv=>?_);subst hv;refine (O9 hN _).bind λw hw => .bif (λhf => .pure ⟨.inr ⟨i,rfl,by omega,?_,h3⟩,λ_=>by simp only [];rw [tnn]⟩) λh => .gdI (by omega) (.pure ⟨⟨i+1,by omega,rfl,λj hj=>?_⟩,by omega⟩)
  ·show okK _ _ _=false;rw [<- hw];simpa using hf
  by_cases e:j=i
  ·subst e;show okK _ _ _=true;rw [<- hw];simpa using h
  exact h3 j (by omega)
 obtain ⟨j,hj,rfl⟩:=UI hr;have := h3 j (by omega);rw [gdq,geq hj] at this;exact this
theorem Oo (hN:N<=16) (hb:∀ nm∈zL,PE (eZ p x nm) (· = PI N (base nm))) {m:List ah} (hm:∀ r∈m,VT r.Expr.inn) (hl:m.length<=1000):PE (mr p x m) (ER base N m):=by
 unfold mr;refine PE.sum (PS:=λ_=>∀ r∈m,okM base N r=true) (PW:=ER base N m) ?_ λ_ h => .pure (.inl ⟨rfl,h⟩);refine PE.loop (λz=>∃ i:Nat,i<=m.length/\z=(i:Int)/\∀ j:Nat,j<i->okM base N (m.getD j default)=true) (λz=>((m.length:Int)-z).toNat) ⟨0,by omega,rfl,λj hj=>absurd hj (by omega)⟩ λz ⟨i,h1,h2,h3⟩ => ?_;subst h2;unfold qM;simp only [tnn];refine .bifD (λhk=>?_) λhk => .pure λr hr=>?_
 ·refine .gdD ⟨by omega,hk⟩ ((Kw hN hb (t:=(m.getD i default).Expr.inn) (hm _ (getD_in (by omega)))).bind λv hv=>?_);subst hv;refine (Pb hN _).bind λw hw => .bif (λhf => .pure (.inr ⟨i,rfl,by omega,?_,h3⟩)) λh => .gdI (by omega) (.pure ⟨⟨i+1,by omega,rfl,λj hj=>?_⟩,by omega⟩)
  ·show okK _ _ _=false;rw [<- hw];simpa using hf
  by_cases e:j=i
  ·subst e;show okK _ _ _=true;rw [<- hw];simpa using h
  exact h3 j (by omega)
 obtain ⟨j,hj,rfl⟩:=UI hr;have := h3 j (by omega);rw [gdq,geq hj] at this;exact this
end
section
variable {N:Nat} {f:Int->Int->Bool}
def uW (f:Int->Int->Bool) (at_:Int) (sn:Nat->Bool) (M:Nat):LI:=((Uv M).filter λ(k:Nat)=>f at_ (k:Int) && !sn k).map λ(k:Nat)=>(k:Int)
def snK (f:Int->Int->Bool) (at_:Int) (sn:Nat->Bool) (M:Nat):Nat->Bool:=λk=>sn k||(decide (k<M)&&f at_ (k:Int))
def ry (l:LI):Int:=l.getD (l.length-1) default
def bfs (N:Nat) (f:Int->Int->Bool) (start:Int):Nat->LL->(Nat->Bool)->LI
 | 0,_,_=>[]
 | _+1,[],_=>[]
 | n+1,a::q,sn=>if f (ry a) start=true then a else bfs N f start n (q++(uW f (ry a) sn N).map λk=>a++[k]) (snK f (ry a) sn N)
theorem uf (at_:Int) (sn:Nat->Bool) (M:Nat):uW f at_ sn (M+1)=uW f at_ sn M++if (f at_ (M:Int) && !sn M)=true then [(M:Int)] else []:=by
 unfold uW;rw [UB,List.filter_append,UH]
 congr 1
 rw [List.filter_cons]
 split <;> rfl
def uns (N:Nat) (sn:Nat->Bool):Nat:=(Uv N).countP λk => !sn k
theorem CV (at_:Int) (sn:Nat->Bool):∀ M:Nat,uns M (snK f at_ sn M)+(uW f at_ sn M).length=uns M sn
 | 0=>rfl
 | M+1=>by
  have ih:=CV at_ sn M;have e1:uns (M+1) (snK f at_ sn (M+1))=uns M (snK f at_ sn M)+if (!(sn M||f at_ (M:Int)))=true then 1 else 0:=by
   unfold uns;rw [UB,List.countP_append]
   congr 1
   ·refine List.countP_congr λk hk=>?_;have hk:=Ux.1 hk;unfold snK;rw [decide_eq_true (show k<M+1 by omega),decide_eq_true hk]
   rw [U3];unfold snK;rw [decide_eq_true (UF M),Ur]
  have e2:uns (M+1) sn=uns M sn+if (!sn M)=true then 1 else 0:=by
   unfold uns;rw [UB,List.countP_append,U3]
  rw [e1,e2,uf,lla]
  cases hs:sn M <;> cases hf:f at_ (M:Int) <;> simp <;> omega
def uJ (N:Nat) (u:Nat) (a:LI):Prop:=0<a.length/\a.length+u<=N+1/\∀ j∈a,0<=j/\j<(N:Int)
theorem uJ.lst {u:Nat} {a:LI} (h:uJ N u a):∃ k:Nat,k<N/\ry a=(k:Int):=by
 have hm:ry a∈a:=kL (by have := h.1;omega);obtain ⟨h0,h1⟩:=h.2.2 _ hm;exact ⟨(ry a).toNat,by omega,by omega⟩
theorem uJ.ext {u v:Nat} {a:LI} (h:uJ N u a) (hv:v+1<=u) {k:Nat} (hk:k<N):uJ N v (a++[(k:Int)]):=by
 refine ⟨by simp,by rw [lla,List.length_singleton];have := h.2.1;omega,λj hj=>?_⟩;rcases List.mem_append.1 hj with hj | hj
 ·exact h.2.2 j hj
 rw [Uw.1 hj];omega
theorem JN {at_:Int} {sn:Nat->Bool} {M:Nat} {k:Int} (h:k∈uW f at_ sn M):∃ j:Nat,j<M/\k=(j:Int):=by
 unfold uW at h;obtain ⟨j,hj,rfl⟩:=UG.1 h;exact ⟨j,Ux.1 (UN.1 hj).1,rfl⟩
theorem CX {a:LI} {q:LL} {sn:Nat->Bool} (h:∀ b∈a::q,uJ N (uns N sn) b):∀ b∈q++(uW f (ry a) sn N).map (λk=>a++[k]),uJ N (uns N (snK f (ry a) sn N)) b:=by
 have hu:=CV (f:=f) (ry a) sn N;intro b hb;rcases List.mem_append.1 hb with hb | hb
 ·have := h b (U2 _ hb);exact ⟨this.1,by have := this.2.1;omega,this.2.2⟩
 obtain ⟨k,hk,rfl⟩:=UG.1 hb;obtain ⟨j,hj,rfl⟩:=JN hk;have : 0<(uW f (ry a) sn N).length:=List.length_pos_of_mem hk;exact (h a Uu).ext (by omega) hj
theorem Ky {start:Int}:∀ (n:Nat) (q:LL) (sn:Nat->Bool),(∀ b∈q,uJ N (uns N sn) b)->bfs N f start n q sn=[]\/uJ N 0 (bfs N f start n q sn)
 | 0,_,_,_ => .inl rfl
 | _+1,[],_,_ => .inl rfl
 | n+1,a::q,sn,h=>by
  rw [bfs]
  split
  ·have := h a Uu;exact .inr ⟨this.1,by have := this.2.1;omega,this.2.2⟩
  exact Ky n _ _ (CX h)
theorem FD {sn:Nat->Bool} (hN:N<=16) {k:Nat} (hk:k<N):(eF .i64 (jw .i64 ((PF sn N:Nat):Int) (k:Int)) (1:Int)==(0:Int)) = !sn k:=by
 rw [Kq (bC (by omega)) (by omega),kD,decide_eq_true hk,Ur]
 cases sn k <;> rfl
theorem FE {sn:Nat->Bool} (hN:N<=16) {k:Nat} (hk:k<N):Pu .i64 ((PF sn N:Nat):Int) (CB .i64 (1:Int) (k:Int))=((PF (λj=>sn j||decide (j=k)) N:Nat):Int):=by
 have h2:2 ^ k<9223372036854775808:=by have := UT (a:=2) (by omega) (show k<63 by omega);omega
 rw [zN (by omega),ru (bC (by omega)) h2];refine congrArg (λn:Nat=>(n:Int)) (UR λj=>?_);rw [Nat.testBit_or,kD,kD,Nat.testBit_two_pow]
 by_cases e:j=k
 ·subst e;simp [hk]
 rw [decide_eq_false (Ne.symm e),decide_eq_false e];simp
theorem FG (a:LI) (h:0<a.length):a.getD ((a.length:Int)-1).toNat default=ry a:=by
 unfold ry
 congr 1
 omega
theorem LB (hN:N<=16) {a:LI} {q:LL} {sn:Nat->Bool} (h:∀ b∈a::q,uJ N (uns N sn) b) (hq:q.length<=1000) (z0:Int) :
  PE (loopO (f8 (PI N f) (a::q,z0)) (a::q,(0:Int),((PF sn N:Nat):Int))) (· = .inl (a::(q++(uW f (ry a) sn N).map λk=>a++[k]),((PF (snK f (ry a) sn N) N:Nat):Int))):=by
 obtain ⟨t,ht,hlt⟩:=(h a Uu).lst;have ha0:=(h a Uu).1;have ha1:=(h a Uu).2.1;have hnl:∀ M,(uW f (ry a) sn M).length<=M:=λM=>by
  unfold uW;rw [llm];exact UY (UU _ _) (by simp)
 refine PE.loop (λz=>∃ k:Nat,k<=N/\z=(a::(q++(uW f (ry a) sn k).map λk=>a++[k]),(k:Int),((PF (snK f (ry a) sn k) N:Nat):Int))) (λz=>((N:Int)-z.2.1).toNat) ⟨0,by omega,?_⟩ λz ⟨k,k1,k2⟩ => ?_
 ·refine UE (by simp [uW]) (UE rfl (congrArg (λn:Nat=>(n:Int)) (da λj _=>?_)));unfold snK;simp
 subst k2;unfold f8;have e0:(a::q).getD ((0:Int).toNat) default=a:=rfl;simp only [bu,e0,FG a ha0];refine .bifD (λhk=>?_) λhk => .pure (by rw [show k=N by omega]);have hkN:k<N:=by omega
 refine PE.bind (P:=λv=>v.1=a::(q++(uW f (ry a) sn (k+1)).map λk=>a++[k])/\v.2=((PF (snK f (ry a) sn (k+1)) N:Nat):Int)) ?_ λv ⟨v1,v2⟩ => .gdI (by omega) (.pure ⟨⟨k+1,by omega,by rw [v1,v2];rfl⟩,by simp only [];omega⟩);rw [hlt];refine (lT (by omega) ht hkN).bind λv hv=>PE.bind (P:=(· = (f (t:Int) (k:Int) && !sn k))) (.bif (λhb => .gdD (by omega) (.pure ?_)) λhb => .pure ?_) λw hw => .bif (λhb=>?_) λhb => .pure ?_
 ·have e1:snK f (t:Int) sn k k=sn k:=by unfold snK;rw [decide_eq_false (UM k)];simp
  rw [FD hN hkN,e1,<- hv,hb,Ur]
 ·rw [<- hv,hb];rfl
 ·refine .gdD (by omega) ((Cg (by omega)).bind λv29 h29=>?_);subst h29;refine .gd (aI (by omega) rfl) (.gd (aI (by rw [llc,lla,llm];have := hnl k;rw [hlt] at this;omega) rfl) (.pure ⟨?_,?_⟩))
  ·simp only [];rw [uf,if_pos (by rw [<- hw];exact hb),UH];simp
  simp only [];rw [FE hN hkN];refine congrArg (λn:Nat=>(n:Int)) (da λj hj=>?_);have hf:f (t:Int) (k:Int)=true:=by
   rw [hw,bae] at hb;exact hb.1
  unfold snK
  by_cases e:j=k
  ·subst e;rw [decide_eq_true (UF j),hf];simp
  by_cases e2:j<k
  ·rw [decide_eq_true e2,decide_eq_true (show j<k+1 by omega),decide_eq_false e];simp
  rw [decide_eq_false e2,decide_eq_false (show ¬ j<k+1 by omega),decide_eq_false e];simp
 refine ⟨?_,?_⟩
 ·simp only [];rw [uf,if_neg (by rw [<- hw,hb];decide),List.append_nil]
 simp only [];refine congrArg (λn:Nat=>(n:Int)) (da λj hj=>?_);rw [hb] at hw;unfold snK
 by_cases e:j=k
 ·subst e;rw [decide_eq_true (UF j),decide_eq_false (UM j)]
  cases hs:sn j
  ·rw [hs] at hw;simp at hw;rw [hw]
   rfl
  rfl
 by_cases e2:j<k
 ·rw [decide_eq_true e2,decide_eq_true (show j<k+1 by omega)]
 rw [decide_eq_false e2,decide_eq_false (show ¬ j<k+1 by omega)]
theorem LC (hN:N<=16) {a:LI} {q:LL} {sn:Nat->Bool} (h:∀ b∈a::q,uJ N (uns N sn) b) (hq:q.length<=1000) (z0:Int) (d:LL) (hd:d.length<=1000) :
  PE (loopO (jY (PI N f) (d++a::q,(d.length:Int),z0)) (d++a::q,(0:Int),((PF sn N:Nat):Int))) (· = .inl (d++a::(q++(uW f (ry a) sn N).map λk=>a++[k]),((PF (snK f (ry a) sn N) N:Nat):Int))):=by
 obtain ⟨t,ht,hlt⟩:=(h a Uu).lst;have ha0:=(h a Uu).1;have ha1:=(h a Uu).2.1;have hnl:∀ M,(uW f (ry a) sn M).length<=M:=λM=>by
  unfold uW;rw [llm];exact UY (UU _ _) (by simp)
 refine PE.loop (λz=>∃ k:Nat,k<=N/\z=(d++a::(q++(uW f (ry a) sn k).map λk=>a++[k]),(k:Int),((PF (snK f (ry a) sn k) N:Nat):Int))) (λz=>((N:Int)-z.2.1).toNat) ⟨0,by omega,?_⟩ λz ⟨k,k1,k2⟩ => ?_
 ·refine UE (by simp [uW]) (UE rfl (congrArg (λn:Nat=>(n:Int)) (da λj _=>?_)));unfold snK;simp
 subst k2;unfold jY;have e0:∀ l:LL,(d++a::l).getD d.length default=a:=λl=>by rw [gdq,gar (Nat.le_refl _),UZ];rfl
 simp only [bu,tnn,e0,FG a ha0,List.nil_append];refine .bifD (λhk=>?_) λhk => .pure (by rw [show k=N by omega]);have hkN:k<N:=by omega
 refine PE.bind (P:=λv=>v.1=d++a::(q++(uW f (ry a) sn (k+1)).map λk=>a++[k])/\v.2=((PF (snK f (ry a) sn (k+1)) N:Nat):Int)) ?_ λv ⟨v1,v2⟩ => .gdI (by omega) (.pure ⟨⟨k+1,by omega,by rw [v1,v2];rfl⟩,by simp only [];omega⟩);rw [hlt];refine (Gq (by omega) ht hkN).bind λv hv=>PE.bind (P:=(· = (f (t:Int) (k:Int) && !sn k))) (.bif (λhb => .gdD (by omega) (.pure ?_)) λhb => .pure ?_) λw hw => .bif (λhb=>?_) λhb => .pure ?_
 ·have e1:snK f (t:Int) sn k k=sn k:=by unfold snK;rw [decide_eq_false (UM k)];simp
  rw [FD hN hkN,e1,<- hv,hb,Ur]
 ·rw [<- hv,hb];rfl
 ·refine .gdD (by omega) (.gdD ⟨by omega,by simp;omega⟩ (.gd (aI (by simp;omega) rfl) (.gd (aI (by omega) rfl) (.gd (aI (by rw [lla,llc,lla,llm];have := hnl k;rw [hlt] at this;omega) rfl) (.pure ⟨?_,?_⟩)))))
  ·simp only [];rw [uf,if_pos (by rw [<- hw];exact hb),UH];simp
  simp only [];rw [FE hN hkN];refine congrArg (λn:Nat=>(n:Int)) (da λj hj=>?_);have hf:f (t:Int) (k:Int)=true:=by
   rw [hw,bae] at hb;exact hb.1
  unfold snK
  by_cases e:j=k
  ·subst e;rw [decide_eq_true (UF j),hf];simp
  by_cases e2:j<k
  ·rw [decide_eq_true e2,decide_eq_true (show j<k+1 by omega),decide_eq_false e];simp
  rw [decide_eq_false e2,decide_eq_false (show ¬ j<k+1 by omega),decide_eq_false e];simp
 refine ⟨?_,?_⟩
 ·simp only [];rw [uf,if_neg (by rw [<- hw,hb];decide),List.append_nil]
 simp only [];refine congrArg (λn:Nat=>(n:Int)) (da λj hj=>?_);rw [hb] at hw;unfold snK
 by_cases e:j=k
 ·subst e;rw [decide_eq_true (UF j),decide_eq_false (UM j)]
  cases hs:sn j
  ·rw [hs] at hw;simp at hw;rw [hw]
   rfl
  rfl
 by_cases e2:j<k
 ·rw [decide_eq_true e2,decide_eq_true (show j<k+1 by omega)]
 rw [decide_eq_false e2,decide_eq_false (show ¬ j<k+1 by omega)]
end
section
variable {N:Nat} {f:Int->Int->Bool}
def unM (N:Nat) (m:Int):Nat:=(Uv N).countP λk => !m.toNat.testBit k
theorem IA (sn:Nat->Bool):unM N ((PF sn N:Nat):Int)=uns N sn:=by
 unfold unM uns;refine List.countP_congr λk hk=>?_;rw [tnn,kD,decide_eq_true (Ux.1 hk),Ur]
theorem IB (sn:Nat->Bool):uns N sn<=N:=by
 unfold uns;exact UY List.countP_le_length (by simp)
def D8 (N:Nat) (f:Int->Int->Bool) (st:Int):LI:=bfs N f st (N+2) [[st]] λ_=>false
theorem CY {st:Nat} (hs:st<N):∀ b∈[[(st:Int)]],uJ N (uns N λ_=>false) b:=λb hb=>by
 rw [Uw.1 hb];have := IB (N:=N) λ_=>false;exact ⟨by simp,by simp;omega,λj hj=>by rw [Uw.1 hj];omega⟩
theorem IC {st:Nat} (hs:st<N):D8 N f st=[]\/uJ N 0 (D8 N f st):=Ky _ _ _ (CY hs)
theorem FH:(0:Int)=((PF (λ_=>false) N:Nat):Int):=by rw [zQ];rfl
theorem LD (hN:N<=16) {st:Nat} (hs:st<N):PE (kY (PI N f) (st:Int)) (· = D8 N f st):=by
 unfold kY;refine PE.sum (PS:=λ_=>D8 N f st=[]) (PW:=(· = D8 N f st)) ?_ λ_ h => .pure h.symm;refine PE.loop (λz=>∃ (q:LL) (sn:Nat->Bool) (n:Nat),z=(q,((PF sn N:Nat):Int))/\(∀ b∈q,uJ N (uns N sn) b)/\q.length+uns N sn<=n/\n<=N+2/\bfs N f st n q sn=D8 N f st) (λz=>z.1.length+unM N z.2)
  ⟨[[(st:Int)]],λ_=>false,N+2,by rw [<- FH],CY hs,by have := IB (N:=N) λ_=>false;simp;omega,Nat.le_refl _,rfl⟩ λz ⟨q,sn,n,e,hok,hn,hn2,hb⟩ => ?_
 subst e;unfold lN;simp only []
 cases q with
 | nil=>
  refine .bifD (λh=>absurd h (by simp)) λ_ => .pure ?_;show D8 N f st=[];rw [<- hb]
  cases n <;> rfl
 | cons a q=>
  obtain ⟨n,rfl⟩:∃ m,n=m+1:=⟨n-1,by simp at hn;omega⟩;obtain ⟨t,ht,hlt⟩:=(hok a Uu).lst;have ha0:=(hok a Uu).1;have ha1:=(hok a Uu).2.1;simp only [llc] at hn;have e0:(a::q).getD ((0:Int).toNat) default=a:=rfl;simp only [e0,FG a ha0];rw [bfs] at hb;refine .bifD (λ_=>?_) λh=>absurd (show (0:Int)<((a::q).length:Int) by rw [llc];omega) h;refine PE.sum (PS:=λs=>s=(a::(q++(uW f (ry a) sn N).map λk=>a++[k]),((PF (snK f (ry a) sn N) N:Nat):Int))/\bfs N f st n (q++(uW f (ry a) sn N).map λk=>a++[k]) (snK f (ry a) sn N)=D8 N f st) ?_ λs ⟨s1,s2⟩ => ?_
  ·refine .gdD ⟨by omega,by rw [llc];omega⟩ (.gdI (by omega) (.gdD ⟨by omega,by omega⟩ ?_));have hrel:=lT (f:=f) (by omega) ht hs;rw [<- hlt] at hrel;refine hrel.bind λv hv => .bif (λh => .gdD (by omega) (.pure ?_)) λh=>?_
   ·rw [if_pos (by rw [<- hv];exact h)] at hb;exact hb
   rw [if_neg (by rw [<- hv,h];decide)] at hb;exact (LB hN hok (by omega) _).mono λv hv=>by subst hv;exact ⟨rfl,hb⟩
  subst s1;have hu:=CV (f:=f) (ry a) sn N;have hl:(q++(uW f (ry a) sn N).map λk=>a++[k]).length=q.length+(uW f (ry a) sn N).length:=by simp
  have hcut:(((a::(q++(uW f (ry a) sn N).map λk=>a++[k])).drop (1:Int).toNat).take (((a::(q++(uW f (ry a) sn N).map λk=>a++[k])).length:Int).toNat-(1:Int).toNat))=q++(uW f (ry a) sn N).map λk=>a++[k]:=by
   show List.take _ (q++_)=_;rw [List.take_of_length_le];rw [llc,hl];omega
  simp only [hcut];refine .gdD ⟨by omega,by rw [llc];omega,by omega⟩ (.pure ⟨⟨_,_,n,rfl,CX hok,by rw [hl];omega,by omega,s2⟩,?_⟩);simp only [IA,hl,llc];omega
theorem LF (hN:N<=16) {st:Nat} (hs:st<N):PE (pU (PI N f) (st:Int)) (· = D8 N f st):=by
 unfold pU;refine PE.sum (PS:=λ_=>D8 N f st=[]) (PW:=(· = D8 N f st)) ?_ λ_ h => .pure h.symm;refine PE.loop (λz=>∃ (d q:LL) (sn:Nat->Bool) (n:Nat),z=(d++q,(d.length:Int),((PF sn N:Nat):Int))/\d.length+n<=N+2/\(∀ b∈q,uJ N (uns N sn) b)/\q.length+uns N sn<=n/\bfs N f st n q sn=D8 N f st) (λz=>(z.1.length-z.2.1.toNat)+unM N z.2.2)
  ⟨[],[[(st:Int)]],λ_=>false,N+2,by rw [<- FH];rfl,by simp,CY hs,by have := IB (N:=N) λ_=>false;simp;omega,rfl⟩ λz ⟨d,q,sn,n,e,hd,hok,hn,hb⟩ => ?_
 subst e;unfold oJ;simp only [tnn]
 cases q with
 | nil=>
  refine .bifD (λh=>absurd h (by simp)) λ_ => .pure ?_;show D8 N f st=[];rw [<- hb]
  cases n <;> rfl
 | cons a q=>
  obtain ⟨n,rfl⟩:∃ m,n=m+1:=⟨n-1,by simp at hn;omega⟩;obtain ⟨t,ht,hlt⟩:=(hok a Uu).lst;have ha0:=(hok a Uu).1;have ha1:=(hok a Uu).2.1;simp only [llc] at hn;have e0:∀ l:LL,(d++a::l).getD d.length default=a:=λl=>by rw [gdq,gar (Nat.le_refl _),UZ];rfl
  simp only [e0,FG a ha0];rw [bfs] at hb;refine .bifD (λ_=>?_) λh=>absurd (show (d.length:Int)<((d++a::q).length:Int) by rw [lla,llc];omega) h;refine PE.sum (PS:=λs=>s=(d++a::(q++(uW f (ry a) sn N).map λk=>a++[k]),((PF (snK f (ry a) sn N) N:Nat):Int))/\bfs N f st n (q++(uW f (ry a) sn N).map λk=>a++[k]) (snK f (ry a) sn N)=D8 N f st) ?_ λs ⟨s1,s2⟩ => ?_
  ·refine .gdD ⟨by omega,by rw [lla,llc];omega⟩ (.gdI (by omega) (.gdD ⟨by omega,by omega⟩ ?_));have hrel:=Gq (f:=f) (by omega) ht hs;rw [<- hlt] at hrel;refine hrel.bind λv hv => .bif (λh => .pure ?_) λh=>?_
   ·rw [if_pos (by rw [<- hv];exact h)] at hb;exact hb
   rw [if_neg (by rw [<- hv,h];decide)] at hb;exact (LC hN hok (by omega) _ d (by omega)).mono λv hv=>by subst hv;exact ⟨rfl,hb⟩
  subst s1;have hu:=CV (f:=f) (ry a) sn N;have hl:(q++(uW f (ry a) sn N).map λk=>a++[k]).length=q.length+(uW f (ry a) sn N).length:=by simp
  refine .gdI (by omega) (.pure ⟨⟨d++[a],_,_,n,?_,by simp;omega,CX hok,by rw [hl];omega,s2⟩,?_⟩)
  ·simp
  simp only [IA,lla,llc,llm];omega
def bst (b v:LI):LI:=if v=[] then b else if b=[] then v else if v.length<b.length then v else b
def D9 (N:Nat) (f:Int->Int->Bool):Nat->LI
 | 0=>[]
 | n+1=>bst (D9 N f n) (D8 N f n)
theorem ES:∀ n:Nat,n<=N->D9 N f n=[]\/uJ N 0 (D9 N f n)
 | 0,_ => .inl rfl
 | n+1,h=>by
  rw [D9,bst]
  split
  ·exact ES n (by omega)
  split
  ·exact IC (by omega)
  split
  ·exact IC (by omega)
  exact ES n (by omega)
theorem M7 (hN:N<=16):PE (kZ (PI N f)) (· = D9 N f N):=by
 unfold kZ;refine (nD hN).bind λv hv=>?_;subst hv;refine .bif (λh=>by cases h) λ_=>PE.bind (P:=(· = D9 N f N)) ?_ λv hv => .pure hv;refine PE.loop (λz=>∃ n:Nat,n<=N/\z=((n:Int),D9 N f n)) (λz=>((N:Int)-z.1).toNat) ⟨0,by omega,rfl⟩ λz ⟨n,n1,n2⟩ => ?_;subst n2;unfold qj;simp only [bu];refine .bifD (λhk=>PE.bind (P:=(· = D9 N f (n+1))) ?_ λv hv => .gdI (by omega) (.pure ⟨⟨n+1,by omega,by rw [hv];rfl⟩,by simp only [];omega⟩)) λhk => .pure (by rw [show n=N by omega]);refine (LD hN (show n<N by omega)).bind λv hv=>?_;subst hv;rw [D9,bst];generalize D8 N f (n:Int)=v;generalize D9 N f n=b
 cases v with
 | nil=>exact PE.bind (P:=(· = false)) (.bif (λh=>by cases h) λ_ => .pure rfl) λw hw => .bif (λh=>by rw [hw] at h;cases h) λ_ => .pure (by rw [if_pos rfl])
 | cons c v=>
  rw [if_neg (by simp)]
  cases b with
  | nil=>exact PE.bind (P:=(· = true)) (.bif (λ_=>PE.bind (P:=(· = true)) (.bif (λ_ => .pure rfl) λh=>by cases h) λw hw => .pure hw) λh=>by cases h) λw hw => .bif (λ_ => .pure (by rw [if_pos rfl])) λh=>by rw [hw] at h;cases h
  | cons d b=>
   rw [if_neg (by simp)];refine PE.bind (P:=(· = decide ((c::v).length<(d::b).length))) (.bif (λ_=>PE.bind (P:=(· = decide ((c::v).length<(d::b).length))) (.bif (λh=>by cases h) λ_ => .pure (decide_eq_decide.2 (by omega))) λw hw => .pure hw) λh=>by cases h) λw hw => .bif (λh => .pure ?_) λh => .pure ?_
   ·rw [if_pos (of_decide_eq_true (by rw [<- hw];exact h))]
   rw [if_neg (of_decide_eq_false (by rw [<- hw];exact h))]
theorem M8 (hN:N<=16):PE (nQ (PI N f)) (· = D9 N f N):=by
 unfold nQ;refine PE.bind (P:=(· = D9 N f N)) ?_ λv hv => .pure hv;refine PE.loop (λz=>∃ n:Nat,n<=N/\z=((n:Int),D9 N f n)) (λz=>((N:Int)-z.1).toNat) ⟨0,by omega,rfl⟩ λz ⟨n,n1,n2⟩ => ?_;subst n2;unfold rN;simp only [bu];refine .bifD (λhk=>PE.bind (P:=(· = D9 N f (n+1))) ?_ λv hv => .gdI (by omega) (.pure ⟨⟨n+1,by omega,by rw [hv];rfl⟩,by simp only [];omega⟩)) λhk => .pure (by rw [show n=N by omega]);refine (LF hN (show n<N by omega)).bind λv hv=>?_;subst hv;rw [D9,bst];generalize D8 N f (n:Int)=v;generalize D9 N f n=b
 cases v with
 | nil=>exact PE.bind (P:=(· = false)) (.bifD (λh=>absurd h (by simp)) λ_ => .pure rfl) λw hw => .bif (λh=>by rw [hw] at h;cases h) λ_ => .pure (by rw [if_pos rfl])
 | cons c v=>
  rw [if_neg (by simp)]
  cases b with
  | nil=>exact PE.bind (P:=(· = true)) (.bifD (λ_=>PE.bind (P:=(· = true)) (.bif (λ_ => .pure rfl) λh=>by cases h) λw hw => .pure hw) λh=>absurd (show (0:Int)<((c::v).length:Int) by rw [llc];omega) h) λw hw => .bif (λ_ => .pure (by rw [if_pos rfl])) λh=>by rw [hw] at h;cases h
  | cons d b=>
   rw [if_neg (by simp)];refine PE.bind (P:=(· = decide ((c::v).length<(d::b).length))) (.bifD (λ_=>PE.bind (P:=(· = decide ((c::v).length<(d::b).length))) (.bif (λh=>absurd (eq_of_beq h) (by simp;omega)) λ_ => .pure (decide_eq_decide.2 (by omega))) λw hw => .pure hw) λh=>absurd (show (0:Int)<((c::v).length:Int) by rw [llc];omega) h) λw hw => .bif (λh => .pure ?_) λh => .pure ?_
   ·rw [if_pos (of_decide_eq_true (by rw [<- hw];exact h))]
   rw [if_neg (of_decide_eq_false (by rw [<- hw];exact h))]
end
section
variable {p:List (List Px)} {x:XS} {F:LI}
def lrC (p:List (List Px)) (t idx reg:Int) (e:Pz):Bool:=decide (e.Thread=t)&&decide (e.Index<idx)&&e.Reads&&(((p.getD t.toNat default).getD e.Index.toNat default).Reg==reg)
def lrN (p:List (List Px)) (t idx reg:Int):Nat->Int
 | 0 => -1
 | n+1=>if lrC p t idx reg (ev p (n:Int))=true then (n:Int) else lrN p t idx reg n
def lrd (p:List (List Px)) (t idx reg:Int):Int:=lrN p t idx reg (evs p).length
theorem Kz {t idx reg:Int}:∀ (n:Nat),(lrN p t idx reg n = -1/\∀ i:Nat,i<n->lrC p t idx reg (ev p (i:Int))=false)\/∃ r:Nat,r<n/\lrN p t idx reg n=(r:Int)/\lrC p t idx reg (ev p (r:Int))=true/\∀ i:Nat,i<n->r<i->lrC p t idx reg (ev p (i:Int))=false
 | 0 => .inl ⟨rfl,λi h=>absurd h (Nat.not_lt_zero _)⟩
 | n+1=>by
  by_cases h:lrC p t idx reg (ev p (n:Int))=true
  ·exact .inr ⟨n,by omega,if_pos h,h,λi h1 h2=>by omega⟩
  have e:lrN p t idx reg (n+1)=lrN p t idx reg n:=if_neg h;have hf:lrC p t idx reg (ev p (n:Int))=false:=by simpa using h
  rcases Kz n with ⟨h1,h2⟩ | ⟨r,h1,h2,h3,h4⟩
  ·refine .inl ⟨e.trans h1,λi hi=>?_⟩
   by_cases ei:i=n
   ·subst ei;exact hf
   exact h2 i (by omega)
  refine .inr ⟨r,by omega,e.trans h2,h3,λi hi hr=>?_⟩
  by_cases ei:i=n
  ·subst ei;exact hf
  exact h4 i (by omega) hr
theorem Ea (t idx reg:Int):(lrd p t idx reg = -1/\∀ i:Nat,i<(evs p).length->lrC p t idx reg (ev p (i:Int))=false)\/∃ r:Nat,r<(evs p).length/\lrd p t idx reg=(r:Int)/\lrC p t idx reg (ev p (r:Int))=true/\∀ i:Nat,i<(evs p).length->r<i->lrC p t idx reg (ev p (i:Int))=false:=Kz _
theorem xL {t idx reg:Int} {e:Pz}:lrC p t idx reg e=true↔e.Thread=t/\e.Index<idx/\e.Reads=true/\((p.getD t.toNat default).getD e.Index.toNat default).Reg=reg:=by
 unfold lrC;simp only [bae,dte,beq_iff_eq];exact ⟨λ⟨⟨⟨a,b⟩,c⟩,d⟩=>⟨a,b,c,d⟩,λ⟨a,b,c,d⟩=>⟨⟨⟨a,b⟩,c⟩,d⟩⟩
theorem yL (hp:PV p) {n:Int} (h0:0<=n) (h:n<((evs p).length:Int)) (ht : ¬ (ev p n).Thread<0):∃ t k:Nat,Isn p t k/\n=(base p t k:Int)/\(ev p n).Thread=(t:Int)/\(ev p n).Index=(k:Int):=by
 rcases wB h0 h with hc | ⟨t,k,hI,rfl⟩
 ·exfalso;have := (xJ (p:=p) (l:=n.toNat) (by omega)).1;rw [UA h0] at this;rw [this] at ht;exact ht (by show (-1:Int)<0;decide)
 exact ⟨t,k,hI,rfl,by rw [hI.ev.1],by rw [hI.ev.1]⟩
def VB (p:List (List Px)) (x:XS) (vals:LI) (B:List Bool):aB:=⟨p,⟨x.1,x.2⟩,evs p,vals,B⟩
theorem Gs (hp:PV p) {vals:LI} {B:List Bool} {t:Nat} (ht:t<p.length) (idx reg:Int):PE (dY (VB p x vals B) (t:Int) idx reg) (· = (VB p x vals B,lrd p (t:Int) idx reg)):=by
 have hel:=jo hp.vs;unfold dY;refine PE.bind (P:=(· = lrd p (t:Int) idx reg)) ?_ λv hv => .pure (by rw [hv]);refine PE.loop (λz=>∃ n:Nat,n<=(evs p).length/\z=((n:Int),lrN p (t:Int) idx reg n)) (λz=>(((evs p).length:Int)-z.1).toNat) ⟨0,by omega,rfl⟩ λz ⟨n,h1,h2⟩ => ?_;subst h2;unfold kJ;have en:(evs p).getD n default=ev p (n:Int):=by unfold ev;rw [tnn]
 simp only [VB,tnn,en];refine .bifD (λhk=>?_) λhk => .pure (by rw [show n=(evs p).length by omega];rfl);refine PE.bind (P:=(· = lrN p (t:Int) idx reg (n+1))) (.gdD ⟨by omega,hk⟩ (PE.bind (P:=(· = lrC p (t:Int) idx reg (ev p (n:Int)))) (.bif (λh1 => .bifD (λh2 => .bif (λh3=>?_) λh3 => .pure ?_) λh2 => .pure ?_) λh1 => .pure ?_) λv hv => .bif (λh => .pure ?_) λh => .pure ?_)) λv hv => .gdI (by omega) (.pure ⟨⟨n+1,by omega,by rw [hv];rfl⟩,by simp only [];omega⟩)
 ·have h1:(ev p (n:Int)).Thread=(t:Int):=eq_of_beq h1;obtain ⟨t',k,hI,e,e1,e2⟩:=yL hp (n:=(n:Int)) (by omega) (by omega) (by omega);have : t'=t:=by omega
  subst this;have := hI.k;refine .gdD ⟨by omega,by omega⟩ (.gdD ⟨by omega,by rw [e2];omega⟩ (.pure ?_));unfold lrC;rw [decide_eq_true h1,decide_eq_true h2,h3,tnn]
  rfl
 ·unfold lrC;rw [h3];simp
 ·unfold lrC;rw [decide_eq_false h2];simp
 ·unfold lrC;rw [decide_eq_false (λe=>by rw [e] at h1;simp at h1)];simp
 ·show (n:Int)=lrN p (t:Int) idx reg (n+1);rw [lrN,if_pos (by rw [<- hv];exact h)]
 show lrN p (t:Int) idx reg n=lrN p (t:Int) idx reg (n+1);rw [lrN,if_neg (by rw [<- hv,h];decide)]
def zS (p:List (List Px)) (i:Int):Px:=(p.getD (ev p i).Thread.toNat default).getD (ev p i).Index.toNat default
def lrE (p:List (List Px)) (i:Int):Int:=lrd p (ev p i).Thread (ev p i).Index (zS p i).Reg
def Stp (p:List (List Px)) (x:XS) (i j:Int):Prop := ¬ (ev p i).Thread<0/\(zS p i).Op=3 /\ ¬ lrE p i<0/\j=x.1.getD (lrE p i).toNat default
inductive Chn (p:List (List Px)) (x:XS):Int->Int->Prop
 | ini {i:Int} (h:(ev p i).Thread<0):Chn p x i 0
 | val {i:Int} (h : ¬ (ev p i).Thread<0) (h3:(zS p i).Op≠3):Chn p x i (zS p i).Val
 | zer {i:Int} (h : ¬ (ev p i).Thread<0) (h3:(zS p i).Op=3) (hr:lrE p i<0):Chn p x i 0
 | nxt {i j v:Int} (h:Stp p x i j) (c:Chn p x j v):Chn p x i v
inductive Rc (p:List (List Px)) (x:XS):Int->Int->Prop
 | refl (i:Int):Rc p x i i
 | step {i j k:Int} (h:Stp p x i j) (c:Rc p x j k):Rc p x i k
def Cyc (p:List (List Px)) (x:XS) (i:Int):Prop:=∃ j k,Rc p x i j/\Stp p x j k/\Rc p x k j
theorem Stp.det {i j k:Int} (h:Stp p x i j) (h':Stp p x i k):j=k:=h.2.2.2.trans h'.2.2.2.symm
theorem Chn.det {i v w:Int} (h:Chn p x i v):Chn p x i w->v=w:=by
 induction h with
 | ini h=>intro h';cases h' with
  | ini _=>rfl
  | val h1 _=>exact absurd h h1
  | zer h1 _ _=>exact absurd h h1
  | nxt h1 _=>exact absurd h h1.1
 | val h h3=>intro h';cases h' with
  | ini h1=>exact absurd h1 h
  | val _ _=>rfl
  | zer _ h1 _=>exact absurd h1 h3
  | nxt h1 _=>exact absurd h1.2.1 h3
 | zer h h3 hr=>intro h';cases h' with
  | ini h1=>exact absurd h1 h
  | val _ h1=>exact absurd h3 h1
  | zer _ _ _=>rfl
  | nxt h1 _=>exact absurd hr h1.2.2.1
 | nxt h c ih=>intro h';cases h' with
  | ini h1=>exact absurd h1 h.1
  | val _ h1=>exact absurd h.2.1 h1
  | zer _ _ h1=>exact absurd h1 h.2.2.1
  | nxt h1 c1=>obtain rfl:=h.det h1;exact ih c1
theorem Chn.not_cyc {i v:Int} (h:Chn p x i v) : ¬ Cyc p x i:=by
 have nost:∀ {i},(∀ j,¬ Stp p x i j) -> ¬ Cyc p x i:=λ{i} hn ⟨j,k,h1,h2,h3⟩=>by
  cases h1 with
  | refl _=>exact hn _ h2
  | step h _=>exact hn _ h
 induction h with
 | ini h=>exact nost λj hj=>hj.1 h
 | val h h3=>exact nost λj hj=>h3 hj.2.1
 | zer h h3 hr=>exact nost λj hj=>hj.2.2.1 hr
 | nxt h c ih=>
  rintro ⟨j,k,h1,h2,h3⟩
  cases h1 with
  | refl _=>
   obtain rfl:=h.det h2;exact ih ⟨_,_,h3,h2,h3⟩
  | step h' c'=>
   obtain rfl:=h.det h';exact ih ⟨j,k,c',h2,h3⟩
theorem Cyc.step {i j:Int} (h:Stp p x i j) (c:Cyc p x j):Cyc p x i:=by
 obtain ⟨a,b,h1,h2,h3⟩:=c;exact ⟨a,b,.step h h1,h2,h3⟩
theorem Bw {B:List Bool} {i:Nat} (hi:i<B.length) (hb:B.getD i default=false):(B.set i true).count false+1=B.count false:=by
 induction B generalizing i with
 | nil=>simp at hi
 | cons b B ih=>
  cases i with
  | zero=>
   have : b=false:=hb;subst this;simp
  | succ i=>
   have := ih (i:=i) (by simpa using hi) hb;simp only [List.set_cons_succ,List.count_cons];omega
theorem JO {B:List Bool} {i:Nat} (hi:i<B.length) (hb:B.getD i default=false):(B.set i true).set i false=B:=by
 rw [List.set_set];apply UQ
 ·simp
 intro j h1 h2;rw [List.getElem_set]
 split
 ·rename_i e;subst e;rw [gdq,geq hi] at hb;exact hb.symm
 rfl
def Oq (p:List (List Px)) (x:XS) (vals:LI) (B:List Bool) (i:Int) (q:aB×Int×Bool):Prop:=
 q.1=VB p x vals B/\(q.2.2=true->Chn p x i q.2.1)/\(q.2.2=false->q.2.1=0/\((∃ j:Nat,B.getD j default=true/\Rc p x i (j:Int))\/Cyc p x i))
theorem ID (hp:PV p) (C:Cand p x F):∀ (m:Nat) (vals:LI) (B:List Bool) (i:Nat),B.count false<m->B.length=(evs p).length->i<(evs p).length->PE (bG m (VB p x vals B) (i:Int)) (Oq p x vals B (i:Int))
 | 0,_,_,_,h,_,_=>absurd h (Nat.not_lt_zero _)
 | m+1,vals,B,i,hm,hB,hi=>by
  have hel:=jo hp.vs;have ei:(evs p).getD i default=ev p (i:Int):=by unfold ev;rw [tnn]
  show PE (fo (bG m) (VB p x vals B) (i:Int)) _;unfold fo;simp only [VB,tnn,ei];refine .gdD ⟨by omega,by omega⟩ (.bifD (λh0 => .pure ⟨rfl,λ_ => .ini h0,λe=>(by cases e)⟩) λh0=>?_);obtain ⟨t,k,hI,e,e1,e2⟩:=yL hp (n:=(i:Int)) (by omega) (by omega) h0;have hins:((p.getD (ev p (i:Int)).Thread.toNat default).getD (ev p (i:Int)).Index.toNat default)=zS p (i:Int):=rfl;simp only [hins];have ht:=hI.t;have hk:=hI.k;refine .gdD ⟨by omega,by omega⟩ (.gdD ⟨by omega,by rw [e1,e2,tnn];omega⟩ (.bif (λh3 => .pure ⟨rfl,λ_ => .val h0 (by simpa using h3),λe=>(by cases e)⟩) λh3=>?_));have h3:(zS p (i:Int)).Op=3:=by simpa using h3
  refine .gdD ⟨by omega,by omega⟩ (.bif (λhb => .pure ⟨rfl,λe=>(by cases e),λ_=>⟨rfl,.inl ⟨i,hb,.refl _⟩⟩⟩) λhb=>?_);have hlr:=Gs (x:=x) (vals:=vals) (B:=B) hp ht (ev p (i:Int)).Index (zS p (i:Int)).Reg;rw [<- e1] at hlr;refine hlr.bind λv8 h8=>?_;subst h8;have hlE:lrd p (ev p (i:Int)).Thread (ev p (i:Int)).Index (zS p (i:Int)).Reg=lrE p (i:Int):=rfl;simp only [VB,hlE];refine .bifD (λhr => .pure ⟨rfl,λ_ => .zer h0 h3 hr,λe=>(by cases e)⟩) λhr=>?_;rcases Ea (p:=p) (ev p (i:Int)).Thread (ev p (i:Int)).Index (zS p (i:Int)).Reg with ⟨g1,_⟩ | ⟨r,g1,g2,g3,_⟩
  ·rw [hlE] at g1;exact absurd (show lrE p (i:Int)<0 by omega) hr
  rw [hlE] at g2;have hrd:=(xL.1 g3).2.2.1;have hrF:(r:Int)∈F:=(C.mem _).2 ⟨by omega,by omega⟩;have hfr:=C.rdc _ hrF hrd;rw [tnn] at hfr;obtain ⟨j0,j1⟩:=(C.mem _).1 (((C.ods _ (pz hp (n:=(r:Int)) (by omega) (by omega))).mem _).1 hfr).1;generalize hj:x.1.getD r default=j at hfr j0 j1;have hst:Stp p x (i:Int) j:=⟨h0,h3,hr,by rw [g2,tnn,hj]⟩;refine .gdD ⟨by omega,by omega⟩ (.gdD ⟨by omega,by rw [g2,C.flen];omega⟩ ?_);rw [g2,tnn,hj];have hc:=Bw (show i<B.length by omega) hb;have hrec:=ID hp C m vals (B.set i true) j.toNat (by omega) (by rw [List.length_set];exact hB) (by omega);rw [UA j0] at hrec;refine hrec.bind λq ⟨q1,q2,q3⟩ => ?_;rw [q1];simp only [VB,List.length_set];refine .gdD ⟨by omega,by omega⟩ (.pure ⟨?_,λh => .nxt hst (q2 h),λh=>?_⟩)
  ·simp only [VB,JO (show i<B.length by omega) hb]
  obtain ⟨q4,q3⟩:=q3 h;refine ⟨q4,?_⟩;rcases q3 with ⟨a,a1,a2⟩ | hcy
  ·by_cases ea:a=i
   ·subst ea;exact .inr ⟨_,_,.refl _,hst,a2⟩
   refine .inl ⟨a,?_,.step hst a2⟩;rw [gdq,List.getElem?_set_ne (Ne.symm ea)] at a1;rw [gdq];exact a1
  exact .inr (.step hst hcy)
theorem IE (hp:PV p) (C:Cand p x F) (vals:LI) {i:Nat} (hi:i<(evs p).length):PE (lK (VB p x vals (Ut (evs p).length false)) (i:Int)) λq=>q.1=VB p x vals (Ut (evs p).length false)/\(q.2.2=true->Chn p x (i:Int) q.2.1)/\(q.2.2=false->Cyc p x (i:Int)):=by
 have nob:∀ {q:aB×Int×Bool},Oq p x vals (Ut (evs p).length false) (i:Int) q->q.1=VB p x vals (Ut (evs p).length false)/\(q.2.2=true->Chn p x (i:Int) q.2.1)/\(q.2.2=false->q.2.1=0/\Cyc p x (i:Int)):=λ{q} ⟨h1,h2,h3⟩=>⟨h1,h2,λh=>⟨(h3 h).1,by
  rcases (h3 h).2 with ⟨j,hj,_⟩ | hc
  ·exfalso;rw [gdq,List.getElem?_replicate] at hj
   split at hj <;> cases hj
  exact hc⟩⟩
 have key:∀ m,(evs p).length<m->PE (bG m (VB p x vals (Ut (evs p).length false)) (i:Int)) (Oq p x vals (Ut (evs p).length false) (i:Int)):=λm hm=>ID hp C m vals _ i (by simp;omega) (by simp) hi;obtain ⟨q,hq,hP⟩:=key ((evs p).length+1) (by omega);obtain ⟨p1,p2,p3⟩:=nob hP;refine .of (kx (v:=q) (evs p).length λm hm=>?_).eq ⟨p1,p2,λh=>(p3 h).2⟩;obtain ⟨q',hq',hP'⟩:=key m hm;obtain ⟨r1,r2,r3⟩:=nob hP';refine .of hq' ?_;obtain ⟨qa,qb,qc⟩:=q;obtain ⟨ra,rb,rc⟩:=q';simp only at p1 p2 p3 r1 r2 r3;subst p1 r1
 cases qc <;> cases rc
 ·rw [(p3 rfl).1,(r3 rfl).1]
 ·exact absurd (p3 rfl).2 (r2 rfl).not_cyc
 ·exact absurd (r3 rfl).2 (p2 rfl).not_cyc
 rw [(p2 rfl).det (r2 rfl)]
theorem JP (hp:PV p) (C:Cand p x F):PE (cT p ⟨x.1,x.2⟩) λq=>(q.2=true->q.1.length=(evs p).length/\∀ i:Nat,i<(evs p).length->(ev p (i:Int)).az=true->Chn p x (i:Int) (q.1.getD i default))/\(q.2=false->∃ i:Nat,i<(evs p).length/\(ev p (i:Int)).az=true/\Cyc p x (i:Int)):=by
 have hel:=jo hp.vs;unfold cT;refine (AA hp.vs).bind λv1 h1=>?_;subst h1;refine .gdD ⟨by omega,by omega,by omega,by omega⟩ ?_;refine PE.sum (PS:=λz=>z.1.length=(evs p).length/\∀ i:Nat,i<(evs p).length->(ev p (i:Int)).az=true->Chn p x (i:Int) (z.1.getD i default)) (PW:=λq:List Int×Bool=>(q.2=true->q.1.length=(evs p).length/\∀ i:Nat,i<(evs p).length->(ev p (i:Int)).az=true->Chn p x (i:Int) (q.1.getD i default))/\(q.2=false->∃ i:Nat,i<(evs p).length/\(ev p (i:Int)).az=true/\Cyc p x (i:Int))) ?_ λz hz => .pure ⟨λ_=>hz,λe=>(by cases e)⟩;have e0:Ut ((evs p).length:Int).toNat (default:Bool)=Ut (evs p).length false:=by rw [tnn];rfl
 rw [e0];refine PE.loop (λz=>∃ n:Nat,n<=(evs p).length/\z.2=(p,x.1,x.2,evs p,Ut (evs p).length false,(n:Int))/\z.1.length=n/\∀ i:Nat,i<n->(ev p (i:Int)).az=true->Chn p x (i:Int) (z.1.getD i default)) (λz=>(((evs p).length:Int)-z.2.2.2.2.2.2).toNat) ⟨0,by omega,rfl,rfl,λi hi=>absurd hi (by omega)⟩ λz ⟨n,n1,n2,n3,n4⟩ => ?_;obtain ⟨vals,z2⟩:=z;simp only at n2 n3 n4;subst n2;unfold lL;have en:(evs p).getD n default=ev p (n:Int):=by unfold ev;rw [tnn]
 simp only [tnn,en];refine .bifD (λhk => .gdD ⟨by omega,hk⟩ ?_) λhk => .pure ⟨by simp only [];omega,λi hi=>n4 i (by omega)⟩;refine PE.sum (PS:=λs=>s.1=p/\s.2.1=x.1/\s.2.2.1=x.2/\s.2.2.2.1=evs p/\s.2.2.2.2.1=Ut (evs p).length false/\((ev p (n:Int)).az=true->Chn p x (n:Int) s.2.2.2.2.2)) ?_ λs ⟨s1,s2,s3,s4,s5,s6⟩ => .gd (aI (by omega) rfl) (.gdI (by omega) (.pure ⟨⟨n+1,by omega,?_,by simp [n3],λi hi hw=>?_⟩,by simp only [];omega⟩))
 ·refine .bif (λhw=>?_) λhw => .pure ⟨rfl,rfl,rfl,rfl,rfl,λh=>by rw [hw] at h;cases h⟩;refine (IE hp C vals (i:=n) (by omega)).bind λq ⟨q1,q2,q3⟩ => .bif (λhq => .pure ?_) λhq => .pure ⟨by rw [q1];rfl,by rw [q1];rfl,by rw [q1];rfl,by rw [q1];rfl,by rw [q1];rfl,λ_=>q2 (by simpa using hq)⟩;exact ⟨λe=>(by cases e),λ_=>⟨n,by omega,hw,q3 (by simpa using hq)⟩⟩
 ·rw [s1,s2,s3,s4,s5]
  rfl
 by_cases e:i=n
 ·subst e;simp only [];rw [gdq,gar (by omega),n3,UZ];exact s6 hw
 simp only [];rw [gdq,gal (by omega)];have := n4 i (by omega) hw
 rwa [gdq] at this
end
section
variable {p:List (List Px)} {x:XS} {F:LI}
inductive HC (p:List (List Px)) (x:XS):Int->Int->Nat->Prop
 | ini {i:Int} (h:(ev p i).Thread<0):HC p x i 0 0
 | val {i:Int} (h : ¬ (ev p i).Thread<0) (h3:(zS p i).Op≠3):HC p x i (zS p i).Val 0
 | zer {i:Int} (h : ¬ (ev p i).Thread<0) (h3:(zS p i).Op=3) (hr:lrE p i<0):HC p x i 0 0
 | nxt {i j v:Int} {n:Nat} (h:Stp p x i j) (c:HC p x j v n):HC p x i v (n+1)
theorem Stp.dom (hp:PV p) (C:Cand p x F) {i j:Int} (hi:0<=i/\i<((evs p).length:Int)) (h:Stp p x i j):(0<=j/\j<((evs p).length:Int))/\(ev p j).az=true:=by
 obtain ⟨_,_,hr,e⟩:=h;rcases Ea (p:=p) (ev p i).Thread (ev p i).Index (zS p i).Reg with ⟨g1,_⟩ | ⟨r,g1,g2,g3,_⟩
 ·exact absurd (show lrE p i<0 by unfold lrE;omega) hr
 have hrd:=(xL.1 g3).2.2.1;have hrF:(r:Int)∈F:=(C.mem _).2 ⟨by omega,by omega⟩;have hfr:=((C.ods _ (pz hp (n:=(r:Int)) (by omega) (by omega))).mem _).1 (C.rdc _ hrF hrd);rw [show (r:Int)=lrE p i from g2.symm,<- e] at hfr;exact ⟨(C.mem _).1 hfr.1,hfr.2.1⟩
theorem Chn.hc (hp:PV p) (C:Cand p x F) {i v:Int} (h:Chn p x i v):0<=i/\i<((evs p).length:Int)->∃ n:Nat,n<(evs p).length/\HC p x i v n:=by
 have key:∀ {i v:Int},Chn p x i v->0<=i/\i<((evs p).length:Int)->∃ (n:Nat) (l:LI),HC p x i v n/\l.length=n+1/\l.Nodup/\(∀ j∈l,Rc p x i j)/\∀ j∈l,0<=j/\j<((evs p).length:Int):=by
  intro i v h
  induction h with
  | @ini i h=>exact λhi=>⟨0,[i],.ini h,rfl,by simp,λj hj=>by rw [Uw.1 hj];exact .refl _,λj hj=>by rw [Uw.1 hj];exact hi⟩
  | @val i h h3=>exact λhi=>⟨0,[i],.val h h3,rfl,by simp,λj hj=>by rw [Uw.1 hj];exact .refl _,λj hj=>by rw [Uw.1 hj];exact hi⟩
  | @zer i h h3 hr=>exact λhi=>⟨0,[i],.zer h h3 hr,rfl,by simp,λj hj=>by rw [Uw.1 hj];exact .refl _,λj hj=>by rw [Uw.1 hj];exact hi⟩
  | @nxt i j v h c ih=>
   intro hi;obtain ⟨n,l,k1,k2,k3,k4,k5⟩:=ih (h.dom hp C hi).1;refine ⟨n+1,i::l,.nxt h k1,by rw [llc,k2],List.nodup_cons.2 ⟨λhm=>?_,k3⟩,λq hq=>?_,λq hq=>?_⟩
   ·exact (Chn.nxt h c).not_cyc ⟨i,j,.refl _,h,k4 i hm⟩
   ·rcases UJ.1 hq with rfl | hq
    ·exact .refl _
    exact .step h (k4 q hq)
   rcases UJ.1 hq with rfl | hq
   ·exact hi
   exact k5 q hq
 intro hi;obtain ⟨n,l,k1,k2,k3,_,k5⟩:=key h hi;have := Jw Int.toNat (evs p).length l k3 (λj hj=>by have := k5 j hj;omega) λa ha b hb e=>by have := k5 a ha;have := k5 b hb;omega
 exact ⟨n,by omega,k1⟩
theorem Chn.rng (hp:PV p) (C:Cand p x F) {i v:Int} (h:Chn p x i v):(0<=i/\i<((evs p).length:Int))->0<=v/\v<=3:=by
 induction h with
 | ini h=>intro _;omega
 | @val i h h3=>
  intro hi;obtain ⟨t,k,hI,_,e1,e2⟩:=yL hp hi.1 hi.2 h;have hR:InR (zS p i):=by
   unfold zS;rw [e1,e2];exact hp.ins t k hI.t hI.k
  obtain ⟨_,_,_,_,a,b⟩:=hR;exact ⟨a,b⟩
 | zer h h3 hr=>intro _;omega
 | nxt h c ih=>intro hi;exact ih (h.dom hp C hi).1
end
end
end Go.Proofs.YtpkhamajimidnaaGreatDoor
