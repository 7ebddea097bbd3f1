/- Texts joined. No conditions. -/
import Derived.Test.YtcmimhffgmckjaaGreatDoorV8
namespace Go.Proofs.YtcmimhffgmckjaaGreatDoor
noncomputable section
open Go.RowKit
set_option maxRecDepth 100000
def tab (N:Nat) (g:Nat->Int):LI:=(List.range N).map g
section
variable {N:Nat} {g h:Nat->Int}
theorem Dq:(tab N g).length=N:=by simp [tab]
theorem GD {i:Nat} (hi:i<N):(tab N g).getD i default=g i:=by
 unfold tab;rw [gdq,List.getElem?_map,List.getElem?_range hi]
 rfl
theorem kC (e:∀ i,i<N->g i=h i):tab N g=tab N h:=List.map_congr_left fun i hi=>e i (List.mem_range.1 hi)
theorem Dr (i:Nat) (v:Int):(tab N g).set i v=tab N fun j=>if j=i then v else g j:=by
 apply List.ext_getElem
 ·simp [tab]
 ·intro j h1 h2;rw [List.getElem_set];simp only [tab,List.getElem_map,List.getElem_range]
  by_cases e:i=j
  ·subst e;simp
  ·rw [if_neg e,if_neg (Ne.symm e)]
theorem Bz:List.replicate N (default:Int)=tab N fun _=>0:=by
 apply List.ext_getElem
 ·simp [tab]
 ·intro j h1 h2;simp only [tab,List.getElem_map,List.getElem_replicate]
  rfl
end
theorem rC {f g:Nat->Bool}:∀ {n:Nat},(∀ k,k<n->f k=g k)->Mt f n=Mt g n
 | 0,_=>rfl
 | n+1,h=>by
  unfold Mt;rw [h n (by omega),rC fun k hk=>h k (by omega)]
theorem JL (f g:Nat->Bool) (n:Nat):Mt f n&&&Mt g n=Mt (fun j=>f j&&g j) n:=by
 apply Nat.eq_of_testBit_eq;intro j;rw [Nat.testBit_and,qh,qh,qh]
 cases decide (j<n) <;> rfl
theorem Iy (n:Nat):Mt (fun _=>false) n=0:=by
 induction n with
 | zero=>rfl
 | succ n ih=>unfold Mt;simp [ih]
def Mv (N:Nat) (f:Int->Int->Bool):LI:=tab N fun i=>((Mt (fun k=>f (i:Int) (k:Int)) N:Nat):Int)
section
variable {N:Nat} {f g:Int->Int->Bool}
theorem iq:(Mv N f).length=N:=Dq
theorem uk {i:Nat} (h:i<N):(Mv N f).getD i default=((Mt (fun k=>f (i:Int) (k:Int)) N:Nat):Int):=GD h
theorem qi (h:∀ i k:Nat,i<N->k<N->f i k=g i k):Mv N f=Mv N g:=kC fun i hi=>by rw [rC fun k hk=>h i k hi hk]
def P15 (n:Int) (is:Int->Int->Option Bool) (s6:(LI)×Int):((LI)×Int)->Option (((LI)×Int) ⊕ (LI)):=fun s14=>
 bif decide (s14.2<n) then
  Option.bind (
   Option.bind (is s6.2 s14.2) fun v19=>
   bif v19 then
    gd (decide (0<=s6.2/\s6.2<(s14.1.length:Int))) <|
    gd (decide (0<=s14.2)) <|
    some (s14.1.set s6.2.toNat (bOr .i64 (s14.1.getD s6.2.toNat default) (FD .i64 (1:Int) s14.2)))
   else
    some s14.1
  ) fun s18=>
  gd (Md .i64 (s14.2+(1:Int))) <|
  some (.inl (s18,(s14.2+(1:Int))))
 else
  some (.inr s14.1)
def P7 (n:Int) (is:Int->Int->Option Bool):((LI)×Int)->Option (((LI)×Int) ⊕ (LI)):=fun s6=>
 bif decide (s6.2<n) then
  Option.bind (
   aV (P15 n is s6) (s6.1,(0:Int))
  ) fun s10=>
  gd (Md .i64 (s6.2+(1:Int))) <|
  some (.inl (s10,(s6.2+(1:Int))))
 else
  some (.inr s6.1)
def I9 (n:Int) (is:Int->Int->Option Bool):Option (LI):=
 gd (decide (0<=n/\n<=n/\n*((8:Nat):Int)<=140737488355328/\n<=140737488355328)) <|
 Option.bind (
  aV (P7 n is) ((List.replicate n.toNat (default:Int)),(0:Int))
 ) fun s2=>
 some s2
def part (N:Nat) (f:Int->Int->Bool) (i k:Nat):LI:=tab N fun j=>if j<i then ((Mt (fun k=>f (j:Int) (k:Int)) N:Nat):Int) else if j=i then ((Mt (fun k=>f (j:Int) (k:Int)) k:Nat):Int) else 0
theorem Cu (hN:N<=60) {is:Int->Int->Option Bool} (hi:∀ i k:Nat,i<N->k<N->Mo (is (i:Int) (k:Int)) (· = f i k)):Mo (I9 (N:Int) is) (· = Mv N f):=by
 unfold I9;refine .gdD ⟨by omega,by omega,by omega,by omega⟩ (Mo.bind (P:=(· = Mv N f)) ?_ fun v hv => .pure hv);have e0:List.replicate (N:Int).toNat (default:Int)=part N f 0 0:=by
  rw [tnn,Bz];refine kC fun j _=>?_;rw [if_neg (by omega)]
  split <;> simp [Mt]
 rw [e0];refine Mo.loop (fun z=>∃ i:Nat,i<=N/\z=(part N f i 0,(i:Int))) (fun z=>((N:Int)-z.2).toNat) ⟨0,by omega,rfl⟩ fun z ⟨i,h1,h2⟩ => ?_;subst h2;unfold P7;simp only [];refine .bifD (fun hk=>?_) fun hk => .pure ?_
 ·refine Mo.bind (P:=(· = part N f (i+1) 0)) ?_ fun v hv => .gdI (by omega) (.pure ⟨⟨i+1,by omega,by rw [hv];rfl⟩,by simp only [];omega⟩);refine Mo.loop (fun z=>∃ k:Nat,k<=N/\z=(part N f i k,(k:Int))) (fun z=>((N:Int)-z.2).toNat) ⟨0,by omega,rfl⟩ fun z ⟨k,k1,k2⟩ => ?_;subst k2;unfold P15;simp only [tnn];refine .bifD (fun hkk=>?_) fun hkk => .pure ?_
  ·refine Mo.bind (P:=(· = part N f i (k+1))) ((hi i k (by omega) (by omega)).bind fun v hv => .bif (fun hb => .gdD ⟨by omega,by unfold part;rw [Dq];omega⟩ (.gdD (by omega) (.pure ?_))) fun hb => .pure ?_) fun v hv => .gdI (by omega) (.pure ⟨⟨k+1,by omega,by rw [hv];rfl⟩,by simp only [];omega⟩)
   ·unfold part;rw [GD (by omega),if_neg (by omega),if_pos rfl,Iv (by omega),Bx (gQ (by omega)) (by have := Nat.pow_lt_pow_right (a:=2) (by omega) (show k<63 by omega);omega),Dr];refine kC fun j _=>?_
    by_cases e:j=i
    ·subst e;rw [if_pos rfl,if_neg (by omega),if_pos rfl];rw [hv] at hb;rw [Mt,if_pos hb]
    ·rw [if_neg e,if_neg e,if_neg e]
   ·unfold part;refine kC fun j _=>?_
    by_cases e:j=i
    ·subst e;rw [if_neg (by omega),if_pos rfl,if_neg (by omega),if_pos rfl];rw [hv] at hb;rw [Mt,if_neg (by rw [hb];decide)]
    ·rw [if_neg e,if_neg e]
  ·have : k=N:=by omega
   subst this;unfold part;refine kC fun j _=>?_
   by_cases e:j=i
   ·subst e;rw [if_neg (by omega),if_pos rfl,if_pos (by omega)]
   ·by_cases e2:j<i
    ·rw [if_pos e2,if_pos (by omega)]
    ·rw [if_neg e2,if_neg e,if_neg (by omega)]
     split <;> simp [Mt]
 ·have : i=N:=by omega
  subst this;exact kC fun j hj=>by rw [if_pos hj]
theorem KA (i:Nat):(Mt (fun k=>f (i:Int) (k:Int)) N)<2 ^ N:=Gx _ _
theorem JM {m n:Nat} (hm:m<2 ^ n) (hn:n<=62):dH .i64 (m:Int) (n:Int)=0:=by
 show (m:Int).fdiv (2 ^ (min (n:Int).toNat 64))=_;have hq:min (n:Int).toNat 64=n:=by omega
 rw [hq,show (2:Int) ^ n=((2 ^ n:Nat):Int) by simp,Int.fdiv_eq_ediv_of_nonneg _ (Int.natCast_nonneg _)];have : m / 2 ^ n=0:=Nat.div_eq_of_lt hm;omega
theorem rD (hN:N<=16):Mo (cE (Mv N f)) (· = true):=by
 unfold cE bh bv;refine Mo.bind (P:=(· = true)) (.bifD (fun _=>?_) fun h=>absurd (show ((Mv N f).length:Int)<=16 by rw [iq];omega) h) fun v hv => .pure hv;refine Mo.bind (P:=(· = false)) (Mo.bind (P:=(· = -1)) (Mo.sum (PS:=fun _=>True) (PW:=(· = (-1:Int))) ?_ fun _ _ => .pure rfl) fun v hv => .pure (by subst hv;rfl)) fun v hv => .pure (by subst hv;rfl);refine Mo.loop (fun z=>∃ i:Nat,i<=N/\z=(i:Int)) (fun z=>((N:Int)-z).toNat) ⟨0,by omega,rfl⟩ fun z ⟨i,h1,h2⟩ => ?_;subst h2;unfold bV ni;simp only [iq,tnn];refine .bifD (fun hk=>?_) fun hk => .pure trivial;have hg:=uk (f:=f) (show i<N by omega);refine .gdD ⟨by omega,hk⟩ (Mo.bind (P:=(· = false)) (Mo.bind (P:=(· = false)) (.bifD (fun h=>absurd h (by rw [hg];omega)) fun _ => .gdD (by omega) (.pure (decide_eq_false (by rw [hg,JM (KA i) (by omega)];omega)))) fun v hv => .pure hv) fun v hv => .bif (fun h=>by rw [hv] at h;cases h) fun _ => .gdI (by omega) (.pure ⟨⟨i+1,by omega,rfl⟩,by omega⟩))
theorem GF (hN:N<=16):Mo (eF (Mv N f) (Mv N g)) (· = true):=by
 unfold eF;refine Mo.bind (P:=(· = true)) (.bif (fun _=>(rD hN).bind fun v hv => .pure hv) fun h=>?_) fun v hv=>?_
 ·rw [iq,iq] at h;simp at h
 ·subst hv;exact Mo.bind (P:=(· = true)) (.bif (fun _=>(rD hN).bind fun v hv => .pure hv) fun h=>by cases h) fun v hv => .pure hv
theorem su (hN:N<=60) {i k:Nat} (hi:i<N) (hk:k<N):Mo (fS (Mv N f) (i:Int) (k:Int)) (· = f i k):=by
 unfold fS;simp only [iq,tnn];rw [uk hi,Kw (gQ (by omega)) (by omega),qh,decide_eq_true hk,Bool.true_and];refine .gdD ⟨by omega,by omega⟩ (.gdD (by omega) (.pure ?_))
 cases f i k <;> rfl
theorem Iz {a b:Nat} (ha:a<9223372036854775808) (hb:b<9223372036854775808):cm .i64 (a:Int) (b:Int)=((a&&&b:Nat):Int):=by
 have hlt:(a&&&b)<2 ^ 63:=Nat.and_lt_two_pow a hb;show IntKind.wrap .i64 (((BitVec.ofInt 64 (a:Int)&&&BitVec.ofInt 64 (b:Int)).toNat:Nat):Int)=_;have h1:(BitVec.ofInt 64 (a:Int)).toNat=a:=by rw [BitVec.ofInt_natCast,BitVec.toNat_ofNat];omega
 have h2:(BitVec.ofInt 64 (b:Int)).toNat=b:=by rw [BitVec.ofInt_natCast,BitVec.toNat_ofNat];omega
 rw [BitVec.toNat_and,h1,h2];exact uH hlt
theorem GG (f g:Nat->Bool) {n:Nat} (hn:n<=62):CX .i64 ((Mt f n:Nat):Int) ((Mt g n:Nat):Int)=((Mt (fun j=>f j && !g j) n:Nat):Int):=by
 have ha:=gQ (f:=f) hn;have hb:=gQ (f:=g) hn;show IntKind.wrap .i64 (((BitVec.ofInt 64 ((Mt f n:Nat):Int) &&& ~~~ BitVec.ofInt 64 ((Mt g n:Nat):Int)).toNat:Nat):Int)=_;have key:(BitVec.ofInt 64 ((Mt f n:Nat):Int) &&& ~~~ BitVec.ofInt 64 ((Mt g n:Nat):Int)).toNat=Mt (fun j=>f j && !g j) n:=by
  apply Nat.eq_of_testBit_eq;intro j;rw [qh];have h1:∀ m:Nat,m<9223372036854775808->∀ j,(BitVec.ofInt 64 ((m:Nat):Int)).getLsbD j=m.testBit j:=fun m hm j=>by
   show (BitVec.ofInt 64 ((m:Nat):Int)).toNat.testBit j=_;rw [BitVec.ofInt_natCast,BitVec.toNat_ofNat,Nat.mod_eq_of_lt (by omega)]
  show (BitVec.ofInt 64 ((Mt f n:Nat):Int) &&& ~~~ BitVec.ofInt 64 ((Mt g n:Nat):Int)).getLsbD j=_;rw [BitVec.getLsbD_and,BitVec.getLsbD_not,h1 _ ha,h1 _ hb,qh,qh]
  by_cases hj:j<n
  ·rw [decide_eq_true hj,decide_eq_true (show j<64 by omega)];simp
  ·rw [decide_eq_false hj];simp
 rw [key];exact uH (gQ hn)
theorem BA (hN:N<=16) {by_:Int->Int->Option Int} {q:Int->Int->Bool} (step:((LI)×Int)->Option (((LI)×Int) ⊕ (LI)))
  (hs:∀ s8:(LI)×Int,step s8=bif decide (s8.2<((Mv N f).length:Int)) then
   gd (decide (0<=s8.2/\s8.2<((Mv N f).length:Int)))<|gd (decide (0<=s8.2/\s8.2<((Mv N g).length:Int))) <|
   Option.bind (by_ ((Mv N f).getD s8.2.toNat default) ((Mv N g).getD s8.2.toNat default)) fun v14=>
   gd (decide (0<=s8.2/\s8.2<(s8.1.length:Int)))<|gd (Md .i64 (s8.2+(1:Int)))<|some (.inl ((s8.1.set s8.2.toNat v14),(s8.2+(1:Int)))) else some (.inr s8.1))
  (hb:∀ i:Nat,i<N->Mo (by_ ((Mt (fun k=>f (i:Int) (k:Int)) N:Nat):Int) ((Mt (fun k=>g (i:Int) (k:Int)) N:Nat):Int)) (· = ((Mt (fun k=>q (i:Int) (k:Int)) N:Nat):Int))) :
  Mo (Option.bind (eF (Mv N f) (Mv N g)) fun v1=>bif !v1 then some ([]:LI) else
   gd (decide (0<=((Mv N f).length:Int)/\((Mv N f).length:Int)<=((Mv N f).length:Int)/\((Mv N f).length:Int)*((8:Nat):Int)<=140737488355328/\((Mv N f).length:Int)<=140737488355328)) <|
   Option.bind (aV step ((List.replicate ((Mv N f).length:Int).toNat (default:Int)),(0:Int))) fun s4=>some s4) (· = Mv N q):=by
 refine (GF hN).bind fun v hv=>?_;subst hv;refine .bif (fun h=>by cases h) fun _=>?_;refine .gdD ⟨by omega,by omega,by rw [iq];omega,by rw [iq];omega⟩ (Mo.bind (P:=(· = Mv N q)) ?_ fun v hv => .pure hv);rw [iq,tnn,Bz];refine Mo.loop (fun z=>∃ i:Nat,i<=N/\z=(tab N (fun j=>if j<i then ((Mt (fun k=>q (j:Int) (k:Int)) N:Nat):Int) else 0),(i:Int))) (fun z=>((N:Int)-z.2).toNat) ⟨0,by omega,rfl⟩ fun z ⟨i,h1,h2⟩ => ?_;subst h2;rw [hs];simp only [iq,tnn];refine .bifD (fun hk=>?_) fun hk => .pure ?_
 ·rw [uk (by omega),uk (by omega)];refine .gdD ⟨by omega,hk⟩ (.gdD ⟨by omega,hk⟩ ((hb i (by omega)).bind fun v hv => .gdD ⟨by omega,by rw [Dq];omega⟩ (.gdI (by omega) (.pure ⟨⟨i+1,by omega,?_⟩,by simp only [];omega⟩))));rw [Dr,hv];refine Prod.ext (kC fun j _=>?_) rfl
  by_cases e:j=i
  ·subst e;rw [if_pos rfl,if_pos (by omega)]
  ·rw [if_neg e]
   by_cases e2:j<i
   ·rw [if_pos e2,if_pos (by omega)]
   ·rw [if_neg e2,if_neg (by omega)]
 ·have : i=N:=by omega
  subst this;exact kC fun j hj=>by rw [if_pos hj]
theorem JN (hN:N<=16):Mo (mf (Mv N f) (Mv N g)) (· = Mv N fun i k=>f i k||g i k):=by
 unfold mf;refine Mo.bind (P:=(· = Mv N fun i k=>f i k||g i k)) (BA hN (by_:=nu) _ (fun _=>rfl) fun i hi => .pure ?_) fun v hv => .pure hv;rw [Bx (gQ (by omega)) (gQ (by omega)),Gy]
theorem KC (hN:N<=16):Mo (nJ (Mv N f) (Mv N g)) (· = Mv N fun i k=>f i k&&g i k):=by
 unfold nJ;refine Mo.bind (P:=(· = Mv N fun i k=>f i k&&g i k)) (BA hN (by_:=nY) _ (fun _=>rfl) fun i hi => .pure ?_) fun v hv => .pure hv;rw [Iz (gQ (by omega)) (gQ (by omega)),JL]
theorem JO (hN:N<=16):Mo (mg (Mv N f) (Mv N g)) (· = Mv N fun i k=>f i k && !g i k):=by
 unfold mg;refine Mo.bind (P:=(· = Mv N fun i k=>f i k && !g i k)) (BA hN (by_:=ny) _ (fun _=>rfl) fun i hi => .pure ?_) fun v hv => .pure hv;rw [GG _ _ (by omega)]
end
section
variable {p:List (List Mh)} {x:XS} {F F':LI}
theorem GH (l:Int):(wrs p l).length<=(evs p).length:=by
 unfold wrs;have := List.length_filter_le (Wl p l) ((List.range (evs p).length).map fun (i:Nat)=>(i:Int));simpa using this
theorem GI (l:Int):(wrs p l).Pairwise (· <= ·):=List.Pairwise.filter _ (List.pairwise_map.2 ((List.pairwise_lt_range).imp fun h=>by omega))
structure Chk (p:List (List Mh)) (x:XS):Prop where
 f:x.1.length=(evs p).length
 o:x.2.length=3
 r:∀ n:Nat,n<(evs p).length->if (ev p (n:Int)).Reads=true then x.1.getD n default∈wrs p (ev p (n:Int)).Loc/\x.1.getD n default≠n else x.1.getD n default = -1
 ords:∀ l:Nat,l<3->(x.2.getD l default).Perm (wrs p (l:Int))/\(x.2.getD l default).getD 0 default=l
theorem GJ:∀ {l k:LI},l.Perm k->l.Pairwise (· <= ·)->k.Pairwise (· <= ·)->l=k
 | [],k,h,_,_=>h.nil_eq
 | a::l,[],h,_,_=>absurd h.length_eq (by simp)
 | a::l,b::k,h,h1,h2=>by
  have hab:a=b:=by
   rcases List.mem_cons.1 (h.subset (List.mem_cons_self)) with e | e
   ·exact e
   ·rcases List.mem_cons.1 (h.symm.subset (List.mem_cons_self)) with e2 | e2
    ·exact e2.symm
    ·have := (List.pairwise_cons.1 h1).1 b e2;have := (List.pairwise_cons.1 h2).1 a e;omega
  subst hab;rw [GJ (List.perm_cons a |>.1 h) (List.pairwise_cons.1 h1).2 (List.pairwise_cons.1 h2).2]
theorem GK {l w:LI} (hw:w.Pairwise (· <= ·)):Ik l=w↔l.Perm w:=
 ⟨fun e=>by rw [<- e];exact (pY l).symm,fun h=>GJ ((pY l).trans h) (Dk l) hw⟩
theorem AO {l:LI} (h:l.length<=4000000):Mo (cW l) (· = l):=by
 unfold cW
 cases l with
 | nil=>exact .of (v:=[]) (by show nilK true (some ([]:LI)) (some [])=some [];unfold nilK;exact if_pos rfl) rfl
 | cons a l=>exact (Mo.gd (eu (by simp at h ⊢;omega) rfl) (.pure (by simp)):Mo (gd (dW (([]:LI).length+(a::l).length) 8) (some (([]:LI)++a::l))) (· = a::l))
theorem KD (hp:PV p) (hv:gy (p.map fun r=>r.map m5)=true) (hsz:p.length<=1048576/\total p<=1048576) (hx:∀ r∈x.2,r.length<=1048576):Mo (fB p ⟨x.1,x.2⟩) fun b=>b=true↔Chk p x:=by
 have hel:=nC hp.vs;have hS:bI p=some (gy (p.map fun r=>r.map m5)):=rS (decide_eq_true hsz);unfold fB;refine (Mo.of (P:=(· = true)) hS hv).bind fun v1 h1=>?_;subst h1;refine .bif (fun h=>by cases h) fun _=>(zA hp.vs).bind fun v3 h3=>?_;subst h3;refine Mo.bind (P:=fun b:Bool=>b=false↔x.1.length=(evs p).length/\x.2.length=3) (.bif (fun h => .pure ⟨fun e=>(by cases e),fun e=>?_⟩) fun h => .pure ?_) fun v4 h4 => .bif (fun h => .pure ⟨fun e=>(by cases e),fun e=>?_⟩) fun h=>?_
 ·have h : ¬ (x.1.length:Int)=((evs p).length:Int):=by simpa using h
  omega
 ·have h:(x.1.length:Int)=((evs p).length:Int):=by simpa using h
  show ((x.2.length:Int) != 3)=false↔_;rw [bne_eq_false_iff_eq];exact ⟨fun e=>⟨by omega,by omega⟩,fun e=>by omega⟩
 ·have := h4.2 ⟨e.f,e.o⟩;rw [this] at h
  cases h
 obtain ⟨hf,ho⟩:=h4.1 h;refine Mo.sum (PS:=fun _=>∀ n:Nat,n<(evs p).length->if (ev p (n:Int)).Reads=true then x.1.getD n default∈wrs p (ev p (n:Int)).Loc/\x.1.getD n default≠n else x.1.getD n default = -1) (PW:=fun b=>b=true↔Chk p x) ?_ fun _ hr=>?_
 ·refine Mo.loop (fun z=>∃ n:Nat,n<=(evs p).length/\z=(n:Int)/\∀ j:Nat,j<n->if (ev p (j:Int)).Reads=true then x.1.getD j default∈wrs p (ev p (j:Int)).Loc/\x.1.getD j default≠j else x.1.getD j default = -1) (fun z=>(((evs p).length:Int)-z).toNat) ⟨0,by omega,rfl,fun j hj=>absurd hj (by omega)⟩ fun z ⟨n,n1,n2,n3⟩ => ?_;subst n2;unfold oK;have en:(evs p).getD n default=ev p (n:Int):=by unfold ev;rw [tnn]
  simp only [tnn,en];refine .bifD (fun hk => .gdD ⟨by omega,hk⟩ (.gdD ⟨by omega,by omega⟩ ?_)) fun hk => .pure fun m hm=>n3 m (by omega);have hl:=uj hp (n:=(n:Int)) (by omega) hk;refine Mo.bind (P:=fun b:Bool=>b=false↔((ev p (n:Int)).Reads=false->x.1.getD n default = -1)) (.bif (fun hrd => .pure ?_) fun hrd => .pure ⟨fun _ e=>(by simp [e] at hrd),fun _=>rfl⟩) fun s15 h15=>?_
  ·have hrd:(ev p (n:Int)).Reads=false:=by simpa using hrd
   show (x.1.getD n default != -1)=false↔_;rw [bne_eq_false_iff_eq];exact ⟨fun e _=>e,fun e=>e hrd⟩
  refine Mo.bind (P:=fun b:Bool=>b=false↔if (ev p (n:Int)).Reads=true then x.1.getD n default∈wrs p (ev p (n:Int)).Loc/\x.1.getD n default≠n else x.1.getD n default = -1) ?_ fun s17 h17 => .bif (fun h => .pure ⟨fun e=>(by cases e),fun e=>?_⟩) fun h => .gdI (by omega) (.pure ⟨⟨n+1,by omega,rfl,fun j hj=>?_⟩,by omega⟩)
  ·refine .bif (fun h => .pure ⟨fun e=>(by cases e),fun e=>?_⟩) fun h=>?_
   ·have h0:s15=false:=h15.2 fun hrd=>by
     rw [if_neg (by rw [hrd];decide)] at e;exact e
    rw [h0] at h
    cases h
   ·refine Mo.bind (P:=fun b:Bool=>b=false↔if (ev p (n:Int)).Reads=true then x.1.getD n default∈wrs p (ev p (n:Int)).Loc/\x.1.getD n default≠n else x.1.getD n default = -1) (.bif (fun hrd=>?_) fun hrd => .pure ⟨fun _=>by rw [if_neg (by rw [hrd];decide)];exact h15.1 h hrd,fun _=>rfl⟩) fun v hv => .pure hv;refine Mo.bind (P:=fun b:Bool=>b=false↔x.1.getD n default∈wrs p (ev p (n:Int)).Loc/\x.1.getD n default≠n) (.bif (fun he => .pure ⟨fun e=>(by cases e),fun e=>?_⟩) fun he=>(D9 hp _).bind fun v23 h23=>(ui _ _ (by rw [h23];have := GH (p:=p) (ev p (n:Int)).Loc;omega)).bind fun v24 h24 => .pure ?_) fun v hv => .pure (by rw [if_pos hrd];exact hv)
    ·have he:x.1.getD n default=n:=by simpa using he
     exact absurd he e.2
    ·have he:x.1.getD n default≠n:=by simpa using he
     subst h23;rw [h24];show (!decide (x.1.getD n default∈wrs p (ev p (n:Int)).Loc))=false↔_;rw [Bool.not_eq_false',dte];exact ⟨fun e=>⟨e,he⟩,fun e=>e.1⟩
  ·have h0:s17=false:=h17.2 (e.r n (by omega));rw [h0] at h
   cases h
  ·by_cases ej:j=n
   ·subst ej;exact h17.1 h
   ·exact n3 j (by omega)
 ·refine Mo.sum (PS:=fun _=>∀ l:Nat,l<3->(x.2.getD l default).Perm (wrs p (l:Int))/\(x.2.getD l default).getD 0 default=l) (PW:=fun b=>b=true↔Chk p x) ?_ fun _ hod => .pure ⟨fun _=>⟨hf,ho,hr,hod⟩,fun _=>rfl⟩;refine Mo.loop (fun z=>∃ n:Nat,n<=3/\z=(n:Int)/\∀ l:Nat,l<n->(x.2.getD l default).Perm (wrs p (l:Int))/\(x.2.getD l default).getD 0 default=l) (fun z=>(3-z).toNat) ⟨0,by omega,rfl,fun l hl=>absurd hl (by omega)⟩ fun z ⟨n,n1,n2,n3⟩ => ?_;subst n2;unfold oL;simp only [tnn];refine .bifD (fun hk => .gdD ⟨by omega,by omega⟩ ?_) fun hk => .pure fun l hl=>n3 l (by omega);have hrl:=hx _ (getD_in (show n<x.2.length by omega));refine (AO (l:=x.2.getD n default) (by omega)).bind fun v34 h34=>?_;subst h34;refine Mo.bind (P:=(· = Ik (x.2.getD n default))) (.gdD (by omega) (.pure rfl)) fun v38 h38=>(D9 hp _).bind fun v39 h39=>?_;subst h38 h39;have hsl:(Ik (x.2.getD n default)).length=(x.2.getD n default).length:=(pY _).length_eq;refine (xw (by omega)).bind fun v40 h40=>?_;subst h40;obtain ⟨t,ht⟩:=Iw (p:=p) (l:=n) (by omega);refine Mo.bind (P:=fun b:Bool=>b=false↔(x.2.getD n default).Perm (wrs p (n:Int))/\(x.2.getD n default).getD 0 default=n) (.bif (fun h => .pure ⟨fun e=>(by cases e),fun e=>?_⟩) fun h=>?_) fun s41 h41 => .bif (fun h => .pure ⟨fun e=>(by cases e),fun e=>?_⟩) fun h => .gdI (by omega) (.pure ⟨⟨n+1,by omega,rfl,fun l hl=>?_⟩,by omega⟩)
  ·rw [decide_eq_true ((GK (GI _)).2 e.1)] at h
   cases h
  ·have hp2:(x.2.getD n default).Perm (wrs p (n:Int)):=(GK (GI _)).1 (by simpa using h);have hpos:0<(x.2.getD n default).length:=by rw [hp2.length_eq,ht];simp
   refine .gdD ⟨by omega,by show (0:Int)<((x.2.getD n default).length:Int);omega⟩ (.pure ?_);show ((x.2.getD n default).getD 0 default != (n:Int))=false↔_;rw [bne_eq_false_iff_eq];exact ⟨fun e=>⟨hp2,e⟩,fun e=>e.2⟩
  ·have h0:s41=false:=h41.2 (e.ords n (by omega));rw [h0] at h
   cases h
  ·by_cases el:l=n
   ·subst el;exact h41.1 h
   ·exact n3 l (by omega)
end
section
variable {N:Nat} {f g:Int->Int->Bool}
theorem GL (i:Nat) (h:Int->Int->Bool) (hi:∀ j k:Nat,j<N->k<N->h j k=if j=i then g i k else f j k):(Mv N f).set i ((Mt (fun k=>g (i:Int) (k:Int)) N:Nat):Int)=Mv N h:=by
 unfold Mv;rw [Dr];refine kC fun j hj=>?_
 by_cases e:j=i
 ·subst e;rw [if_pos rfl];exact congrArg (fun n:Nat=>(n:Int)) (rC fun k hk=>((hi j k hj hk).trans (if_pos rfl)).symm)
 ·rw [if_neg e];exact congrArg (fun n:Nat=>(n:Int)) (rC fun k hk=>((hi j k hj hk).trans (if_neg e)).symm)
theorem GM (hN:N<=16):Mo (jq (Mv N f)) (· = Mv N fun i k=>f k i):=by
 unfold jq;refine (rD hN).bind fun v hv=>?_;subst hv;refine .bif (fun h=>by cases h) fun _=>?_;rw [iq];exact Mo.bind (P:=(· = Mv N fun i k=>f k i)) (Cu (by omega) (is:=fun i k=>kX i k (Mv N f)) fun i k hi hk=>(su (by omega) hk hi).bind fun v hv => .pure hv) fun v hv => .pure hv
def Dt (f g:Int->Int->Bool) (M:Nat) (i k:Int):Bool:=(List.range M).any fun m=>f i (m:Int)&&g (m:Int) k
theorem Cv (M:Nat) (i k:Int):Dt f g (M+1) i k=(Dt f g M i k||(f i (M:Int)&&g (M:Int) k)):=by
 unfold Dt;rw [List.range_succ,List.any_append];simp
theorem GN (hN:N<=16):Mo (jr (Mv N f) (Mv N g)) (· = Mv N (Dt f g N)):=by
 unfold jr;refine (GF hN).bind fun v hv=>?_;subst hv;refine .bif (fun h=>by cases h) fun _=>?_;refine .gdD ⟨by omega,by omega,by rw [iq];omega,by rw [iq];omega⟩ (Mo.bind (P:=(· = Mv N (Dt f g N))) ?_ fun v hv => .pure hv);have e0:List.replicate ((Mv N f).length:Int).toNat (default:Int)=Mv N fun i k=>decide (i<(0:Nat))&&Dt f g N i k:=by
  rw [iq,tnn,Bz];refine kC fun i hi=>?_;rw [rC (g:=fun _=>false) fun k hk=>by show (decide ((i:Int)<((0:Nat):Int))&&_)=false;rw [decide_eq_false (by omega)];rfl,Iy]
  rfl
 rw [e0];refine Mo.loop (fun z=>∃ i:Nat,i<=N/\z=(Mv N (fun j k=>decide (j<(i:Int))&&Dt f g N j k),(i:Int))) (fun z=>((N:Int)-z.2).toNat) ⟨0,by omega,rfl⟩ fun z ⟨i,h1,h2⟩ => ?_;subst h2;unfold jX;simp only [iq];refine .bifD (fun hk=>?_) fun hk => .pure ?_
 ·refine Mo.bind (P:=(· = Mv N (fun j k=>decide (j<((i+1:Nat):Int))&&Dt f g N j k))) ?_ fun v hv => .gdI (by omega) (.pure ⟨⟨i+1,by omega,by rw [hv];rfl⟩,by simp only [];omega⟩);refine Mo.loop (fun z=>∃ m:Nat,m<=N/\z=(Mv N (fun j k=>if j=(i:Int) then Dt f g m j k else decide (j<(i:Int))&&Dt f g N j k),(m:Int))) (fun z=>((N:Int)-z.2).toNat) ⟨0,by omega,congrArg (fun l=>(l,(0:Int))) (qi fun j k hj hk=>?_)⟩ fun z ⟨m,m1,m2⟩ => ?_
  ·by_cases e:(j:Int)=(i:Int)
   ·rw [if_pos e,decide_eq_false (by omega)];rfl
   ·rw [if_neg e]
  ·subst m2;unfold iX;simp only [iq];refine .bifD (fun hkk=>?_) fun hkk => .pure (qi fun j k hj hk=>?_)
   ·refine Mo.bind (P:=(· = Mv N (fun j k=>if j=(i:Int) then Dt f g (m+1) j k else decide (j<(i:Int))&&Dt f g N j k))) ?_ fun v hv => .gdI (by omega) (.pure ⟨⟨m+1,by omega,by rw [hv];rfl⟩,by simp only [];omega⟩);refine (su (by omega) (i:=i) (k:=m) (by omega) (by omega)).bind fun v hv => .bif (fun hb=>?_) fun hb => .pure (qi fun j k hj hk=>?_)
    ·simp only [tnn];refine .gdD ⟨by omega,by omega⟩ (.gdD ⟨by omega,by omega⟩ (.pure ?_));rw [uk (by omega),uk (by omega),Bx (gQ (by omega)) (gQ (by omega)),Gy];refine GL (g:=fun j k=>(if j=(i:Int) then Dt f g m j k else decide (j<(i:Int))&&Dt f g N j k)||g (m:Int) k) i _ fun j k hj hk=>?_;rw [hv] at hb
     by_cases e:j=i
     ·subst e;rw [if_pos rfl,if_pos rfl,if_pos rfl,Cv,hb,Bool.true_and]
     ·rw [if_neg (by omega),if_neg (by omega),if_neg (by omega)]
    ·rw [hv] at hb
     by_cases e:(j:Int)=(i:Int)
     ·rw [if_pos e,if_pos e,Cv,e,hb];simp
     ·rw [if_neg e,if_neg e]
   ·have : m=N:=by omega
    subst this
    by_cases e:(j:Int)=(i:Int)
    ·rw [if_pos e,decide_eq_true (by omega)];rfl
    ·rw [if_neg e]
     congr 1
     exact decide_eq_decide.2 (by omega)
 ·have : i=N:=by omega
  subst this;exact qi fun j k hj hk=>by rw [decide_eq_true (by omega)];rfl
def Mw (f:Int->Int->Bool):Nat->Int->Int->Bool
 | 0=>f
 | m+1=>fun i k=>Mw f m i k||(Mw f m i (m:Int)&&Mw f m (m:Int) k)
theorem JP (m:Nat) (k:Int):Mw f (m+1) (m:Int) k=Mw f m (m:Int) k:=by
 show (Mw f m (m:Int) k||(Mw f m (m:Int) (m:Int)&&Mw f m (m:Int) k))=_
 cases Mw f m (m:Int) k <;> simp
theorem Cw (hN:N<=16):Mo (gG (Mv N f)) (· = Mv N (Mw f N)):=by
 unfold gG;refine (rD hN).bind fun v hv=>?_;subst hv;refine .bif (fun h=>by cases h) fun _=>(AO (by rw [iq];omega)).bind fun v3 h3=>?_;subst h3;refine Mo.bind (P:=(· = Mv N (Mw f N))) ?_ fun v hv => .pure hv;refine Mo.loop (fun z=>∃ m:Nat,m<=N/\z=(Mv N (Mw f m),(m:Int))) (fun z=>((N:Int)-z.2).toNat) ⟨0,by omega,rfl⟩ fun z ⟨m,h1,h2⟩ => ?_;subst h2;unfold iW;simp only [iq];refine .bifD (fun hk=>?_) fun hk => .pure ?_
 ·refine Mo.bind (P:=(· = Mv N (Mw f (m+1)))) ?_ fun v hv => .gdI (by omega) (.pure ⟨⟨m+1,by omega,by rw [hv];rfl⟩,by simp only [];omega⟩);refine Mo.loop (fun z=>∃ i:Nat,i<=N/\z=(Mv N (fun j k=>if j<(i:Int) then Mw f (m+1) j k else Mw f m j k),(i:Int))) (fun z=>((N:Int)-z.2).toNat) ⟨0,by omega,congrArg (fun l=>(l,(0:Int))) (qi (g:=fun j k=>if j<((0:Nat):Int) then Mw f (m+1) j k else Mw f m j k) fun j k _ _=>(if_neg (by omega)).symm)⟩ fun z ⟨i,i1,i2⟩ => ?_;subst i2;unfold iV;simp only [iq];refine .bifD (fun hkk=>?_) fun hkk => .pure (qi fun j k hj _=>by rw [if_pos (by omega)]);refine Mo.bind (P:=(· = Mv N (fun j k=>if j<((i+1:Nat):Int) then Mw f (m+1) j k else Mw f m j k))) ?_ fun v hv => .gdI (by omega) (.pure ⟨⟨i+1,by omega,by rw [hv];rfl⟩,by simp only [];omega⟩);refine (su (by omega) (i:=i) (k:=m) (by omega) (by omega)).bind fun v hv=>?_;rw [if_neg (by omega)] at hv;refine .bif (fun hb=>?_) fun hb => .pure (qi fun j k hj hk=>?_)
  ·simp only [tnn];refine .gdD ⟨by omega,by omega⟩ (.gdD ⟨by omega,by omega⟩ (.pure ?_));rw [uk (by omega),uk (by omega),Bx (gQ (by omega)) (gQ (by omega)),Gy];have e1:Mt (fun j=>(if (i:Int)<(i:Int) then Mw f (m+1) (i:Int) (j:Int) else Mw f m (i:Int) (j:Int))||(if (m:Int)<(i:Int) then Mw f (m+1) (m:Int) (j:Int) else Mw f m (m:Int) (j:Int))) N=Mt (fun k=>Mw f (m+1) (i:Int) (k:Int)) N:=rC fun k hk=>by
    rw [if_neg (by omega),JP];rw [hv] at hb;show _=(Mw f m (i:Int) (k:Int)||(Mw f m (i:Int) (m:Int)&&Mw f m (m:Int) (k:Int)));rw [hb];simp
   rw [e1];refine GL (g:=Mw f (m+1)) i _ fun j k hj hk=>?_
   by_cases e:j=i
   ·subst e;rw [if_pos (by omega),if_pos rfl]
   ·rw [if_neg e]
    by_cases e2:(j:Int)<(i:Int)
    ·rw [if_pos e2,if_pos (by omega)]
    ·rw [if_neg e2,if_neg (by omega)]
  ·by_cases e:(j:Int)<(i:Int)
   ·rw [if_pos e,if_pos (by omega)]
   ·rw [if_neg e]
    by_cases e2:j=i
    ·subst e2;rw [if_pos (by omega)];rw [hv] at hb;show _=(Mw f m (j:Int) (k:Int)||(Mw f m (j:Int) (m:Int)&&Mw f m (m:Int) (k:Int)));rw [hb];simp
    ·rw [if_neg (by omega)]
 ·have : m=N:=by omega
  subst this
  rfl
theorem Ea {R:Int->Int->Prop} (hR:∀ (i k:Int) (j:Nat),j<N->R i (j:Int)->R (j:Int) k->R i k) (hf:∀ i k:Int,f i k=true->R i k):∀ (m:Nat),m<=N->∀ i k:Int,Mw f m i k=true->R i k
 | 0,_,i,k,h=>hf i k h
 | m+1,hm,i,k,h=>by
  simp only [Mw,Bool.or_eq_true,bae] at h;rcases h with h | ⟨h1,h2⟩
  ·exact Ea hR hf m (by omega) i k h
  ·exact hR i k m (by omega) (Ea hR hf m (by omega) _ _ h1) (Ea hR hf m (by omega) _ _ h2)
def uY (N:Nat) (f:Int->Int->Bool):Bool:=(List.range N).all fun i => !f (i:Int) (i:Int)
theorem zE:uY N f=true↔∀ i:Nat,i<N->f i i=false:=by
 unfold uY;rw [List.all_eq_true];exact ⟨fun h i hi=>by simpa using h i (List.mem_range.2 hi),fun h i hi=>by simp [h i (List.mem_range.1 hi)]⟩
theorem GQ (hN:N<=16):Mo (dU (Mv N f)) (· = uY N f):=by
 unfold dU;refine Mo.sum (PS:=fun _=>∀ i:Nat,i<N->f i i=false) (PW:=(· = uY N f)) ?_ fun _ h => .pure (zE.2 h).symm;refine Mo.loop (fun z=>∃ i:Nat,i<=N/\z=(i:Int)/\∀ j:Nat,j<i->f j j=false) (fun z=>((N:Int)-z).toNat) ⟨0,by omega,rfl,fun j hj=>absurd hj (by omega)⟩ fun z ⟨i,h1,h2,h3⟩ => ?_;subst h2;unfold mh;simp only [iq];refine .bifD (fun hk=>(su (by omega) (i:=i) (k:=i) (by omega) (by omega)).bind fun v hv => .bif (fun hb => .pure ?_) fun hb => .gdI (by omega) (.pure ⟨⟨i+1,by omega,rfl,fun j hj=>?_⟩,by omega⟩)) fun hk => .pure fun j hj=>h3 j (by omega)
 ·show false=_
  symm
  rw [Bool.eq_false_iff];intro hl;have := zE.1 hl i (by omega);rw [<- hv,hb] at this
  cases this
 ·by_cases e:j=i
  ·subst e;rw [<- hv];exact hb
  ·exact h3 j (by omega)
theorem GR (hN:N<=16):Mo (ju (Mv N f)) (· = uY N (Mw f N)):=by
 unfold ju;refine (rD hN).bind fun v hv=>?_;subst hv;exact Mo.bind (P:=(· = uY N (Mw f N))) (.bif (fun _=>(Cw hN).bind fun v hv=>by subst hv;exact (GQ hN).bind fun w hw => .pure hw) fun h=>by cases h) fun v hv => .pure hv
end
def Hw (base:ByteArray->Int->Int->Bool) (N:Nat) (op:Int) (nm:ByteArray) (rs:List (Int->Int->Bool)):Int->Int->Bool:=
 if op=1 then base nm else
 let a:=rs.getD 0 fun _ _=>false;let b:=rs.getD 1 fun _ _=>false
 if op=6 then fun i k=>a k i else if op=7 then Mw a N else
 if op=2 then fun i k=>a i k||b i k else if op=3 then fun i k=>a i k&&b i k else if op=4 then fun i k=>a i k && !b i k else Dt a b N
mutual
def AP (base:ByteArray->Int->Int->Bool) (N:Nat):TXimpl_RelExpr->Int->Int->Bool
 | .mk op nm ks=>Hw base N op nm (Af base N ks)
def Af (base:ByteArray->Int->Int->Bool) (N:Nat):List TXimpl_RelExpr->List (Int->Int->Bool)
 | []=>[]
 | t::l=>AP base N t::Af base N l
end
mutual
def VT:TXimpl_RelExpr->Prop
 | .mk op nm ks=>(op=1/\nm∈Cg)\/((op=6\/op=7)/\ks.length=1/\VL ks)\/((op=2\/op=3\/op=4\/op=5)/\ks.length=2/\VL ks)
def VL:List TXimpl_RelExpr->Prop
 | []=>True
 | t::l=>VT t/\VL l
end
theorem KE {α:Type} {l:List α} (h:l.length=1):∃ a,l=[a]:=by
 match l,h with
 | [a],_=>exact ⟨a,rfl⟩
theorem KG {α:Type} {l:List α} (h:l.length=2):∃ a b,l=[a,b]:=by
 match l,h with
 | [a,b],_=>exact ⟨a,b,rfl⟩
section
variable {p:List (List Mh)} {x:Mi} {N:Nat} {base:ByteArray->Int->Int->Bool}
def EvT (p:List (List Mh)) (x:Mi) (N:Nat) (base:ByteArray->Int->Int->Bool) (d:Nat) (t:TXimpl_RelExpr):Prop:=∀ m,d<m->Mo (cN m p x t.out) (· = Mv N (AP base N t))
mutual
theorem KH (hN:N<=16) (hb:∀ nm∈Cg,Mo (gX p x nm) (· = Mv N (base nm))):∀ t:TXimpl_RelExpr,VT t->∃ d,EvT p x N base d t
 | .mk op nm ks,h=>by
  rw [VT] at h;rcases h with ⟨h1,h2⟩ | ⟨h1,h2,h3⟩ | ⟨h1,h2,h3⟩
  ·refine ⟨0,fun m hm=>?_⟩;obtain ⟨m,rfl⟩:∃ q,m=q+1:=⟨m-1,by omega⟩;show Mo (cK (cN m) p x ⟨op,nm,ks⟩) _;unfold cK;simp only [];subst h1;refine .bif (fun _=>(hb nm h2).bind fun v hv => .pure ?_) fun h=>absurd h (by decide);rw [hv,AP,Hw,if_pos rfl]
  ·obtain ⟨d,hd⟩:=JQ hN hb ks h3;obtain ⟨a,rfl⟩:=KE h2;refine ⟨d+1,fun m hm=>?_⟩;obtain ⟨m,rfl⟩:∃ q,m=q+1:=⟨m-1,by omega⟩;have ha:=hd a (by simp) m (by omega);show Mo (cK (cN m) p x ⟨op,nm,[a]⟩) _;unfold cK;simp only [];refine .bif (fun h=>absurd (eq_of_beq h) (by omega)) fun _ => .gdD ⟨by decide,by simp⟩ (ha.bind fun v hv=>?_);subst hv;rcases h1 with rfl | rfl
   ·refine .bif (fun _=>(GM hN).bind fun v hv => .pure ?_) fun h=>absurd h (by decide);rw [hv,AP,Af,Af,Hw,if_neg (by decide),if_pos rfl]
    rfl
   ·refine .bif (fun h=>absurd h (by decide)) fun _ => .bif (fun _=>(Cw hN).bind fun v hv => .pure ?_) fun h=>absurd h (by decide);rw [hv,AP,Af,Af,Hw,if_neg (by decide),if_neg (by decide),if_pos rfl]
    rfl
  ·obtain ⟨d,hd⟩:=JQ hN hb ks h3;obtain ⟨a,b,rfl⟩:=KG h2;refine ⟨d+1,fun m hm=>?_⟩;obtain ⟨m,rfl⟩:∃ q,m=q+1:=⟨m-1,by omega⟩;have ha:=hd a (by simp) m (by omega);have hbb:=hd b (by simp) m (by omega);show Mo (cK (cN m) p x ⟨op,nm,[a,b]⟩) _;unfold cK;simp only [];refine .bif (fun h=>absurd (eq_of_beq h) (by omega)) fun _ => .gdD ⟨by decide,by simp⟩ (ha.bind fun v hv=>?_);subst hv;refine .bif (fun h=>absurd (eq_of_beq h) (by omega)) fun _ => .bif (fun h=>absurd (eq_of_beq h) (by omega)) fun _ => .gdD ⟨by decide,by simp⟩ (hbb.bind fun w hw=>?_);subst hw;rcases h1 with rfl | rfl | rfl | rfl
   ·refine .bif (fun _=>(JN hN).bind fun v hv => .pure ?_) fun h=>absurd h (by decide);rw [hv,AP,Af,Af,Af,Hw,if_neg (by decide),if_neg (by decide),if_neg (by decide),if_pos rfl]
    rfl
   ·refine .bif (fun h=>absurd h (by decide)) fun _ => .bif (fun _=>(KC hN).bind fun v hv => .pure ?_) fun h=>absurd h (by decide);rw [hv,AP,Af,Af,Af,Hw,if_neg (by decide),if_neg (by decide),if_neg (by decide),if_neg (by decide),if_pos rfl]
    rfl
   ·refine .bif (fun h=>absurd h (by decide)) fun _ => .bif (fun h=>absurd h (by decide)) fun _ => .bif (fun _=>(JO hN).bind fun v hv => .pure ?_) fun h=>absurd h (by decide);rw [hv,AP,Af,Af,Af,Hw,if_neg (by decide),if_neg (by decide),if_neg (by decide),if_neg (by decide),if_neg (by decide),if_pos rfl]
    rfl
   ·refine .bif (fun h=>absurd h (by decide)) fun _ => .bif (fun h=>absurd h (by decide)) fun _ => .bif (fun h=>absurd h (by decide)) fun _=>(GN hN).bind fun v hv => .pure ?_;rw [hv,AP,Af,Af,Af,Hw,if_neg (by decide),if_neg (by decide),if_neg (by decide),if_neg (by decide),if_neg (by decide),if_neg (by decide)]
    rfl
theorem JQ (hN:N<=16) (hb:∀ nm∈Cg,Mo (gX p x nm) (· = Mv N (base nm))):∀ l:List TXimpl_RelExpr,VL l->∃ d,∀ t∈l,EvT p x N base d t
 | [],_=>⟨0,fun t h=>by cases h⟩
 | t::l,h=>by
  rw [VL] at h;obtain ⟨d1,h1⟩:=KH hN hb t h.1;obtain ⟨d2,h2⟩:=JQ hN hb l h.2;refine ⟨max d1 d2,fun u hu=>?_⟩;rcases List.mem_cons.1 hu with rfl | hu
  ·exact fun m hm=>h1 m (by omega)
  ·exact fun m hm=>h2 u hu m (by omega)
end
theorem KI (hN:N<=16) (hb:∀ nm∈Cg,Mo (gX p x nm) (· = Mv N (base nm))) {t:TXimpl_RelExpr} (h:VT t):Mo (qN p x t.out) (· = Mv N (AP base N t)):=by
 obtain ⟨d,hd⟩:=KH hN hb t h;exact D8 d hd
def okR (base:ByteArray->Int->Int->Bool) (N:Nat) (r:ai):Bool:=uY N (if r.Kind=1 then Mw (AP base N r.Expr.inn) N else AP base N r.Expr.inn)
def VR (r:ai):Prop:=(r.Kind=1\/r.Kind=2)/\VT r.Expr.inn
theorem IA (hN:N<=16) (hb:∀ nm∈Cg,Mo (gX p x nm) (· = Mv N (base nm))) {m:List ai} (hm:∀ r∈m,VR r) (hl:m.length<=1000):Mo (gI p x m) fun v=>(v.1<0↔∀ r∈m,okR base N r=true)/\(v.1<0->v.1 = -1):=by
 unfold gI;refine Mo.sum (PS:=fun _=>∀ r∈m,okR base N r=true) (PW:=fun v:Int×LI=>(v.1<0↔∀ r∈m,okR base N r=true)/\(v.1<0->v.1 = -1)) ?_ fun _ h => .pure ⟨⟨fun _=>h,fun _=>by decide⟩,fun _=>rfl⟩;refine Mo.loop (fun z=>∃ i:Nat,i<=m.length/\z=(i:Int)/\∀ j:Nat,j<i->okR base N (m.getD j default)=true) (fun z=>((m.length:Int)-z).toNat) ⟨0,by omega,rfl,fun j hj=>absurd hj (by omega)⟩ fun z ⟨i,h1,h2,h3⟩ => ?_;subst h2;unfold oM;simp only [tnn];refine .bifD (fun hk=>?_) fun hk => .pure fun r hr=>?_
 ·have hmem:=getD_in (l:=m) (i:=i) (by omega);generalize hr:m.getD i default=r at hmem;obtain ⟨k1,k2⟩:=hm r hmem;refine .gdD ⟨by omega,hk⟩ ((KI hN hb (t:=r.Expr.inn) k2).bind fun v hv=>?_);subst hv;refine Mo.bind (P:=(· = okR base N r)) ?_ fun w hw => .bif (fun hf => .pure ⟨⟨fun h=>absurd h (by simp only [];omega),fun h=>?_⟩,fun h=>absurd h (by simp only [];omega)⟩) fun h => .gdI (by omega) (.pure ⟨⟨i+1,by omega,rfl,fun j hj=>?_⟩,by omega⟩)
  ·unfold nZ okR;rcases k1 with k1 | k1
   ·rw [k1];exact .bif (fun _=>(GR hN).bind fun v hv => .pure (by rw [hv,if_pos rfl])) fun h=>absurd h (by decide)
   ·rw [k1];exact .bif (fun h=>absurd h (by decide)) fun _ => .bif (fun _=>(GQ hN).bind fun v hv => .pure (by rw [hv,if_neg (by decide)])) fun h=>absurd h (by decide)
  ·have := h r hmem;rw [<- hw] at this;rw [this] at hf
   cases hf
  ·by_cases e:j=i
   ·subst e;rw [hr,<- hw];simpa using h
   ·exact h3 j (by omega)
 ·obtain ⟨j,hj,rfl⟩:=List.getElem_of_mem hr;have := h3 j (by omega);rw [gdq,geq hj] at this;exact this
end
theorem GU {l:LI} (hl:l.length<=4000000) (n:Int):Mo (bz l n) (· = plc l n):=by
 unfold bz;refine Mo.sum (PS:=fun _=>n∉l) (PW:=(· = plc l n)) ?_ fun _ hn => .pure (by unfold plc;rw [if_neg hn]);refine Mo.loop (fun z=>∃ i:Nat,i<=l.length/\z=(i:Int)/\∀ j,j<i->l.getD j default≠n) (fun z=>((l.length:Int)-z).toNat) ⟨0,by omega,rfl,fun j hj=>by omega⟩ fun z ⟨i,h1,h2,h3⟩ => ?_;subst h2;unfold fM;refine .bifD (fun hk => .gdD ⟨by omega,hk⟩ (.bif (fun he => .pure ?_) fun he => .gdI (by omega) (.pure ⟨⟨i+1,by omega,rfl,fun j hj=>?_⟩,by omega⟩))) fun hk => .pure ?_
 ·simp only [tnn,beq_iff_eq] at he;have hi:i<l.length:=by omega
  have hm:n∈l:=by rw [he];exact uh hi
  show (i:Int)=plc l n;unfold plc;rw [if_pos hm]
  congr 1
  have h4:=List.idxOf_lt_length_of_mem hm;rcases Nat.lt_trichotomy i (l.idxOf n) with h5 | h5 | h5
  ·exfalso;have : l.idxOf n<=i:=by
    have e:l=l.take i++l.drop i:=(List.take_append_drop i l).symm;rw [e,List.idxOf_append]
    split
    ·have := List.idxOf_lt_length_of_mem (by assumption:n∈l.take i);rw [List.length_take] at this;omega
    ·rw [List.drop_eq_getElem_cons hi,show l[i]=n by rw [he,gdq,geq hi];rfl,List.idxOf_cons_self,List.length_take];omega
   omega
  ·exact h5
  ·exact absurd (sj hm) (h3 _ h5)
 ·simp only [tnn,beq_eq_false_iff_ne] at he;rcases Nat.lt_or_ge j i with h | h
  ·exact h3 j h
  ·rw [show j=i by omega];exact fun e=>he e.symm
 ·intro hm;have h4:=List.idxOf_lt_length_of_mem hm;exact h3 (l.idxOf n) (by omega) (sj hm)
def pg (e:Mj) (w:Bool):Bool:=(e.db==w) && !(e.Reads==w)
theorem Eb (e:Mj) (w:Bool):Mo (di e w) (· = pg e w):=by
 unfold di;exact Mo.bind (P:=(· = pg e w)) (.bif (fun h => .pure (by unfold pg;rw [h];rfl)) fun h => .pure (by unfold pg;rw [h];rfl)) fun v hv => .pure hv
def Hy (l:List Mh):Bool:=l.any fun y=>y.Op==4
theorem KJ {l:List Mh} (hl:l.length<=4000000):Mo (aD l) (· = Hy l):=by
 unfold aD aW;refine Mo.bind (P:=fun v:Int=>(0<=v↔Hy l=true)) ?_ fun v hv => .pure ?_
 ·refine Mo.sum (PS:=fun _=>Hy l=false) (PW:=fun v:Int=>(0<=v↔Hy l=true)) ?_ fun _ hn => .pure (by rw [hn];simp);refine Mo.loop (fun z=>∃ i:Nat,i<=l.length/\z=(i:Int)/\∀ j,j<i->((l.getD j default).Op==4)=false) (fun z=>((l.length:Int)-z).toNat) ⟨0,by omega,rfl,fun j hj=>by omega⟩ fun z ⟨i,h1,h2,h3⟩ => ?_;subst h2;unfold bq p5;simp only [tnn];refine .bifD (fun hk => .gdD ⟨by omega,hk⟩ (Mo.bind (P:=(· = ((l.getD i default).Op==4))) (.pure rfl) fun v hv => .bif (fun he => .pure ⟨fun _=>?_,fun _=>by omega⟩) fun he => .gdI (by omega) (.pure ⟨⟨i+1,by omega,rfl,fun j hj=>?_⟩,by omega⟩))) fun hk => .pure ?_
  ·unfold Hy;rw [List.any_eq_true];exact ⟨l.getD i default,getD_in (by omega),by rw [<- hv];exact he⟩
  ·by_cases e:j=i
   ·subst e;rw [<- hv];exact he
   ·exact h3 j (by omega)
  ·show Hy l=false;unfold Hy;rw [List.any_eq_false];intro y hy;obtain ⟨j,hj,rfl⟩:=List.getElem_of_mem hy;have := h3 j (by omega);rw [gdq,geq hj] at this;rw [show l[j]=(some l[j]).getD default from rfl,this]
   decide
 ·show decide ((0:Int)<=v)=Hy l
  cases h:Hy l with
  | true=>exact decide_eq_true (hv.2 h)
  | false=>exact decide_eq_false fun e=>by rw [hv.1 e] at h;cases h
section
variable {p:List (List Mh)} {x:XS} {F:LI}
def K9 (p:List (List Mh)) (i k:Int):Bool:=poB p i k&&Hy (((p.getD (ev p i).Thread.toNat default).drop (ev p i).Index.toNat).take ((ev p k).Index.toNat-(ev p i).Index.toNat))
def LW (p:List (List Mh)) (i k:Int):Bool:=decide ((ev p i).Loc=(ev p k).Loc)
def extB (p:List (List Mh)) (i k:Int):Bool:=decide ((ev p i).Thread≠(ev p k).Thread)||decide ((ev p i).Thread<0)
def nmR (p:List (List Mh)) (x:XS) (nm:ByteArray):Int->Int->Bool:=
 if nm=⟨#[112,111]⟩ then poB p else if nm=⟨#[108,111,99]⟩ then LW p else if nm=⟨#[101,120,116]⟩ then extB p else if nm=⟨#[114,102]⟩ then rfB p x else
 if nm=⟨#[99,111]⟩ then coB p x else if nm=⟨#[102,114]⟩ then frB p x else if nm=⟨#[102,101,110,99,101]⟩ then K9 p else
 if nm=⟨#[119,114]⟩ then (fun i k=>pg (ev p i) true&&pg (ev p k) false) else if nm=⟨#[119,119]⟩ then (fun i k=>pg (ev p i) true&&pg (ev p k) true) else fun i k=>decide (i=k)
theorem GV {l:LI} {n:Int}:0<=plc l n↔n∈l:=by
 unfold plc
 split
 ·rename_i h;exact ⟨fun _=>h,fun _=>by omega⟩
 ·rename_i h;exact ⟨fun e=>by omega,fun e=>absurd e h⟩
theorem Ec (hX:XOk p x) {l:Int} (hl:0<=l/\l<=2) (i k:Int):Mo (dR ⟨x.1,x.2⟩ l i k) (· = (decide (i∈od x l)&&decide (k∈od x l)&&decide (plc (od x l) i<plc (od x l) k))):=by
 unfold dR;refine .gdD ⟨hl.1,by simp only [];rw [hX.o];omega⟩ ((GU (hX.r _) i).bind fun v hv=>(GU (hX.r _) k).bind fun w hw=>?_);change v=plc (od x l) i at hv;change w=plc (od x l) k at hw;subst hv hw;refine Mo.bind (P:=(· = (decide (i∈od x l)&&decide (k∈od x l)))) (.bifD (fun h => .pure ?_) fun h => .pure ?_) fun v hv=>Mo.bind (P:=(· = (decide (i∈od x l)&&decide (k∈od x l)&&decide (plc (od x l) i<plc (od x l) k)))) (.bif (fun h => .pure ?_) fun h => .pure ?_) fun v hv => .pure hv
 ·rw [decide_eq_true (GV.1 h),Bool.true_and];exact decide_eq_decide.2 GV
 ·rw [decide_eq_false fun e=>h (GV.2 e)]
  rfl
 ·rw [<- hv,h,Bool.true_and]
 ·rw [<- hv,h,Bool.false_and]
theorem KL (hp:PV p) (C:Cand p x F) {i k:Nat} (hi:i<(evs p).length) (hk:k<(evs p).length) (nm:ByteArray) (hn:nm∈Cg):Mo (o7 p ⟨x.1,x.2⟩ (evs p) nm (i:Int) (k:Int)) (· = nmR p x nm i k):=by
 have ei:(evs p).getD i default=ev p (i:Int):=by unfold ev;rw [tnn]
 have ek:(evs p).getD k default=ev p (k:Int):=by unfold ev;rw [tnn]
 have hl:=uj hp (n:=(i:Int)) (by omega) (by omega);have hX:=LO hp C;have hiF:(i:Int)∈F:=(C.mem _).2 ⟨by omega,by omega⟩;have hkF:(k:Int)∈F:=(C.mem _).2 ⟨by omega,by omega⟩;unfold o7;simp only [tnn,ei,ek];refine .gdD ⟨by omega,by omega⟩ (.gdD ⟨by omega,by omega⟩ (Mo.bind (P:=(· = (decide (0<=(ev p i).Thread)&&decide ((ev p i).Thread=(ev p k).Thread)))) (.bifD (fun h => .pure ?_) fun h => .pure ?_) fun same hs=>Mo.bind (P:=(· = poB p i k)) (.bif (fun h => .pure ?_) fun h => .pure ?_) fun po hpo=>?_))
 ·rw [decide_eq_true h,Bool.true_and];exact Kv _ _
 ·rw [decide_eq_false h];rfl
 ·unfold poB;rw [Bool.and_comm (decide ((ev p i).Thread=(ev p k).Thread)),<- hs,h,Bool.true_and]
 ·unfold poB;rw [Bool.and_comm (decide ((ev p i).Thread=(ev p k).Thread)),<- hs,h,Bool.false_and]
 subst hpo;clear hs;have hn':nm=⟨#[112,111]⟩\/nm=⟨#[108,111,99]⟩\/nm=⟨#[101,120,116]⟩\/nm=⟨#[114,102]⟩\/nm=⟨#[99,111]⟩\/nm=⟨#[102,114]⟩\/nm=⟨#[102,101,110,99,101]⟩\/nm=⟨#[119,114]⟩\/nm=⟨#[119,119]⟩\/nm=⟨#[105,100]⟩:=by
  simpa [Cg] using hn
 rcases hn' with rfl | rfl | rfl | rfl | rfl | rfl | rfl | rfl | rfl | rfl
 ·exact Mo.sumR (.bif (fun _ => .pure rfl) fun h=>absurd h (by decide))
 ·exact Mo.sumR (.bif (fun h=>absurd h (by decide)) fun _ => .bif (fun _ => .pure (congrArg Sum.inr (Kv _ _))) fun h=>absurd h (by decide))
 ·refine Mo.sumR (.bif (fun h=>absurd h (by decide)) fun _ => .bif (fun h=>absurd h (by decide)) fun _ => .bif (fun _=>?_) fun h=>absurd h (by decide));refine Mo.bind (P:=(· = extB p i k)) (.bif (fun h => .pure ?_) fun h => .pure ?_) fun v hv => .pure (congrArg Sum.inr hv)
  ·unfold extB;rw [decide_eq_true (show (ev p i).Thread≠(ev p k).Thread by simpa using h)]
   rfl
  ·unfold extB;rw [decide_eq_false (show ¬ (ev p i).Thread≠(ev p k).Thread by simpa using h)]
   rfl
 ·refine Mo.sumR (.bif (fun h=>absurd h (by decide)) fun _ => .bif (fun h=>absurd h (by decide)) fun _ => .bif (fun h=>absurd h (by decide)) fun _ => .bif (fun _=>?_) fun h=>absurd h (by decide));refine .gdD ⟨by omega,by show _<((x.1.length:Nat):Int);rw [C.flen];omega⟩ (.pure (congrArg Sum.inr ?_));show (x.1.getD k default==(i:Int))=rfB p x i k;unfold rfB;rw [tnn,Kv]
  cases hr:(ev p (k:Int)).Reads with
  | true=>rw [Bool.true_and]
  | false=>
   have := C.frN _ hkF hr;rw [tnn] at this;rw [this,Bool.false_and];exact decide_eq_false (by omega)
 ·refine Mo.sumR (.bif (fun h=>absurd h (by decide)) fun _ => .bif (fun h=>absurd h (by decide)) fun _ => .bif (fun h=>absurd h (by decide)) fun _ => .bif (fun h=>absurd h (by decide)) fun _ => .bif (fun _=>?_) fun h=>absurd h (by decide));refine (Ec hX hl i k).bind fun v hv => .pure (congrArg Sum.inr ?_);show v=coB p x i k;rw [hv];unfold coB
  congr 1
  have O:=C.ods _ hl;rw [Bool.eq_iff_iff];simp only [bae,dte]
  constructor
  ·rintro ⟨h1,h2⟩;exact ⟨⟨((O.mem _).1 h1).2.1,((O.mem _).1 h2).2.1⟩,((O.mem _).1 h2).2.2.symm⟩
  ·rintro ⟨⟨h1,h2⟩,h3⟩;exact ⟨(O.mem _).2 ⟨hiF,h1,rfl⟩,(O.mem _).2 ⟨hkF,h2,h3.symm⟩⟩
 ·refine Mo.sumR (.bif (fun h=>absurd h (by decide)) fun _ => .bif (fun h=>absurd h (by decide)) fun _ => .bif (fun h=>absurd h (by decide)) fun _ => .bif (fun h=>absurd h (by decide)) fun _ => .bif (fun h=>absurd h (by decide)) fun _ => .bif (fun _=>?_) fun h=>absurd h (by decide));refine Mo.bind (P:=(· = frB p x i k)) (.bif (fun h1 => .bif (fun h2 => .bif (fun h3 => .gdD ⟨by omega,by show _<((x.1.length:Nat):Int);rw [C.flen];omega⟩ ((Ec hX hl _ _).bind fun v hv => .pure ?_)) fun h3 => .pure ?_) fun h2 => .pure ?_) fun h1 => .pure ?_) fun v hv => .pure (congrArg Sum.inr hv)
  ·have h3 : ¬ (i:Int)=(k:Int):=by simpa using h3
   have O:=C.ods _ hl;rw [hv];unfold frB;have hrd:=C.rdc _ hiF h1;rw [tnn] at hrd ⊢;rw [h1,h2,decide_eq_false h3,decide_eq_true hrd];simp only [Bool.and_self,Bool.true_and,Bool.not_false,Bool.and_true]
   congr 1
   refine decide_eq_decide.2 ⟨fun h=>((O.mem _).1 h).2.2.symm,fun h=>(O.mem _).2 ⟨hkF,h2,h.symm⟩⟩
  ·have h3:(i:Int)=(k:Int):=by simpa using h3
   unfold frB;rw [decide_eq_true h3];simp
  ·unfold frB;rw [h2];simp
  ·unfold frB;rw [h1];simp
 ·refine Mo.sumR (.bif (fun h=>absurd h (by decide)) fun _ => .bif (fun h=>absurd h (by decide)) fun _ => .bif (fun h=>absurd h (by decide)) fun _ => .bif (fun h=>absurd h (by decide)) fun _ => .bif (fun h=>absurd h (by decide)) fun _ => .bif (fun h=>absurd h (by decide)) fun _ => .bif (fun _=>?_) fun h=>absurd h (by decide));refine Mo.bind (P:=(· = K9 p i k)) (.bif (fun h=>?_) fun h => .pure (by unfold K9;rw [h];rfl)) fun v hv => .pure (congrArg Sum.inr hv);have hpo:=h;unfold poB at h;simp only [bae,dte] at h;obtain ⟨⟨h1,h2⟩,h3⟩:=h;rcases r9 (p:=p) (n:=(k:Int)) (by omega) (by omega) with hc | ⟨t,q,hI,e⟩
  ·exfalso;have : (ev p (k:Int)).Thread = -1:=by
    rw [show (k:Int)=((k:Nat):Int) from rfl,(qR (p:=p) (l:=k) (by omega)).1]
   omega
  ·rcases r9 (p:=p) (n:=(i:Int)) (by omega) (by omega) with hc | ⟨t',q',hI',e'⟩
   ·exfalso;have : (ev p (i:Int)).Thread = -1:=by
     rw [(qR (p:=p) (l:=i) (by omega)).1]
    omega
   ·have a1:=(hI.ev (p:=p)).1;have a2:=(hI'.ev (p:=p)).1;rw [<- e] at a1;rw [<- e'] at a2;rw [a1,a2] at h1 h3;simp only at h1 h3;have ht:t'=t:=by omega
    subst ht;have hlen:=hI.k;refine .gdD ⟨by rw [a2];simp only [];omega,by rw [a2];simp only [];have := hI'.t;omega⟩ (.gdD ⟨by rw [a2];simp only [];omega,by rw [a1,a2];simp only [];omega,by rw [a1,a2];simp only [];rw [tnn];omega⟩ ((KJ ?_).bind fun v hv => .pure ?_))
    ·have := hp.vs.2 t';rw [a2];simp only [List.length_take,List.length_drop,tnn];omega
    ·rw [hv];unfold K9;rw [hpo,Bool.true_and]
 ·refine Mo.sumR (.bif (fun h=>absurd h (by decide)) fun _ => .bif (fun h=>absurd h (by decide)) fun _ => .bif (fun h=>absurd h (by decide)) fun _ => .bif (fun h=>absurd h (by decide)) fun _ => .bif (fun h=>absurd h (by decide)) fun _ => .bif (fun h=>absurd h (by decide)) fun _ => .bif (fun h=>absurd h (by decide)) fun _ => .bif (fun _=>?_) fun h=>absurd h (by decide));refine (Eb _ _).bind fun v hv=>Mo.bind (P:=(· = (pg (ev p i) true&&pg (ev p k) false))) (.bif (fun h=>(Eb _ _).bind fun w hw => .pure ?_) fun h => .pure ?_) fun v hv => .pure (congrArg Sum.inr hv)
  ·have e:pg (ev p i) true=true:=hv.symm.trans h;show w=(pg (ev p i) true&&pg (ev p k) false);rw [e];exact hw
  ·have e:pg (ev p i) true=false:=hv.symm.trans h;show false=(pg (ev p i) true&&pg (ev p k) false);rw [e]
   rfl
 ·refine Mo.sumR (.bif (fun h=>absurd h (by decide)) fun _ => .bif (fun h=>absurd h (by decide)) fun _ => .bif (fun h=>absurd h (by decide)) fun _ => .bif (fun h=>absurd h (by decide)) fun _ => .bif (fun h=>absurd h (by decide)) fun _ => .bif (fun h=>absurd h (by decide)) fun _ => .bif (fun h=>absurd h (by decide)) fun _ => .bif (fun h=>absurd h (by decide)) fun _ => .bif (fun _=>?_) fun h=>absurd h (by decide));refine (Eb _ _).bind fun v hv=>Mo.bind (P:=(· = (pg (ev p i) true&&pg (ev p k) true))) (.bif (fun h=>(Eb _ _).bind fun w hw => .pure ?_) fun h => .pure ?_) fun v hv => .pure (congrArg Sum.inr hv)
  ·have e:pg (ev p i) true=true:=hv.symm.trans h;show w=(pg (ev p i) true&&pg (ev p k) true);rw [e];exact hw
  ·have e:pg (ev p i) true=false:=hv.symm.trans h;show false=(pg (ev p i) true&&pg (ev p k) true);rw [e]
   rfl
 ·refine Mo.sum (PS:=fun _=>True) (PW:=(· = nmR p x ⟨#[105,100]⟩ i k)) (.bif (fun h=>absurd h (by decide)) fun _ => .bif (fun h=>absurd h (by decide)) fun _ => .bif (fun h=>absurd h (by decide)) fun _ => .bif (fun h=>absurd h (by decide)) fun _ => .bif (fun h=>absurd h (by decide)) fun _ => .bif (fun h=>absurd h (by decide)) fun _ => .bif (fun h=>absurd h (by decide)) fun _ => .bif (fun h=>absurd h (by decide)) fun _ => .bif (fun h=>absurd h (by decide)) fun _ => .pure trivial) fun _ _ => .pure (Kv _ _)
theorem Lp (hp:PV p) (C:Cand p x F) {nm:ByteArray} (hn:nm∈Cg):Mo (gX p ⟨x.1,x.2⟩ nm) (· = Mv (evs p).length (nmR p x nm)):=by
 have hel:=nC hp.vs;unfold gX;refine (zA hp.vs).bind fun v1 h1=>?_;subst h1;exact Mo.bind (P:=(· = Mv (evs p).length (nmR p x nm))) (Cu (by omega) (is:=fun i k=>qM i k p ⟨x.1,x.2⟩ (evs p) nm) fun i k hi hk=>(KL hp C hi hk nm hn).bind fun v hv => .pure hv) fun v hv => .pure hv
theorem KM (hv:gy (toI p)=true):(evs p).length<=15:=by
 have h1:=GA (p:=p) (fun e=>decide (0<=e.Thread)||true) uI (fun t k x ho=>by simp [uI,m5,ho]) (fun x ho=>by simp [uI,m5,ho]);rw [show (ev0.filter fun e=>decide (0<=e.Thread)||true).length=3 from rfl,List.filter_eq_self.2 (fun a _=>by simp)] at h1;simp only [gy,ry,bae,dte] at hv;have := hv.1.1.2;omega
end
section
variable {p:List (List Mh)} {x:XS} {F:LI}
def lrC (p:List (List Mh)) (t idx reg:Int) (e:Mj):Bool:=decide (e.Thread=t)&&decide (e.Index<idx)&&e.Reads&&(((p.getD t.toNat default).getD e.Index.toNat default).Reg==reg)
def lrN (p:List (List Mh)) (t idx reg:Int):Nat->Int
 | 0 => -1
 | n+1=>if lrC p t idx reg (ev p (n:Int))=true then (n:Int) else lrN p t idx reg n
def lrd (p:List (List Mh)) (t idx reg:Int):Int:=lrN p t idx reg (evs p).length
theorem Ja {t idx reg:Int}:∀ (n:Nat),(lrN p t idx reg n = -1/\∀ i:Nat,i<n->lrC p t idx reg (ev p (i:Int))=false)\/∃ r:Nat,r<n/\lrN p t idx reg n=(r:Int)/\lrC p t idx reg (ev p (r:Int))=true/\∀ i:Nat,i<n->r<i->lrC p t idx reg (ev p (i:Int))=false
 | 0 => .inl ⟨rfl,fun i h=>absurd h (Nat.not_lt_zero _)⟩
 | n+1=>by
  by_cases h:lrC p t idx reg (ev p (n:Int))=true
  ·exact .inr ⟨n,by omega,if_pos h,h,fun i h1 h2=>by omega⟩
  ·have e:lrN p t idx reg (n+1)=lrN p t idx reg n:=if_neg h;have hf:lrC p t idx reg (ev p (n:Int))=false:=by simpa using h
   rcases Ja n with ⟨h1,h2⟩ | ⟨r,h1,h2,h3,h4⟩
   ·refine .inl ⟨e.trans h1,fun i hi=>?_⟩
    by_cases ei:i=n
    ·subst ei;exact hf
    ·exact h2 i (by omega)
   ·refine .inr ⟨r,by omega,e.trans h2,h3,fun i hi hr=>?_⟩
    by_cases ei:i=n
    ·subst ei;exact hf
    ·exact h4 i (by omega) hr
theorem AQ (t idx reg:Int):(lrd p t idx reg = -1/\∀ i:Nat,i<(evs p).length->lrC p t idx reg (ev p (i:Int))=false)\/∃ r:Nat,r<(evs p).length/\lrd p t idx reg=(r:Int)/\lrC p t idx reg (ev p (r:Int))=true/\∀ i:Nat,i<(evs p).length->r<i->lrC p t idx reg (ev p (i:Int))=false:=Ja _
theorem qj {t idx reg:Int} {e:Mj}:lrC p t idx reg e=true↔e.Thread=t/\e.Index<idx/\e.Reads=true/\((p.getD t.toNat default).getD e.Index.toNat default).Reg=reg:=by
 unfold lrC;simp only [bae,dte,beq_iff_eq];exact ⟨fun ⟨⟨⟨a,b⟩,c⟩,d⟩=>⟨a,b,c,d⟩,fun ⟨a,b,c,d⟩=>⟨⟨⟨a,b⟩,c⟩,d⟩⟩
theorem AR (hp:PV p) {n:Int} (h0:0<=n) (h:n<((evs p).length:Int)) (ht : ¬ (ev p n).Thread<0):∃ t k:Nat,Isn p t k/\n=(base p t k:Int)/\(ev p n).Thread=(t:Int)/\(ev p n).Index=(k:Int):=by
 rcases r9 h0 h with hc | ⟨t,k,hI,rfl⟩
 ·exfalso;have := (qR (p:=p) (l:=n.toNat) (by omega)).1;rw [Int.toNat_of_nonneg h0] at this;rw [this] at ht;exact ht (by show (-1:Int)<0;decide)
 ·exact ⟨t,k,hI,rfl,by rw [hI.ev.1],by rw [hI.ev.1]⟩
def VB (p:List (List Mh)) (x:XS) (vals:LI) (B:List Bool):az:=⟨p,⟨x.1,x.2⟩,evs p,vals,B⟩
theorem EG (hp:PV p) {vals:LI} {B:List Bool} {t:Nat} (ht:t<p.length) (idx reg:Int):Mo (eZ (VB p x vals B) (t:Int) idx reg) (· = (VB p x vals B,lrd p (t:Int) idx reg)):=by
 have hel:=nC hp.vs;unfold eZ;refine Mo.bind (P:=(· = lrd p (t:Int) idx reg)) ?_ fun v hv => .pure (by rw [hv]);refine Mo.loop (fun z=>∃ n:Nat,n<=(evs p).length/\z=((n:Int),lrN p (t:Int) idx reg n)) (fun z=>(((evs p).length:Int)-z.1).toNat) ⟨0,by omega,rfl⟩ fun z ⟨n,h1,h2⟩ => ?_;subst h2;unfold kz;have en:(evs p).getD n default=ev p (n:Int):=by unfold ev;rw [tnn]
 simp only [VB,tnn,en];refine .bifD (fun hk=>?_) fun hk => .pure (by rw [show n=(evs p).length by omega];rfl);refine Mo.bind (P:=(· = lrN p (t:Int) idx reg (n+1))) (.gdD ⟨by omega,hk⟩ (Mo.bind (P:=(· = lrC p (t:Int) idx reg (ev p (n:Int)))) (.bif (fun h1 => .bifD (fun h2 => .bif (fun h3=>?_) fun h3 => .pure ?_) fun h2 => .pure ?_) fun h1 => .pure ?_) fun v hv => .bif (fun h => .pure ?_) fun h => .pure ?_)) fun v hv => .gdI (by omega) (.pure ⟨⟨n+1,by omega,by rw [hv];rfl⟩,by simp only [];omega⟩)
 ·have h1:(ev p (n:Int)).Thread=(t:Int):=eq_of_beq h1;obtain ⟨t',k,hI,e,e1,e2⟩:=AR hp (n:=(n:Int)) (by omega) (by omega) (by omega);have : t'=t:=by omega
  subst this;have := hI.k;refine .gdD ⟨by omega,by omega⟩ (.gdD ⟨by omega,by rw [e2];omega⟩ (.pure ?_));unfold lrC;rw [decide_eq_true h1,decide_eq_true h2,h3,tnn]
  rfl
 ·unfold lrC;rw [h3];simp
 ·unfold lrC;rw [decide_eq_false h2];simp
 ·unfold lrC;rw [decide_eq_false (fun e=>by rw [e] at h1;simp at h1)];simp
 ·show (n:Int)=lrN p (t:Int) idx reg (n+1);rw [lrN,if_pos (by rw [<- hv];exact h)]
 ·show lrN p (t:Int) idx reg n=lrN p (t:Int) idx reg (n+1);rw [lrN,if_neg (by rw [<- hv,h];decide)]
def Cy (p:List (List Mh)) (i:Int):Mh:=(p.getD (ev p i).Thread.toNat default).getD (ev p i).Index.toNat default
def lrE (p:List (List Mh)) (i:Int):Int:=lrd p (ev p i).Thread (ev p i).Index (Cy p i).Reg
def Stp (p:List (List Mh)) (x:XS) (i j:Int):Prop := ¬ (ev p i).Thread<0/\(Cy p i).Op=3 /\ ¬ lrE p i<0/\j=x.1.getD (lrE p i).toNat default
inductive Chn (p:List (List Mh)) (x:XS):Int->Int->Prop
 | ini {i:Int} (h:(ev p i).Thread<0):Chn p x i 0
 | val {i:Int} (h : ¬ (ev p i).Thread<0) (h3:(Cy p i).Op≠3):Chn p x i (Cy p i).Val
 | zer {i:Int} (h : ¬ (ev p i).Thread<0) (h3:(Cy p i).Op=3) (hr:lrE p i<0):Chn p x i 0
 | nxt {i j v:Int} (h:Stp p x i j) (c:Chn p x j v):Chn p x i v
inductive Rc (p:List (List Mh)) (x:XS):Int->Int->Prop
 | refl (i:Int):Rc p x i i
 | step {i j k:Int} (h:Stp p x i j) (c:Rc p x j k):Rc p x i k
def Cyc (p:List (List Mh)) (x:XS) (i:Int):Prop:=∃ j k,Rc p x i j/\Stp p x j k/\Rc p x k j
theorem Stp.det {i j k:Int} (h:Stp p x i j) (h':Stp p x i k):j=k:=h.2.2.2.trans h'.2.2.2.symm
theorem Chn.det {i v w:Int} (h:Chn p x i v):Chn p x i w->v=w:=by
 induction h with
 | ini h=>intro h';cases h' with
  | ini _=>rfl
  | val h1 _=>exact absurd h h1
  | zer h1 _ _=>exact absurd h h1
  | nxt h1 _=>exact absurd h h1.1
 | val h h3=>intro h';cases h' with
  | ini h1=>exact absurd h1 h
  | val _ _=>rfl
  | zer _ h1 _=>exact absurd h1 h3
  | nxt h1 _=>exact absurd h1.2.1 h3
 | zer h h3 hr=>intro h';cases h' with
  | ini h1=>exact absurd h1 h
  | val _ h1=>exact absurd h3 h1
  | zer _ _ _=>rfl
  | nxt h1 _=>exact absurd hr h1.2.2.1
 | nxt h c ih=>intro h';cases h' with
  | ini h1=>exact absurd h1 h.1
  | val _ h1=>exact absurd h.2.1 h1
  | zer _ _ h1=>exact absurd h1 h.2.2.1
  | nxt h1 c1=>obtain rfl:=h.det h1;exact ih c1
theorem Chn.not_cyc {i v:Int} (h:Chn p x i v) : ¬ Cyc p x i:=by
 have nost:∀ {i},(∀ j,¬ Stp p x i j) -> ¬ Cyc p x i:=fun {i} hn ⟨j,k,h1,h2,h3⟩=>by
  cases h1 with
  | refl _=>exact hn _ h2
  | step h _=>exact hn _ h
 induction h with
 | ini h=>exact nost fun j hj=>hj.1 h
 | val h h3=>exact nost fun j hj=>h3 hj.2.1
 | zer h h3 hr=>exact nost fun j hj=>hj.2.2.1 hr
 | nxt h c ih=>
  rintro ⟨j,k,h1,h2,h3⟩
  cases h1 with
  | refl _=>
   obtain rfl:=h.det h2;exact ih ⟨_,_,h3,h2,h3⟩
  | step h' c'=>
   obtain rfl:=h.det h';exact ih ⟨j,k,c',h2,h3⟩
theorem Cyc.step {i j:Int} (h:Stp p x i j) (c:Cyc p x j):Cyc p x i:=by
 obtain ⟨a,b,h1,h2,h3⟩:=c;exact ⟨a,b,.step h h1,h2,h3⟩
theorem Ag {B:List Bool} {i:Nat} (hi:i<B.length) (hb:B.getD i default=false):(B.set i true).count false+1=B.count false:=by
 induction B generalizing i with
 | nil=>simp at hi
 | cons b B ih=>
  cases i with
  | zero=>
   have : b=false:=hb;subst this;simp
  | succ i=>
   have := ih (i:=i) (by simpa using hi) hb;simp only [List.set_cons_succ,List.count_cons];omega
theorem IB {B:List Bool} {i:Nat} (hi:i<B.length) (hb:B.getD i default=false):(B.set i true).set i false=B:=by
 rw [List.set_set];apply List.ext_getElem
 ·simp
 ·intro j h1 h2;rw [List.getElem_set]
  split
  ·rename_i e;subst e;rw [gdq,geq hi] at hb;exact hb.symm
  ·rfl
def Lr (p:List (List Mh)) (x:XS) (vals:LI) (B:List Bool) (i:Int) (q:az×Int×Bool):Prop:=
 q.1=VB p x vals B/\(q.2.2=true->Chn p x i q.2.1)/\(q.2.2=false->q.2.1=0/\((∃ j:Nat,B.getD j default=true/\Rc p x i (j:Int))\/Cyc p x i))
theorem GX (hp:PV p) (C:Cand p x F):∀ (m:Nat) (vals:LI) (B:List Bool) (i:Nat),B.count false<m->B.length=(evs p).length->i<(evs p).length->Mo (bK m (VB p x vals B) (i:Int)) (Lr p x vals B (i:Int))
 | 0,_,_,_,h,_,_=>absurd h (Nat.not_lt_zero _)
 | m+1,vals,B,i,hm,hB,hi=>by
  have hel:=nC hp.vs;have ei:(evs p).getD i default=ev p (i:Int):=by unfold ev;rw [tnn]
  show Mo (fI (bK m) (VB p x vals B) (i:Int)) _;unfold fI;simp only [VB,tnn,ei];refine .gdD ⟨by omega,by omega⟩ (.bifD (fun h0 => .pure ⟨rfl,fun _ => .ini h0,fun e=>(by cases e)⟩) fun h0=>?_);obtain ⟨t,k,hI,e,e1,e2⟩:=AR hp (n:=(i:Int)) (by omega) (by omega) h0;have hins:((p.getD (ev p (i:Int)).Thread.toNat default).getD (ev p (i:Int)).Index.toNat default)=Cy p (i:Int):=rfl;simp only [hins];have ht:=hI.t;have hk:=hI.k;refine .gdD ⟨by omega,by omega⟩ (.gdD ⟨by omega,by rw [e1,e2,tnn];omega⟩ (.bif (fun h3 => .pure ⟨rfl,fun _ => .val h0 (by simpa using h3),fun e=>(by cases e)⟩) fun h3=>?_));have h3:(Cy p (i:Int)).Op=3:=by simpa using h3
  refine .gdD ⟨by omega,by omega⟩ (.bif (fun hb => .pure ⟨rfl,fun e=>(by cases e),fun _=>⟨rfl,.inl ⟨i,hb,.refl _⟩⟩⟩) fun hb=>?_);have hlr:=EG (x:=x) (vals:=vals) (B:=B) hp ht (ev p (i:Int)).Index (Cy p (i:Int)).Reg;rw [<- e1] at hlr;refine hlr.bind fun v8 h8=>?_;subst h8;have hlE:lrd p (ev p (i:Int)).Thread (ev p (i:Int)).Index (Cy p (i:Int)).Reg=lrE p (i:Int):=rfl;simp only [VB,hlE];refine .bifD (fun hr => .pure ⟨rfl,fun _ => .zer h0 h3 hr,fun e=>(by cases e)⟩) fun hr=>?_;rcases AQ (p:=p) (ev p (i:Int)).Thread (ev p (i:Int)).Index (Cy p (i:Int)).Reg with ⟨g1,_⟩ | ⟨r,g1,g2,g3,_⟩
  ·rw [hlE] at g1;exact absurd (show lrE p (i:Int)<0 by omega) hr
  rw [hlE] at g2;have hrd:=(qj.1 g3).2.2.1;have hrF:(r:Int)∈F:=(C.mem _).2 ⟨by omega,by omega⟩;have hfr:=C.rdc _ hrF hrd;rw [tnn] at hfr;obtain ⟨j0,j1⟩:=(C.mem _).1 (((C.ods _ (uj hp (n:=(r:Int)) (by omega) (by omega))).mem _).1 hfr).1;generalize hj:x.1.getD r default=j at hfr j0 j1;have hst:Stp p x (i:Int) j:=⟨h0,h3,hr,by rw [g2,tnn,hj]⟩;refine .gdD ⟨by omega,by omega⟩ (.gdD ⟨by omega,by rw [g2,C.flen];omega⟩ ?_);rw [g2,tnn,hj];have hc:=Ag (show i<B.length by omega) hb;have hrec:=GX hp C m vals (B.set i true) j.toNat (by omega) (by rw [List.length_set];exact hB) (by omega);rw [Int.toNat_of_nonneg j0] at hrec;refine hrec.bind fun q ⟨q1,q2,q3⟩ => ?_;rw [q1];simp only [VB,List.length_set];refine .gdD ⟨by omega,by omega⟩ (.pure ⟨?_,fun h => .nxt hst (q2 h),fun h=>?_⟩)
  ·simp only [VB,IB (show i<B.length by omega) hb]
  ·obtain ⟨q4,q3⟩:=q3 h;refine ⟨q4,?_⟩;rcases q3 with ⟨a,a1,a2⟩ | hcy
   ·by_cases ea:a=i
    ·subst ea;exact .inr ⟨_,_,.refl _,hst,a2⟩
    ·refine .inl ⟨a,?_,.step hst a2⟩;rw [gdq,List.getElem?_set_ne (Ne.symm ea)] at a1;rw [gdq];exact a1
   ·exact .inr (.step hst hcy)
theorem GY (hp:PV p) (C:Cand p x F) (vals:LI) {i:Nat} (hi:i<(evs p).length):Mo (kY (VB p x vals (List.replicate (evs p).length false)) (i:Int)) fun q=>q.1=VB p x vals (List.replicate (evs p).length false)/\(q.2.2=true->Chn p x (i:Int) q.2.1)/\(q.2.2=false->Cyc p x (i:Int)):=by
 have nob:∀ {q:az×Int×Bool},Lr p x vals (List.replicate (evs p).length false) (i:Int) q->q.1=VB p x vals (List.replicate (evs p).length false)/\(q.2.2=true->Chn p x (i:Int) q.2.1)/\(q.2.2=false->q.2.1=0/\Cyc p x (i:Int)):=fun {q} ⟨h1,h2,h3⟩=>⟨h1,h2,fun h=>⟨(h3 h).1,by
  rcases (h3 h).2 with ⟨j,hj,_⟩ | hc
  ·exfalso;rw [gdq,List.getElem?_replicate] at hj
   split at hj <;> cases hj
  ·exact hc⟩⟩
 have key:∀ m,(evs p).length<m->Mo (bK m (VB p x vals (List.replicate (evs p).length false)) (i:Int)) (Lr p x vals (List.replicate (evs p).length false) (i:Int)):=fun m hm=>GX hp C m vals _ i (by simp;omega) (by simp) hi;obtain ⟨q,hq,hP⟩:=key ((evs p).length+1) (by omega);obtain ⟨p1,p2,p3⟩:=nob hP;refine .of (D8 (v:=q) (evs p).length fun m hm=>?_).eq ⟨p1,p2,fun h=>(p3 h).2⟩;obtain ⟨q',hq',hP'⟩:=key m hm;obtain ⟨r1,r2,r3⟩:=nob hP';refine .of hq' ?_;obtain ⟨qa,qb,qc⟩:=q;obtain ⟨ra,rb,rc⟩:=q';simp only at p1 p2 p3 r1 r2 r3;subst p1 r1
 cases qc <;> cases rc
 ·rw [(p3 rfl).1,(r3 rfl).1]
 ·exact absurd (p3 rfl).2 (r2 rfl).not_cyc
 ·exact absurd (r3 rfl).2 (p2 rfl).not_cyc
 ·rw [(p2 rfl).det (r2 rfl)]
theorem IC (hp:PV p) (C:Cand p x F):Mo (mq p ⟨x.1,x.2⟩) fun q=>(q.2=true->q.1.length=(evs p).length/\∀ i:Nat,i<(evs p).length->(ev p (i:Int)).db=true->Chn p x (i:Int) (q.1.getD i default))/\(q.2=false->∃ i:Nat,i<(evs p).length/\(ev p (i:Int)).db=true/\Cyc p x (i:Int)):=by
 have hel:=nC hp.vs;unfold mq;refine (zA hp.vs).bind fun v1 h1=>?_;subst h1;refine .gdD ⟨by omega,by omega,by omega,by omega⟩ ?_;refine Mo.sum (PS:=fun z=>z.1.length=(evs p).length/\∀ i:Nat,i<(evs p).length->(ev p (i:Int)).db=true->Chn p x (i:Int) (z.1.getD i default)) (PW:=fun q:List Int×Bool=>(q.2=true->q.1.length=(evs p).length/\∀ i:Nat,i<(evs p).length->(ev p (i:Int)).db=true->Chn p x (i:Int) (q.1.getD i default))/\(q.2=false->∃ i:Nat,i<(evs p).length/\(ev p (i:Int)).db=true/\Cyc p x (i:Int))) ?_ fun z hz => .pure ⟨fun _=>hz,fun e=>(by cases e)⟩;have e0:List.replicate ((evs p).length:Int).toNat (default:Bool)=List.replicate (evs p).length false:=by rw [tnn];rfl
 rw [e0];refine Mo.loop (fun z=>∃ n:Nat,n<=(evs p).length/\z.2=(p,x.1,x.2,evs p,List.replicate (evs p).length false,(n:Int))/\z.1.length=n/\∀ i:Nat,i<n->(ev p (i:Int)).db=true->Chn p x (i:Int) (z.1.getD i default)) (fun z=>(((evs p).length:Int)-z.2.2.2.2.2.2).toNat) ⟨0,by omega,rfl,rfl,fun i hi=>absurd hi (by omega)⟩ fun z ⟨n,n1,n2,n3,n4⟩ => ?_;obtain ⟨vals,z2⟩:=z;simp only at n2 n3 n4;subst n2;unfold kZ;have en:(evs p).getD n default=ev p (n:Int):=by unfold ev;rw [tnn]
 simp only [tnn,en];refine .bifD (fun hk => .gdD ⟨by omega,hk⟩ ?_) fun hk => .pure ⟨by simp only [];omega,fun i hi=>n4 i (by omega)⟩;refine Mo.sum (PS:=fun s=>s.1=p/\s.2.1=x.1/\s.2.2.1=x.2/\s.2.2.2.1=evs p/\s.2.2.2.2.1=List.replicate (evs p).length false/\((ev p (n:Int)).db=true->Chn p x (n:Int) s.2.2.2.2.2)) ?_ fun s ⟨s1,s2,s3,s4,s5,s6⟩ => .gd (eu (by omega) rfl) (.gdI (by omega) (.pure ⟨⟨n+1,by omega,?_,by simp [n3],fun i hi hw=>?_⟩,by simp only [];omega⟩))
 ·refine .bif (fun hw=>?_) fun hw => .pure ⟨rfl,rfl,rfl,rfl,rfl,fun h=>by rw [hw] at h;cases h⟩;refine (GY hp C vals (i:=n) (by omega)).bind fun q ⟨q1,q2,q3⟩ => .bif (fun hq => .pure ?_) fun hq => .pure ⟨by rw [q1];rfl,by rw [q1];rfl,by rw [q1];rfl,by rw [q1];rfl,by rw [q1];rfl,fun _=>q2 (by simpa using hq)⟩;exact ⟨fun e=>(by cases e),fun _=>⟨n,by omega,hw,q3 (by simpa using hq)⟩⟩
 ·rw [s1,s2,s3,s4,s5]
  rfl
 ·by_cases e:i=n
  ·subst e;simp only [];rw [gdq,gar (by omega),n3,Nat.sub_self];exact s6 hw
  ·simp only [];rw [gdq,gal (by omega)];have := n4 i (by omega) hw
   rwa [gdq] at this
end
section
variable {p:List (List Mh)} {x:XS} {F:LI}
def tNm (s:ByteArray):TXimpl_RelExpr := .mk 1 s []
def JR (op:Int) (a b:TXimpl_RelExpr):TXimpl_RelExpr := .mk op ⟨#[]⟩ [a,b]
def sPo:ByteArray:=⟨#[112,111]⟩
def sRf:ByteArray:=⟨#[114,102]⟩
def sCo:ByteArray:=⟨#[99,111]⟩
def sFr:ByteArray:=⟨#[102,114]⟩
def KN:TXimpl_RelExpr:=JR 2 (JR 2 (JR 2 (tNm sPo) (tNm sRf)) (tNm sCo)) (tNm sFr)
def JS:List ai:=[⟨1,KN.out⟩]
theorem ID {s:ByteArray} (h:s∈Cg):VT (tNm s):=by unfold tNm;rw [VT];exact .inl ⟨rfl,h⟩
theorem GZ {op:Int} {a b:TXimpl_RelExpr} (ho:op=2\/op=3\/op=4\/op=5) (ha:VT a) (hb:VT b):VT (JR op a b):=by unfold JR;rw [VT];exact .inr (.inr ⟨ho,rfl,by rw [VL,VL,VL];exact ⟨ha,hb,trivial⟩⟩)
theorem KO:VT KN:=GZ (.inl rfl) (GZ (.inl rfl) (GZ (.inl rfl) (ID (by simp [Cg,sPo])) (ID (by simp [Cg,sRf]))) (ID (by simp [Cg,sCo]))) (ID (by simp [Cg,sFr]))
theorem Ed {base:ByteArray->Int->Int->Bool} {N:Nat} (s:ByteArray):AP base N (tNm s)=base s:=by unfold tNm;rw [AP,Hw,if_pos rfl]
theorem G3 {base:ByteArray->Int->Int->Bool} {N:Nat} (a b:TXimpl_RelExpr):AP base N (JR 2 a b)=fun i k=>AP base N a i k||AP base N b i k:=by
 unfold JR;rw [AP,Af,Af,Af,Hw,if_neg (by decide),if_neg (by decide),if_neg (by decide),if_pos rfl];rfl
theorem JU:AP (nmR p x) (evs p).length KN=bef p x:=by
 unfold KN;rw [G3,G3,G3,Ed,Ed,Ed,Ed]
 rfl
theorem G5 (hp:PV p) (R:RunOf p x F):uY (evs p).length (Mw (bef p x) (evs p).length)=true:=by
 rw [zE];intro i hi
 cases h:Mw (bef p x) (evs p).length (i:Int) (i:Int) with
 | false=>rfl
 | true=>
  exfalso;have hR:=Ea (N:=(evs p).length) (f:=bef p x) (R:=fun i k=>i∈F->k∈F->rk F i<rk F k) (fun i k j hj h1 h2 hi hk=>by
   have hjF:(j:Int)∈F:=(R.mem _).2 ⟨by omega,by omega⟩;have := h1 hi hjF;have := h2 hjF hk;omega) (fun i k h hi hk=>Gw hp R hi hk h) _ (Nat.le_refl _) _ _ h
  have hiF:(i:Int)∈F:=(R.mem _).2 ⟨by omega,by omega⟩;have := hR hiF hiF;omega
theorem Ee (hp:PV p) (R:RunOf p x F):∀ (n:Nat) (i:Int),i∈F->rk F i<n->∃ v,Chn p x i v
 | 0,_,_,h=>absurd h (Nat.not_lt_zero _)
 | n+1,i,hi,hn=>by
  obtain ⟨i0,i1⟩:=(R.mem i).1 hi;have C:=R.cand hp
  by_cases h0:(ev p i).Thread<0
  ·exact ⟨_,.ini h0⟩
  ·by_cases h3:(Cy p i).Op=3
   ·by_cases hr:lrE p i<0
    ·exact ⟨_,.zer h0 h3 hr⟩
    ·rcases AQ (p:=p) (ev p i).Thread (ev p i).Index (Cy p i).Reg with ⟨g1,_⟩ | ⟨r,g1,g2,g3,_⟩
     ·exact absurd (show lrE p i<0 by show lrd _ _ _ _<0;omega) hr
     ·obtain ⟨c1,c2,c3,c4⟩:=qj.1 g3;have hrF:(r:Int)∈F:=(R.mem _).2 ⟨by omega,by omega⟩;have hfr:=C.rdc _ hrF c3;rw [tnn] at hfr;have hjF:=(((C.ods _ (uj hp (n:=(r:Int)) (by omega) (by omega))).mem _).1 hfr).1;have b1:bef p x (x.1.getD r default) (r:Int)=true:=by
       unfold bef rfB;rw [c3,tnn,decide_eq_true rfl];simp
      have b2:bef p x (r:Int) i=true:=by
       unfold bef poB;rw [decide_eq_true c1,decide_eq_true (by omega:0<=(ev p (r:Int)).Thread),decide_eq_true c2]
       rfl
      have r1:=Gw hp R hjF hrF b1;have r2:=Gw hp R hrF hi b2;obtain ⟨v,hv⟩:=Ee hp R n _ hjF (by omega);exact ⟨v,.nxt ⟨h0,h3,hr,by show _=x.1.getD (lrd _ _ _ _).toNat default;rw [g2,tnn]⟩ hv⟩
   ·exact ⟨_,.val h0 h3⟩
theorem EH (hp:PV p) (hv:gy (toI p)=true) (C:Cand p x F):Mo (gI p ⟨x.1,x.2⟩ JS) fun v=>(v.1<0↔uY (evs p).length (Mw (bef p x) (evs p).length)=true)/\(v.1<0->v.1 = -1):=by
 have hN:=KM hv;refine (IA (N:=(evs p).length) (base:=nmR p x) (by omega) (fun nm hn=>Lp hp C hn) (m:=JS) (fun r hr=>?_) (by decide)).mono fun v ⟨h1,h2⟩=>⟨h1.trans ?_,h2⟩
 ·obtain rfl:=List.mem_singleton.1 hr;exact ⟨.inl rfl,KO⟩
 ·unfold JS;simp only [List.mem_singleton,forall_eq];unfold okR;rw [if_pos rfl];show uY _ (Mw (AP (nmR p x) (evs p).length KN) _)=true↔_;rw [JU]
end
theorem IE:kx ⟨#[115,101,113]⟩=some (JS,true):=xu _ _ (by kernel_rfl)
theorem IG:eG JS=some true:=oP _ _ (by kernel_rfl)
def kD (code:LI):Option ah:= Option.bind (bif decide ((2000:Int)<(code.length:Int)) then gd (decide (0<=(0:Int)/\(0:Int)<=(2000:Int)/\(2000:Int)<=(code.length:Int))) <|some ((code.drop (0:Int).toNat).take ((2000:Int).toNat-(0:Int).toNat)) else some code) fun s1=>some (⟨s1,(0:Int)⟩:ah)
def aG (r_:ah) (n:Int):Option (ah×Int):= gd (Md .i64 (r_.p+(1:Int))) <|Option.bind (bif decide (n<(1:Int)) then some true else some ((r_.b.length:Int)==(0:Int))) fun s2=>bif s2 then some ((⟨r_.b,(r_.p+(1:Int))⟩:ah),(0:Int)) else gd (Md .i64 ((r_.p+(1:Int))-(1:Int))) <|bif decide (((r_.p+(1:Int))-(1:Int))<(r_.b.length:Int)) then gd (decide (0<=((r_.p+(1:Int))-(1:Int))/\((r_.p+(1:Int))-(1:Int))<(r_.b.length:Int))) <|gd (Md .i64 (r_.b.getD ((r_.p+(1:Int))-(1:Int)).toNat default)) <|gd (decide (n≠0)) <|some ((⟨r_.b,(r_.p+(1:Int))⟩:ah),((r_.b.getD ((r_.p+(1:Int))-(1:Int)).toNat default).tmod n)) else gd (decide ((r_.b.length:Int)≠0)) <|gd (decide (0<=(((r_.p+(1:Int))-(1:Int)).tmod (r_.b.length:Int))/\(((r_.p+(1:Int))-(1:Int)).tmod (r_.b.length:Int))<(r_.b.length:Int))) <|gd (Md .i64 (r_.b.getD (((r_.p+(1:Int))-(1:Int)).tmod (r_.b.length:Int)).toNat default)) <|gd (Md .i64 ((r_.b.getD (((r_.p+(1:Int))-(1:Int)).tmod (r_.b.length:Int)).toNat default)*(131:Int))) <|gd (Md .i64 (((r_.p+(1:Int))-(1:Int))*(7:Int))) <|gd (Md .i64 ((((r_.p+(1:Int))-(1:Int))*(7:Int))+(3:Int))) <|gd (decide (0<=(((((r_.p+(1:Int))-(1:Int))*(7:Int))+(3:Int)).tmod (r_.b.length:Int))/\(((((r_.p+(1:Int))-(1:Int))*(7:Int))+(3:Int)).tmod (r_.b.length:Int))<(r_.b.length:Int))) <|gd (Md .i64 (r_.b.getD (((((r_.p+(1:Int))-(1:Int))*(7:Int))+(3:Int)).tmod (r_.b.length:Int)).toNat default)) <|gd (Md .i64 ((r_.b.getD (((((r_.p+(1:Int))-(1:Int))*(7:Int))+(3:Int)).tmod (r_.b.length:Int)).toNat default)*(1117:Int))) <|gd (Md .i64 (((r_.b.getD (((r_.p+(1:Int))-(1:Int)).tmod (r_.b.length:Int)).toNat default)*(131:Int))+((r_.b.getD (((((r_.p+(1:Int))-(1:Int))*(7:Int))+(3:Int)).tmod (r_.b.length:Int)).toNat default)*(1117:Int)))) <|gd (Md .i64 (((r_.p+(1:Int))-(1:Int))*(29:Int))) <|gd (Md .i64 ((((r_.b.getD (((r_.p+(1:Int))-(1:Int)).tmod (r_.b.length:Int)).toNat default)*(131:Int))+((r_.b.getD (((((r_.p+(1:Int))-(1:Int))*(7:Int))+(3:Int)).tmod (r_.b.length:Int)).toNat default)*(1117:Int)))+(((r_.p+(1:Int))-(1:Int))*(29:Int)))) <|gd (Md .i64 (((r_.p+(1:Int))-(1:Int)).tdiv (r_.b.length:Int))) <|gd (Md .i64 ((((r_.p+(1:Int))-(1:Int)).tdiv (r_.b.length:Int))*(53:Int))) <|gd (Md .i64 (((((r_.b.getD (((r_.p+(1:Int))-(1:Int)).tmod (r_.b.length:Int)).toNat default)*(131:Int))+((r_.b.getD (((((r_.p+(1:Int))-(1:Int))*(7:Int))+(3:Int)).tmod (r_.b.length:Int)).toNat default)*(1117:Int)))+(((r_.p+(1:Int))-(1:Int))*(29:Int)))+((((r_.p+(1:Int))-(1:Int)).tdiv (r_.b.length:Int))*(53:Int)))) <|gd (decide ((64:Int)≠0)) <|gd (Md .i64 ((((((r_.b.getD (((r_.p+(1:Int))-(1:Int)).tmod (r_.b.length:Int)).toNat default)*(131:Int))+((r_.b.getD (((((r_.p+(1:Int))-(1:Int))*(7:Int))+(3:Int)).tmod (r_.b.length:Int)).toNat default)*(1117:Int)))+(((r_.p+(1:Int))-(1:Int))*(29:Int)))+((((r_.p+(1:Int))-(1:Int)).tdiv (r_.b.length:Int))*(53:Int))).tdiv (64:Int))) <|Option.bind (some (K3 .i64 (((((r_.b.getD (((r_.p+(1:Int))-(1:Int)).tmod (r_.b.length:Int)).toNat default)*(131:Int))+((r_.b.getD (((((r_.p+(1:Int))-(1:Int))*(7:Int))+(3:Int)).tmod (r_.b.length:Int)).toNat default)*(1117:Int)))+(((r_.p+(1:Int))-(1:Int))*(29:Int)))+((((r_.p+(1:Int))-(1:Int)).tdiv (r_.b.length:Int))*(53:Int))) ((((((r_.b.getD (((r_.p+(1:Int))-(1:Int)).tmod (r_.b.length:Int)).toNat default)*(131:Int))+((r_.b.getD (((((r_.p+(1:Int))-(1:Int))*(7:Int))+(3:Int)).tmod (r_.b.length:Int)).toNat default)*(1117:Int)))+(((r_.p+(1:Int))-(1:Int))*(29:Int)))+((((r_.p+(1:Int))-(1:Int)).tdiv (r_.b.length:Int))*(53:Int))).tdiv (64:Int)))) fun w27=>gd (decide (n≠0)) <|some ((⟨r_.b,(r_.p+(1:Int))⟩:ah),(w27.tmod n))
def bM (r_:ah) (list:LI):Option (ah×Int):= Option.bind (aG (⟨r_.b,r_.p⟩:ah) (list.length:Int)) fun v1=>gd (decide (0<=v1.2/\v1.2<(list.length:Int))) <|some ((⟨v1.1.b,v1.1.p⟩:ah),(list.getD v1.2.toNat default))
section
variable {α:Type} {r:Option α}
theorem mJ {n:Int} {x:Option α} (h : -9223372036854775808<=n/\n<=9223372036854775807) (hx:x=r):gd (Md .i64 n) x=r:=by rw [rS (DK h)];exact hx
theorem wG {A:Prop} [Decidable A] {x:Option α} (h:A) (hx:x=r):gd (decide A) x=r:=by rw [rS (decide_eq_true h)];exact hx
theorem G6 {b:Bool} {x y:Option α} (h:b=true) (hx:x=r):(bif b then x else y)=r:=by rw [h];exact hx
theorem Du {b:Bool} {x y:Option α} (h:b=false) (hx:y=r):(bif b then x else y)=r:=by rw [h];exact hx
theorem xx {β:Type} {o:Option β} {k:β->Option α} {v:β} (h:o=some v) (hx:k v=r):o.bind k=r:=by rw [h];exact hx
end
def Bts (b:LI):Prop:=b.length<=1048576/\∀ y∈b,0<=y/\y<=255
theorem Bts.get {b:LI} (h:Bts b) (k:Nat):0<=b.getD k default/\b.getD k default<=255:=by
 rw [gdq]
 by_cases hk:k<b.length
 ·rw [geq hk];exact h.2 _ (List.getElem_mem _)
 ·rw [gen (by omega)];exact ⟨by decide,by decide⟩
theorem II {m n:Int} (hm:0<=m/\m<=1000000000000) (hn:0<=n/\n<=1000000000000):0<=K3 .i64 m n:=by
 have e1:∀ x:Int,0<=x->x<=1000000000000->(BitVec.ofInt 64 x).toNat<2 ^ 62:=by
  intro x h1 h2;rw [BitVec.toNat_ofInt];have : x % ((2:Nat) ^ 64:Nat)=x:=by
   rw [Int.emod_eq_of_lt h1];omega
  omega
 have h3:(BitVec.ofInt 64 m ^^^ BitVec.ofInt 64 n).toNat<2 ^ 62:=by
  rw [BitVec.toNat_xor];exact Nat.xor_lt_two_pow (e1 m hm.1 hm.2) (e1 n hn.1 hn.2)
 have h4:=IntWalk.i64_in (((BitVec.ofInt 64 m ^^^ BitVec.ofInt 64 n).toNat:Nat):Int) ⟨by omega,by omega⟩;unfold K3;rw [show IntKind.i64.bits=64 from rfl,h4];omega
theorem IJ {a n:Int} (ha:0<=a) (hn:0<n):0<=a.tmod n/\a.tmod n<n:=by
 rw [Int.tmod_eq_emod_of_nonneg ha];exact ⟨Int.emod_nonneg _ (by omega),Int.emod_lt_of_pos _ hn⟩
theorem KP {a n:Int} (ha:0<=a) (hn:0<=n):0<=a.tdiv n/\a.tdiv n<=a:=by
 rw [Int.tdiv_eq_ediv_of_nonneg ha];exact ⟨Int.ediv_nonneg ha hn,Int.ediv_le_self _ ha⟩
theorem G7 {b:LI} {p:Int} (hb:Bts b) (hp:0<=p/\p<=100000000) (n:Int):∃ v,aG ⟨b,p⟩ n=some (⟨b,p+1⟩,v)/\0<=v/\(v<n\/v=0):=by
 have hl:=hb.1;have e1:p+1-1=p:=by omega
 unfold aG;simp only [e1]
 by_cases h0:n<1\/b.length=0
 ·refine ⟨0,?_,Int.le_refl _,.inr rfl⟩;refine mJ (by omega) ?_;refine xx (v:=true) ?_ (G6 rfl rfl)
  by_cases hn:n<1
  ·exact G6 (by simp [hn]) rfl
  ·refine Du (by simp [hn]) ?_;have : b.length=0:=by omega
   simp [this]
 ·have hn:1<=n:=by omega
  have hl0:0<(b.length:Int):=by omega
  by_cases hlt:p<(b.length:Int)
  ·have hg:=hb.get p.toNat;have hv:=IJ hg.1 (show (0:Int)<n by omega);refine ⟨(b.getD p.toNat default).tmod n,?_,hv.1,.inl hv.2⟩;refine mJ (by omega) ?_;refine xx (v:=false) (Du (by simp;omega) (congrArg some (beq_eq_false_iff_ne.2 (by omega)))) (Du rfl ?_);refine mJ (by omega) (G6 (by simpa using hlt) ?_);exact wG (by omega) (mJ (by omega) (wG (by omega) rfl))
  ·have h1:=IJ hp.1 hl0;have h2:=KP hp.1 (show 0<=(b.length:Int) by omega);have h3:=IJ (a:=p*7+3) (by omega) hl0;have h4:=hb.get (p.tmod (b.length:Int)).toNat;have h5:=hb.get ((p*7+3).tmod (b.length:Int)).toNat;have hx:0<=(b.getD (p.tmod (b.length:Int)).toNat default)*131+(b.getD ((p*7+3).tmod (b.length:Int)).toNat default)*1117+p*29+p.tdiv (b.length:Int)*53 /\
    (b.getD (p.tmod (b.length:Int)).toNat default)*131+(b.getD ((p*7+3).tmod (b.length:Int)).toNat default)*1117+p*29+p.tdiv (b.length:Int)*53<=1000000000000:=by omega
   have h6:=KP hx.1 (show (0:Int)<=64 by omega);have h7:=II hx ⟨h6.1,Int.le_trans h6.2 hx.2⟩;have hv:=IJ h7 (show (0:Int)<n by omega);refine ⟨_,?_,hv.1,.inl hv.2⟩;refine mJ (by omega) ?_;refine xx (v:=false) (Du (by simp;omega) (congrArg some (beq_eq_false_iff_ne.2 (by omega)))) (Du rfl ?_);refine mJ (by omega) (Du (by simpa using hlt) ?_);refine wG (by omega) (wG h1 (mJ (by omega) (mJ (by omega) (mJ (by omega) (mJ (by omega) (wG h3 (mJ (by omega) ?_)))))));refine mJ (by omega) (mJ (by omega) (mJ (by omega) (mJ (by omega) (mJ (by omega) (mJ (by omega) (mJ (by omega) ?_))))));refine wG (by omega) (mJ (by omega) (wG (by omega) rfl))
theorem KQ {b:LI} {p:Int} (hb:Bts b) (hp:0<=p/\p<=100000000) (l:LI) (hl:l≠[]):∃ v,bM ⟨b,p⟩ l=some (⟨b,p+1⟩,v)/\v∈l:=by
 obtain ⟨v,h1,h2,h3⟩:=G7 hb hp (l.length:Int);have hpos:0<l.length:=List.length_pos_iff.2 hl;have h4:v<(l.length:Int):=by omega
 refine ⟨l.getD v.toNat default,?_,?_⟩
 ·unfold bM;exact xx h1 (wG ⟨h2,h4⟩ rfl)
 ·rw [gdq,geq (by omega)];exact List.getElem_mem _
theorem JV {b:LI} (hb:Bts b):∃ b',kD b=some ⟨b',0⟩/\Bts b':=by
 unfold kD
 by_cases h:(2000:Int)<(b.length:Int)
 ·refine ⟨_,xx (G6 (by simpa using h) (wG (by omega) rfl)) rfl,?_,fun y hy=>?_⟩
  ·rw [List.length_take];omega
  ·exact hb.2 y (List.mem_of_mem_drop (List.mem_of_mem_take hy))
 ·exact ⟨b,xx (Du (by simpa using h) rfl) rfl,hb⟩
def Rd (k:Int) (r:ah):Prop:=Bts r.b/\0<=r.p/\r.p<=k
theorem Rd.mono {k k':Int} {r:ah} (h:Rd k r) (hk:k<=k'):Rd k' r:=⟨h.1,h.2.1,by have := h.2.2;omega⟩
theorem Rd.mk' {k:Int} {r:ah} (h:Rd k r):Rd k ⟨r.b,r.p⟩:=h
theorem jw {k:Int} {r:ah} (h:Rd k r) (hk:k<=100000000) (n:Int):Mo (aG r n) fun v=>Rd (k+1) v.1/\0<=v.2/\(v.2<n\/v.2=0):=by
 obtain ⟨b,p⟩:=r;obtain ⟨h1,h2,h3⟩:=h;obtain ⟨v,e,h4,h5⟩:=G7 h1 (p:=p) ⟨h2,by simp only at h3;omega⟩ n;exact ⟨_,e,⟨h1,by simp only at h2 ⊢;omega,by simp only at h3 ⊢;omega⟩,h4,h5⟩
theorem xy {k:Int} {r:ah} (h:Rd k r) (hk:k<=100000000) (l:LI) (hl:l≠[]):Mo (bM r l) fun v=>Rd (k+1) v.1/\v.2∈l:=by
 obtain ⟨b,p⟩:=r;obtain ⟨h1,h2,h3⟩:=h;obtain ⟨v,e,h4⟩:=KQ h1 (p:=p) ⟨h2,by simp only at h3;omega⟩ l hl;exact ⟨_,e,⟨h1,by simp only at h2 ⊢;omega,by simp only at h3 ⊢;omega⟩,h4⟩
theorem IK {b:LI} (h:Bts b):Mo (kD b) (Rd 0):=by
 obtain ⟨b',e,h'⟩:=JV h;exact ⟨_,e,h',Int.le_refl _,Int.le_refl _⟩
def iE:Option (List ByteArray):= some ([(⟨#[120,61,49,59,97,61,121,124,121,61,49,59,97,61,120]⟩:ByteArray),(⟨#[120,61,49,59,102,101,110,99,101,59,97,61,121,124,121,61,49,59,102,101,110,99,101,59,97,61,120]⟩:ByteArray),(⟨#[120,61,49,59,121,61,49,124,97,61,121,59,98,61,120]⟩:ByteArray),(⟨#[120,61,49,59,121,61,49,124,97,61,121,59,102,101,110,99,101,59,98,61,120]⟩:ByteArray),(⟨#[120,61,49,59,102,101,110,99,101,59,121,61,49,124,97,61,121,59,98,61,120]⟩:ByteArray),(⟨#[97,61,120,59,121,61,49,124,97,61,121,59,120,61,49]⟩:ByteArray),(⟨#[97,61,120,59,121,61,97,124,97,61,121,59,120,61,97]⟩:ByteArray),(⟨#[120,61,49,124,120,61,50,124,97,61,120,59,98,61,120]⟩:ByteArray),(⟨#[120,61,49,124,121,61,49,124,97,61,120,59,98,61,121,124,97,61,121,59,98,61,120]⟩:ByteArray),(⟨#[120,61,49,124,97,61,120,59,121,61,49,124,97,61,121,59,98,61,120]⟩:ByteArray),(⟨#[120,61,49,124,121,61,49,124,97,61,120,59,98,61,121]⟩:ByteArray),(⟨#[97,61,120,58,49,124,97,61,120,58,50,124,120,61,51]⟩:ByteArray),(⟨#[120,61,49,59,97,61,120,59,98,61,121,124,121,61,49,59,97,61,121,59,98,61,120]⟩:ByteArray),(⟨#[120,61,50,59,121,61,49,124,121,61,50,59,120,61,49]⟩:ByteArray),(⟨#[97,61,120,58,49,59,98,61,121,124,97,61,121,58,49,59,98,61,120]⟩:ByteArray),(⟨#[120,61,49,59,120,61,50,124,97,61,120,59,98,61,120]⟩:ByteArray),(⟨#[120,61,49,59,121,61,49,59,97,61,122,124,122,61,49,59,97,61,121,59,98,61,120]⟩:ByteArray),(⟨#[97,61,120,58,49,124,98,61,120,58,49]⟩:ByteArray),(⟨#[102,101,110,99,101]⟩:ByteArray),(⟨#[]⟩:ByteArray),(⟨#[120,61,49,59,97,61,121,124,121,61,49,59,102,101,110,99,101,59,97,61,120]⟩:ByteArray)]:List ByteArray)
def kO (s:ByteArray) (c:Int):((List ByteArray)×Int×Int)->Option (((List ByteArray)×Int×Int) ⊕ (List ByteArray)):=fun s5=>bif decide (s5.2.1<=(s.size:Int)) then Option.bind (Option.bind (bif (s5.2.1==(s.size:Int)) then some true else gd (decide (0<=s5.2.1/\s5.2.1<(s.size:Int))) <|some (((s.data.getD s5.2.1.toNat 0).toNat:Int)==c)) fun s10=>bif s10 then gd (decide (0<=s5.2.2/\s5.2.2<=s5.2.1/\s5.2.1<=(s.size:Int))) <|gd (dW (s5.1.length+1) 16) <|gd (Md .i64 (s5.2.1+(1:Int))) <|some ((s5.1++[(s.extract s5.2.2.toNat s5.2.1.toNat)]),(s5.2.1+(1:Int))) else some (s5.1,s5.2.2)) fun s9=>gd (Md .i64 (s5.2.1+(1:Int))) <|some (.inl (s9.1,(s5.2.1+(1:Int)),s9.2)) else some (.inr s5.1)
def mK (s:ByteArray) (c:Int):Option (List ByteArray):= Option.bind (aV (kO s c) (([]:List ByteArray),(0:Int),(0:Int))) fun s1=>some s1
def bT (s:ByteArray) (at_:Int) (from_:Int) (most:Int):Option Int:= Option.bind (bif decide ((s.size:Int)<=at_) then some true else gd (decide (0<=at_/\at_<(s.size:Int))) <|some (decide (((s.data.getD at_.toNat 0).toNat:Int)<from_))) fun s1=>Option.bind (bif s1 then some true else gd (decide (0<=at_/\at_<(s.size:Int))) <|gd (Md .u8 (((s.data.getD at_.toNat 0).toNat:Int)-from_)) <|gd (Md .i64 (((s.data.getD at_.toNat 0).toNat:Int)-from_)) <|some (decide (most<(((s.data.getD at_.toNat 0).toNat:Int)-from_)))) fun s4=>bif s4 then some (-1:Int) else gd (decide (0<=at_/\at_<(s.size:Int))) <|gd (Md .u8 (((s.data.getD at_.toNat 0).toNat:Int)-from_)) <|gd (Md .i64 (((s.data.getD at_.toNat 0).toNat:Int)-from_)) <|some (((s.data.getD at_.toNat 0).toNat:Int)-from_)
def nK (s:ByteArray):Option Mh:= bif decide (s=(⟨#[102,101,110,99,101]⟩:ByteArray)) then some (⟨(4:Int),(0:Int),(0:Int),(0:Int)⟩:Mh) else Option.bind (bT s (0:Int) (97:Int) (2:Int)) fun v2=>Option.bind (bT s (0:Int) (120:Int) (2:Int)) fun v3=>Option.bind (bif decide ((0:Int)<=v2) then some ((s.size:Int)==(3:Int)) else some false) fun s4=>bif s4 then Option.bind (bT s (2:Int) (120:Int) (2:Int)) fun v7=>some (⟨(1:Int),v7,v2,(0:Int)⟩:Mh) else Option.bind (bif decide ((0:Int)<=v2) then some ((s.size:Int)==(5:Int)) else some false) fun s8=>bif s8 then Option.bind (bT s (2:Int) (120:Int) (2:Int)) fun v11=>Option.bind (bT s (4:Int) (48:Int) (3:Int)) fun v12=>some (⟨(5:Int),v11,v2,v12⟩:Mh) else Option.bind (bif decide ((0:Int)<=v3) then Option.bind (bT s (2:Int) (97:Int) (2:Int)) fun v15=>some (decide ((0:Int)<=v15)) else some false) fun s13=>bif s13 then Option.bind (bT s (2:Int) (97:Int) (2:Int)) fun v17=>some (⟨(3:Int),v3,v17,(0:Int)⟩:Mh) else Option.bind (bT s (2:Int) (48:Int) (3:Int)) fun v18=>some (⟨(2:Int),v3,(0:Int),v18⟩:Mh)
def jc (from_:Int) (n:Int):Option ByteArray:= gd (Md .u8 n) <|gd (Md .u8 (from_+n)) <|some (strOfNums ([(from_+n)]:LI))
def rE:(ByteArray×Int)->Option ((ByteArray×Int) ⊕ (ByteArray×Int)):=fun s9=>bif decide ((9:Int)<s9.2) then gd (decide ((10:Int)≠0)) <|gd (Md .i64 ((48:Int)+(s9.2.tmod (10:Int)))) <|gd (Md .u8 ((48:Int)+(s9.2.tmod (10:Int)))) <|gd (decide ((strOfNums ([((48:Int)+(s9.2.tmod (10:Int)))]:LI)).size+s9.1.size<=9223372036854775807)) <|gd (Md .i64 (s9.2.tdiv (10:Int))) <|some (.inl (((strOfNums ([((48:Int)+(s9.2.tmod (10:Int)))]:LI))++s9.1),(s9.2.tdiv (10:Int)))) else some (.inr (s9.1,s9.2))
def mL (rcf:Int->Option ByteArray) (n:Int):Option ByteArray:= bif decide (n<(-9223372036854775807:Int)) then some (⟨#[45,57,50,50,51,51,55,50,48,51,54,56,53,52,55,55,53,56,48,56]⟩:ByteArray) else bif decide (n<(0:Int)) then gd (Md .i64 (0-n)) <|Option.bind (rcf (0-n)) fun v4=>gd (decide ((⟨#[45]⟩:ByteArray).size+v4.size<=9223372036854775807)) <|some ((⟨#[45]⟩:ByteArray)++v4) else Option.bind (aV rE ((⟨#[]⟩:ByteArray),n)) fun s6=>gd (Md .i64 ((48:Int)+s6.2)) <|gd (Md .u8 ((48:Int)+s6.2)) <|gd (decide ((strOfNums ([((48:Int)+s6.2)]:LI)).size+s6.1.size<=9223372036854775807)) <|some ((strOfNums ([((48:Int)+s6.2)]:LI))++s6.1)
def jd:Nat->Int->Option ByteArray
 | 0=>fun _=>none
 | n+1=>mL (jd n)
def pq (n:Int):Option ByteArray:=EW fun nf=>jd nf n
def pu (x:Mh):Option ByteArray:= Option.bind (jc (120:Int) x.Loc) fun v1=>Option.bind (jc (97:Int) x.Reg) fun v2=>bif (x.Op==(1:Int)) then gd (decide (v2.size+(⟨#[61]⟩:ByteArray).size<=9223372036854775807)) <|gd (decide ((v2++(⟨#[61]⟩:ByteArray)).size+v1.size<=9223372036854775807)) <|some ((v2++(⟨#[61]⟩:ByteArray))++v1) else bif (x.Op==(2:Int)) then gd (decide (v1.size+(⟨#[61]⟩:ByteArray).size<=9223372036854775807)) <|Option.bind (pq x.Val) fun v8=>gd (decide ((v1++(⟨#[61]⟩:ByteArray)).size+v8.size<=9223372036854775807)) <|some ((v1++(⟨#[61]⟩:ByteArray))++v8) else bif (x.Op==(3:Int)) then gd (decide (v1.size+(⟨#[61]⟩:ByteArray).size<=9223372036854775807)) <|gd (decide ((v1++(⟨#[61]⟩:ByteArray)).size+v2.size<=9223372036854775807)) <|some ((v1++(⟨#[61]⟩:ByteArray))++v2) else bif (x.Op==(5:Int)) then gd (decide (v2.size+(⟨#[61]⟩:ByteArray).size<=9223372036854775807)) <|gd (decide ((v2++(⟨#[61]⟩:ByteArray)).size+v1.size<=9223372036854775807)) <|gd (decide (((v2++(⟨#[61]⟩:ByteArray))++v1).size+(⟨#[58]⟩:ByteArray).size<=9223372036854775807)) <|Option.bind (pq x.Val) fun v17=>gd (decide ((((v2++(⟨#[61]⟩:ByteArray))++v1)++(⟨#[58]⟩:ByteArray)).size+v17.size<=9223372036854775807)) <|some ((((v2++(⟨#[61]⟩:ByteArray))++v1)++(⟨#[58]⟩:ByteArray))++v17) else some (⟨#[102,101,110,99,101]⟩:ByteArray)
def jZ (p:List (List Mh)) (s4:Int×ByteArray):(Int×ByteArray)->Option ((Int×ByteArray) ⊕ ByteArray):=fun s13=>gd (decide (0<=s4.1/\s4.1<(p.length:Int))) <|bif decide (s13.1<((p.getD s4.1.toNat default).length:Int)) then Option.bind (bif decide ((0:Int)<s13.1) then gd (decide (s13.2.size+(⟨#[59]⟩:ByteArray).size<=9223372036854775807)) <|some (s13.2++(⟨#[59]⟩:ByteArray)) else some s13.2) fun s17=>gd (decide (0<=s13.1/\s13.1<((p.getD s4.1.toNat default).length:Int))) <|Option.bind (pu ((p.getD s4.1.toNat default).getD s13.1.toNat default)) fun v21=>gd (decide (s17.size+v21.size<=9223372036854775807)) <|gd (Md .i64 (s13.1+(1:Int))) <|some (.inl ((s13.1+(1:Int)),(s17++v21))) else some (.inr s13.2)
def lj (p:List (List Mh)):(Int×ByteArray)->Option ((Int×ByteArray) ⊕ ByteArray):=fun s4=>bif decide (s4.1<(p.length:Int)) then Option.bind (Option.bind (bif decide ((0:Int)<s4.1) then gd (decide (s4.2.size+(⟨#[124]⟩:ByteArray).size<=9223372036854775807)) <|some (s4.2++(⟨#[124]⟩:ByteArray)) else some s4.2) fun s8=>aV (jZ p s4) ((0:Int),s8)) fun s7=>gd (Md .i64 (s4.1+(1:Int))) <|some (.inl ((s4.1+(1:Int)),s7)) else some (.inr s4.2)
def kP (p:List (List Mh)):Option ByteArray:= Option.bind (aV (lj p) ((0:Int),(⟨#[]⟩:ByteArray))) fun s1=>some s1
def ez (v1:(List ByteArray)) (s6:(List (List Mh))×Int) (v14:(List ByteArray)):((List Mh)×Int)->Option (((List Mh)×Int) ⊕ (List Mh)):=fun s19=>Option.bind (bif decide (s19.2<(v14.length:Int)) then some (decide (s19.2<=(7:Int))) else some false) fun s22=>Option.bind (bif s22 then some (!decide ((v1.getD s6.2.toNat default)=(⟨#[]⟩:ByteArray))) else some false) fun s24=>bif s24 then gd (decide (0<=s19.2/\s19.2<(v14.length:Int))) <|Option.bind (nK (v14.getD s19.2.toNat default)) fun v28=>gd (dW (s19.1.length+1) 32) <|gd (Md .i64 (s19.2+(1:Int))) <|some (.inl ((s19.1++[v28]),(s19.2+(1:Int)))) else some (.inr s19.1)
def fe (v1:(List ByteArray)):((List (List Mh))×Int)->Option (((List (List Mh))×Int) ⊕ (List (List Mh))):=fun s6=>Option.bind (bif decide (s6.2<(v1.length:Int)) then some (decide (s6.2<=(3:Int))) else some false) fun s9=>bif s9 then Option.bind (gd (decide (0<=s6.2/\s6.2<(v1.length:Int))) <|Option.bind (mK (v1.getD s6.2.toNat default) (59:Int)) fun v14=>Option.bind (aV (ez v1 s6 v14) (([]:List Mh),(0:Int))) fun s15=>gd (dW (s6.1.length+1) 24) <|some (s6.1++[s15])) fun s12=>gd (Md .i64 (s6.2+(1:Int))) <|some (.inl (s12,(s6.2+(1:Int)))) else some (.inr s6.1)
def bW (text:ByteArray):Option ((List (List Mh))×Bool):= Option.bind (mK text (124:Int)) fun v1=>Option.bind (aV (fe v1) (([]:List (List Mh)),(0:Int))) fun s2=>Option.bind (bg s2) fun v36=>Option.bind (bif !v36 then some true else Option.bind (kP s2) fun v39=>some (!decide (v39=text))) fun s37=>bif s37 then some (([]:List (List Mh)),false) else some (s2,true)
def kE (r_:ah):Option (ah×Mh):= Option.bind (aG (⟨r_.b,r_.p⟩:ah) (2:Int)) fun v1=>Option.bind (aG (⟨v1.1.b,v1.1.p⟩:ah) (7:Int)) fun v2=>bif (v2.2==(0:Int)) then some ((⟨v2.1.b,v2.1.p⟩:ah),(⟨(4:Int),(0:Int),(0:Int),(0:Int)⟩:Mh)) else bif (v2.2==(1:Int)) then Option.bind (aG (⟨v2.1.b,v2.1.p⟩:ah) (2:Int)) fun v5=>some ((⟨v5.1.b,v5.1.p⟩:ah),(⟨(3:Int),v1.2,v5.2,(0:Int)⟩:Mh)) else bif (v2.2==(2:Int)) then Option.bind (aG (⟨v2.1.b,v2.1.p⟩:ah) (2:Int)) fun v7=>Option.bind (aG (⟨v7.1.b,v7.1.p⟩:ah) (3:Int)) fun v8=>gd (Md .i64 ((1:Int)+v8.2)) <|some ((⟨v8.1.b,v8.1.p⟩:ah),(⟨(5:Int),v1.2,v7.2,((1:Int)+v8.2)⟩:Mh)) else Option.bind (bif (v2.2==(3:Int)) then some (v2.2==(3:Int)) else some (v2.2==(4:Int))) fun s10=>bif s10 then Option.bind (aG (⟨v2.1.b,v2.1.p⟩:ah) (3:Int)) fun v13=>gd (Md .i64 ((1:Int)+v13.2)) <|some ((⟨v13.1.b,v13.1.p⟩:ah),(⟨(2:Int),v1.2,(0:Int),((1:Int)+v13.2)⟩:Mh)) else Option.bind (aG (⟨v2.1.b,v2.1.p⟩:ah) (2:Int)) fun v15=>some ((⟨v15.1.b,v15.1.p⟩:ah),(⟨(1:Int),v1.2,v15.2,(0:Int)⟩:Mh))
def jy:((LI)×Int×(List Mh)×Int)->Option (((LI)×Int×(List Mh)×Int) ⊕ ((LI)×Int×(List Mh))):=fun s24=>bif decide ((0:Int)<s24.2.2.2) then Option.bind (kE (⟨s24.1,s24.2.1⟩:ah)) fun v28=>gd (dW (s24.2.2.1.length+1) 32) <|gd (Md .i64 (s24.2.2.2-(1:Int))) <|some (.inl (v28.1.b,v28.1.p,(s24.2.2.1++[v28.2]),(s24.2.2.2-(1:Int)))) else some (.inr (s24.1,s24.2.1,s24.2.2.1))
def jJ:((LI)×Int×(List (List Mh))×Int)->Option (((LI)×Int×(List (List Mh))×Int) ⊕ ((LI)×Int×(List (List Mh)))):=fun s14=>bif decide ((0:Int)<s14.2.2.2) then Option.bind (Option.bind (Option.bind (bM (⟨s14.1,s14.2.1⟩:ah) ([(2:Int),(1:Int),(3:Int),(2:Int),(0:Int)]:LI)) fun v20=>aV jy (v20.1.b,v20.1.p,([]:List Mh),v20.2)) fun s19=>gd (dW (s14.2.2.1.length+1) 24) <|some (s19.1,s19.2.1,(s14.2.2.1++[s19.2.2]))) fun s18=>gd (Md .i64 (s14.2.2.2-(1:Int))) <|some (.inl (s18.1,s18.2.1,s18.2.2,(s14.2.2.2-(1:Int)))) else some (.inr (s14.1,s14.2.1,s14.2.2.1))
def pz (r_:ah):Option (ah×(List (List Mh))):= Option.bind (iE) fun v1=>sumK (Option.bind (aG (⟨r_.b,r_.p⟩:ah) (3:Int)) fun v3=>bif decide ((0:Int)<v3.2) then Option.bind (aG (⟨v3.1.b,v3.1.p⟩:ah) (v1.length:Int)) fun v5=>gd (decide (0<=v5.2/\v5.2<(v1.length:Int))) <|Option.bind (bW (v1.getD v5.2.toNat default)) fun v7=>bif v7.2 then some (.inr ((⟨v5.1.b,v5.1.p⟩:ah),v7.1)) else some (.inl (v5.1.b,v5.1.p)) else some (.inl (v3.1.b,v3.1.p))) fun s2=>Option.bind (Option.bind (bM (⟨s2.1,s2.2⟩:ah) ([(2:Int),(3:Int),(1:Int)]:LI)) fun v10=>aV jJ (v10.1.b,v10.1.p,([]:List (List Mh)),v10.2)) fun s9=>Option.bind (bg s9.2.2) fun v36=>bif v36 then some ((⟨s9.1,s9.2.1⟩:ah),s9.2.2) else Option.bind (kE (⟨s9.1,s9.2.1⟩:ah)) fun v38=>some ((⟨v38.1.b,v38.1.p⟩:ah),([([v38.2]:List Mh)]:List (List Mh)))
def pE (n:Int):Option ByteArray:=bif decide (0<=n/\n<=9) then some (strOfNums ([((48:Int)+n)]:LI)++(⟨#[]⟩:ByteArray)) else none
theorem strOfNums_size (l:LI):(strOfNums l).size=l.length:=by
 simp [strOfNums,ByteArray.size]
theorem yl (n:Int):Le (pE n) (pq n):=by
 intro v h;unfold pE at h
 by_cases hn:0<=n/\n<=9
 ·rw [decide_eq_true hn] at h;obtain rfl:=osl h;refine xb 1 fun k hk=>?_
  match k,hk with
  | k+1,_=>
   show mL (jd k) n=_;refine Mo.eq ?_;unfold mL;refine .bifD (fun h=>by omega) fun _ => .bifD (fun h=>by omega) fun _=>?_;refine Mo.bind (P:=(· = ((⟨#[]⟩:ByteArray),n))) ?_ fun s hs=>?_
   ·refine Mo.loop (fun s=>s=((⟨#[]⟩:ByteArray),n)) (fun _=>0) rfl fun s hs=>?_;subst hs;unfold rE;exact .bifD (fun h=>by simp only [] at h;omega) fun _ => .pure rfl
   ·subst hs;refine .gdI (by simp only [];omega) (.gdY (by simp only [];omega) (.gdD ?_ (.pure rfl)));rw [strOfNums_size];exact nlb rfl
 ·rw [decide_eq_false hn] at h
  cases h
def oD (s:ByteArray) (c:Int):((List ByteArray)×Int×Int)->Option (((List ByteArray)×Int×Int) ⊕ (List ByteArray)):=fun s5=>
 bif decide (s5.2.1<=(s.size:Int)) then
  Option.bind (
   Option.bind (bif (s5.2.1==(s.size:Int)) then
    some true
   else
    gd (decide (0<=s5.2.1/\s5.2.1<(s.size:Int))) <|
    some (((s.data.getD s5.2.1.toNat 0).toNat:Int)==c)
   ) fun s10=>
   bif s10 then
    gd (decide (0<=s5.2.2/\s5.2.2<=s5.2.1/\s5.2.1<=(s.size:Int))) <|
    gd (dW (s5.1.length+1) 16) <|
    gd (Md .i64 (s5.2.1+(1:Int))) <|
    some ((s5.1++[(s.extract s5.2.2.toNat s5.2.1.toNat)]),(s5.2.1+(1:Int)))
   else
    some (s5.1,s5.2.2)
  ) fun s9=>
  gd (Md .i64 (s5.2.1+(1:Int))) <|
  some (.inl (s9.1,(s5.2.1+(1:Int)),s9.2))
 else
  some (.inr s5.1)
theorem vB (s:ByteArray) (c:Int) (sQ:_):Le (oD s c sQ) (kO s c sQ):=by
 unfold oD kO
 repeat' (first | with_reducible exact Le.refl _ | with_reducible refine Le.gd _ ?_ | with_reducible refine Le.bif _ ?_ ?_ | with_reducible refine Le.bind ?_ (fun _=>?_) | with_reducible refine Le.sumK ?_ (fun _=>?_) | with_reducible refine Le.loop (fun _=>?_) _ | with_reducible refine Le.nilK ?_ ?_ | with_reducible refine Le.ifc _ ?_ ?_)
def pG (s:ByteArray) (c:Int):Option (List ByteArray):=
 Option.bind (
  nO 40 (oD s c) (([]:List ByteArray),(0:Int),(0:Int))
 ) fun s1=>
 some s1
theorem sW (s:ByteArray) (c:Int):Le (pG s c) (mK s c):=by
 unfold pG mK
 repeat' (first | with_reducible exact Le.refl _ | with_reducible exact vB .. | with_reducible refine Le.gd _ ?_ | with_reducible refine Le.bif _ ?_ ?_ | with_reducible refine Le.bind ?_ (fun _=>?_) | with_reducible refine Le.sumK ?_ (fun _=>?_) | with_reducible refine Le.loop (fun _=>?_) _ | with_reducible refine Le.nilK ?_ ?_ | with_reducible refine Le.ifc _ ?_ ?_)
def cz (s:ByteArray) (at_:Int) (from_:Int) (most:Int):Option Int:=
 Option.bind (bif decide ((s.size:Int)<=at_) then
  some true
 else
  gd (decide (0<=at_/\at_<(s.size:Int))) <|
  some (decide (((s.data.getD at_.toNat 0).toNat:Int)<from_))
 ) fun s1=>
 Option.bind (bif s1 then
  some true
 else
  gd (decide (0<=at_/\at_<(s.size:Int))) <|
  gd (Md .u8 (((s.data.getD at_.toNat 0).toNat:Int)-from_)) <|
  gd (Md .i64 (((s.data.getD at_.toNat 0).toNat:Int)-from_)) <|
  some (decide (most<(((s.data.getD at_.toNat 0).toNat:Int)-from_)))
 ) fun s4=>
 bif s4 then
  some (-1:Int)
 else
  gd (decide (0<=at_/\at_<(s.size:Int))) <|
  gd (Md .u8 (((s.data.getD at_.toNat 0).toNat:Int)-from_)) <|
  gd (Md .i64 (((s.data.getD at_.toNat 0).toNat:Int)-from_)) <|
  some (((s.data.getD at_.toNat 0).toNat:Int)-from_)
theorem xz (s:ByteArray) (at_:Int) (from_:Int) (most:Int):Le (cz s at_ from_ most) (bT s at_ from_ most):=by
 unfold cz bT
 repeat' (first | with_reducible exact Le.refl _ | with_reducible refine Le.gd _ ?_ | with_reducible refine Le.bif _ ?_ ?_ | with_reducible refine Le.bind ?_ (fun _=>?_) | with_reducible refine Le.sumK ?_ (fun _=>?_) | with_reducible refine Le.loop (fun _=>?_) _ | with_reducible refine Le.nilK ?_ ?_ | with_reducible refine Le.ifc _ ?_ ?_)
def qU (s:ByteArray):Option Mh:=
 bif decide (s=(⟨#[102,101,110,99,101]⟩:ByteArray)) then
  some (⟨(4:Int),(0:Int),(0:Int),(0:Int)⟩:Mh)
 else
  Option.bind (cz s (0:Int) (97:Int) (2:Int)) fun v2=>
  Option.bind (cz s (0:Int) (120:Int) (2:Int)) fun v3=>
  Option.bind (bif decide ((0:Int)<=v2) then
   some ((s.size:Int)==(3:Int))
  else
   some false
  ) fun s4=>
  bif s4 then
   Option.bind (cz s (2:Int) (120:Int) (2:Int)) fun v7=>
   some (⟨(1:Int),v7,v2,(0:Int)⟩:Mh)
  else
   Option.bind (bif decide ((0:Int)<=v2) then
    some ((s.size:Int)==(5:Int))
   else
    some false
   ) fun s8=>
   bif s8 then
    Option.bind (cz s (2:Int) (120:Int) (2:Int)) fun v11=>
    Option.bind (cz s (4:Int) (48:Int) (3:Int)) fun v12=>
    some (⟨(5:Int),v11,v2,v12⟩:Mh)
   else
    Option.bind (bif decide ((0:Int)<=v3) then
     Option.bind (cz s (2:Int) (97:Int) (2:Int)) fun v15=>
     some (decide ((0:Int)<=v15))
    else
     some false
    ) fun s13=>
    bif s13 then
     Option.bind (cz s (2:Int) (97:Int) (2:Int)) fun v17=>
     some (⟨(3:Int),v3,v17,(0:Int)⟩:Mh)
    else
     Option.bind (cz s (2:Int) (48:Int) (3:Int)) fun v18=>
     some (⟨(2:Int),v3,(0:Int),v18⟩:Mh)
theorem xA (s:ByteArray):Le (qU s) (nK s):=by
 unfold qU nK
 repeat' (first | with_reducible exact Le.refl _ | with_reducible exact xz .. | with_reducible refine Le.gd _ ?_ | with_reducible refine Le.bif _ ?_ ?_ | with_reducible refine Le.bind ?_ (fun _=>?_) | with_reducible refine Le.sumK ?_ (fun _=>?_) | with_reducible refine Le.loop (fun _=>?_) _ | with_reducible refine Le.nilK ?_ ?_ | with_reducible refine Le.ifc _ ?_ ?_)
def iw (v1:(List ByteArray)) (s6:(List (List Mh))×Int) (v14:(List ByteArray)):((List Mh)×Int)->Option (((List Mh)×Int) ⊕ (List Mh)):=fun s19=>
 Option.bind (bif decide (s19.2<(v14.length:Int)) then
  some (decide (s19.2<=(7:Int)))
 else
  some false
 ) fun s22=>
 Option.bind (bif s22 then
  some (!decide ((v1.getD s6.2.toNat default)=(⟨#[]⟩:ByteArray)))
 else
  some false
 ) fun s24=>
 bif s24 then
  gd (decide (0<=s19.2/\s19.2<(v14.length:Int))) <|
  Option.bind (qU (v14.getD s19.2.toNat default)) fun v28=>
  gd (dW (s19.1.length+1) 32) <|
  gd (Md .i64 (s19.2+(1:Int))) <|
  some (.inl ((s19.1++[v28]),(s19.2+(1:Int))))
 else
  some (.inr s19.1)
theorem qy (v1:(List ByteArray)) (s6:(List (List Mh))×Int) (v14:(List ByteArray)) (sQ:_):Le (iw v1 s6 v14 sQ) (ez v1 s6 v14 sQ):=by
 unfold iw ez
 repeat' (first | with_reducible exact Le.refl _ | with_reducible exact xA .. | with_reducible refine Le.gd _ ?_ | with_reducible refine Le.bif _ ?_ ?_ | with_reducible refine Le.bind ?_ (fun _=>?_) | with_reducible refine Le.sumK ?_ (fun _=>?_) | with_reducible refine Le.loop (fun _=>?_) _ | with_reducible refine Le.nilK ?_ ?_ | with_reducible refine Le.ifc _ ?_ ?_)
def iI (v1:(List ByteArray)):((List (List Mh))×Int)->Option (((List (List Mh))×Int) ⊕ (List (List Mh))):=fun s6=>
 Option.bind (bif decide (s6.2<(v1.length:Int)) then
  some (decide (s6.2<=(3:Int)))
 else
  some false
 ) fun s9=>
 bif s9 then
  Option.bind (
   gd (decide (0<=s6.2/\s6.2<(v1.length:Int))) <|
   Option.bind (pG (v1.getD s6.2.toNat default) (59:Int)) fun v14=>
   Option.bind (
    nO 40 (iw v1 s6 v14) (([]:List Mh),(0:Int))
   ) fun s15=>
   gd (dW (s6.1.length+1) 24) <|
   some (s6.1++[s15])
  ) fun s12=>
  gd (Md .i64 (s6.2+(1:Int))) <|
  some (.inl (s12,(s6.2+(1:Int))))
 else
  some (.inr s6.1)
theorem qV (v1:(List ByteArray)) (sQ:_):Le (iI v1 sQ) (fe v1 sQ):=by
 unfold iI fe
 repeat' (first | with_reducible exact Le.refl _ | with_reducible exact sW .. | with_reducible exact qy .. | with_reducible refine Le.gd _ ?_ | with_reducible refine Le.bif _ ?_ ?_ | with_reducible refine Le.bind ?_ (fun _=>?_) | with_reducible refine Le.sumK ?_ (fun _=>?_) | with_reducible refine Le.loop (fun _=>?_) _ | with_reducible refine Le.nilK ?_ ?_ | with_reducible refine Le.ifc _ ?_ ?_)
def mM (from_:Int) (n:Int):Option ByteArray:=
 gd (Md .u8 n) <|
 gd (Md .u8 (from_+n)) <|
 some (strOfNums ([(from_+n)]:LI))
theorem wH (from_:Int) (n:Int):Le (mM from_ n) (jc from_ n):=by
 unfold mM jc
 repeat' (first | with_reducible exact Le.refl _ | with_reducible refine Le.gd _ ?_ | with_reducible refine Le.bif _ ?_ ?_ | with_reducible refine Le.bind ?_ (fun _=>?_) | with_reducible refine Le.sumK ?_ (fun _=>?_) | with_reducible refine Le.loop (fun _=>?_) _ | with_reducible refine Le.nilK ?_ ?_ | with_reducible refine Le.ifc _ ?_ ?_)
def sx (x:Mh):Option ByteArray:=
 Option.bind (mM (120:Int) x.Loc) fun v1=>
 Option.bind (mM (97:Int) x.Reg) fun v2=>
 bif (x.Op==(1:Int)) then
  gd (decide (v2.size+(⟨#[61]⟩:ByteArray).size<=9223372036854775807)) <|
  gd (decide ((v2++(⟨#[61]⟩:ByteArray)).size+v1.size<=9223372036854775807)) <|
  some ((v2++(⟨#[61]⟩:ByteArray))++v1)
 else
  bif (x.Op==(2:Int)) then
   gd (decide (v1.size+(⟨#[61]⟩:ByteArray).size<=9223372036854775807)) <|
   Option.bind (pE x.Val) fun v8=>
   gd (decide ((v1++(⟨#[61]⟩:ByteArray)).size+v8.size<=9223372036854775807)) <|
   some ((v1++(⟨#[61]⟩:ByteArray))++v8)
  else
   bif (x.Op==(3:Int)) then
    gd (decide (v1.size+(⟨#[61]⟩:ByteArray).size<=9223372036854775807)) <|
    gd (decide ((v1++(⟨#[61]⟩:ByteArray)).size+v2.size<=9223372036854775807)) <|
    some ((v1++(⟨#[61]⟩:ByteArray))++v2)
   else
    bif (x.Op==(5:Int)) then
     gd (decide (v2.size+(⟨#[61]⟩:ByteArray).size<=9223372036854775807)) <|
     gd (decide ((v2++(⟨#[61]⟩:ByteArray)).size+v1.size<=9223372036854775807)) <|
     gd (decide (((v2++(⟨#[61]⟩:ByteArray))++v1).size+(⟨#[58]⟩:ByteArray).size<=9223372036854775807)) <|
     Option.bind (pE x.Val) fun v17=>
     gd (decide ((((v2++(⟨#[61]⟩:ByteArray))++v1)++(⟨#[58]⟩:ByteArray)).size+v17.size<=9223372036854775807)) <|
     some ((((v2++(⟨#[61]⟩:ByteArray))++v1)++(⟨#[58]⟩:ByteArray))++v17)
    else
     some (⟨#[102,101,110,99,101]⟩:ByteArray)
theorem ym (x:Mh):Le (sx x) (pu x):=by
 unfold sx pu
 repeat' (first | with_reducible exact Le.refl _ | with_reducible exact wH .. | with_reducible exact yl .. | with_reducible refine Le.gd _ ?_ | with_reducible refine Le.bif _ ?_ ?_ | with_reducible refine Le.bind ?_ (fun _=>?_) | with_reducible refine Le.sumK ?_ (fun _=>?_) | with_reducible refine Le.loop (fun _=>?_) _ | with_reducible refine Le.nilK ?_ ?_ | with_reducible refine Le.ifc _ ?_ ?_)
def j3 (p:List (List Mh)) (s4:Int×ByteArray):(Int×ByteArray)->Option ((Int×ByteArray) ⊕ ByteArray):=fun s13=>
 gd (decide (0<=s4.1/\s4.1<(p.length:Int))) <|
 bif decide (s13.1<((p.getD s4.1.toNat default).length:Int)) then
  Option.bind (
   bif decide ((0:Int)<s13.1) then
    gd (decide (s13.2.size+(⟨#[59]⟩:ByteArray).size<=9223372036854775807)) <|
    some (s13.2++(⟨#[59]⟩:ByteArray))
   else
    some s13.2
  ) fun s17=>
  gd (decide (0<=s13.1/\s13.1<((p.getD s4.1.toNat default).length:Int))) <|
  Option.bind (sx ((p.getD s4.1.toNat default).getD s13.1.toNat default)) fun v21=>
  gd (decide (s17.size+v21.size<=9223372036854775807)) <|
  gd (Md .i64 (s13.1+(1:Int))) <|
  some (.inl ((s13.1+(1:Int)),(s17++v21)))
 else
  some (.inr s13.2)
theorem sD (p:List (List Mh)) (s4:Int×ByteArray) (sQ:_):Le (j3 p s4 sQ) (jZ p s4 sQ):=by
 unfold j3 jZ
 repeat' (first | with_reducible exact Le.refl _ | with_reducible exact ym .. | with_reducible refine Le.gd _ ?_ | with_reducible refine Le.bif _ ?_ ?_ | with_reducible refine Le.bind ?_ (fun _=>?_) | with_reducible refine Le.sumK ?_ (fun _=>?_) | with_reducible refine Le.loop (fun _=>?_) _ | with_reducible refine Le.nilK ?_ ?_ | with_reducible refine Le.ifc _ ?_ ?_)
def ll (p:List (List Mh)):(Int×ByteArray)->Option ((Int×ByteArray) ⊕ ByteArray):=fun s4=>
 bif decide (s4.1<(p.length:Int)) then
  Option.bind (
   Option.bind (
    bif decide ((0:Int)<s4.1) then
     gd (decide (s4.2.size+(⟨#[124]⟩:ByteArray).size<=9223372036854775807)) <|
     some (s4.2++(⟨#[124]⟩:ByteArray))
    else
     some s4.2
   ) fun s8=>
   nO 40 (j3 p s4) ((0:Int),s8)
  ) fun s7=>
  gd (Md .i64 (s4.1+(1:Int))) <|
  some (.inl ((s4.1+(1:Int)),s7))
 else
  some (.inr s4.2)
theorem tE (p:List (List Mh)) (sQ:_):Le (ll p sQ) (lj p sQ):=by
 unfold ll lj
 repeat' (first | with_reducible exact Le.refl _ | with_reducible exact sD .. | with_reducible refine Le.gd _ ?_ | with_reducible refine Le.bif _ ?_ ?_ | with_reducible refine Le.bind ?_ (fun _=>?_) | with_reducible refine Le.sumK ?_ (fun _=>?_) | with_reducible refine Le.loop (fun _=>?_) _ | with_reducible refine Le.nilK ?_ ?_ | with_reducible refine Le.ifc _ ?_ ?_)
def oF (p:List (List Mh)):Option ByteArray:=
 Option.bind (
  nO 40 (ll p) ((0:Int),(⟨#[]⟩:ByteArray))
 ) fun s1=>
 some s1
theorem vC (p:List (List Mh)):Le (oF p) (kP p):=by
 unfold oF kP
 repeat' (first | with_reducible exact Le.refl _ | with_reducible exact tE .. | with_reducible refine Le.gd _ ?_ | with_reducible refine Le.bif _ ?_ ?_ | with_reducible refine Le.bind ?_ (fun _=>?_) | with_reducible refine Le.sumK ?_ (fun _=>?_) | with_reducible refine Le.loop (fun _=>?_) _ | with_reducible refine Le.nilK ?_ ?_ | with_reducible refine Le.ifc _ ?_ ?_)
def iy (text:ByteArray):Option ((List (List Mh))×Bool):=
 Option.bind (pG text (124:Int)) fun v1=>
 Option.bind (
  nO 40 (iI v1) (([]:List (List Mh)),(0:Int))
 ) fun s2=>
 Option.bind (bg s2) fun v36=>
 Option.bind (bif !v36 then
  some true
 else
  Option.bind (oF s2) fun v39=>
  some (!decide (v39=text))
 ) fun s37=>
 bif s37 then
  some (([]:List (List Mh)),false)
 else
  some (s2,true)
theorem tF (text:ByteArray):Le (iy text) (bW text):=by
 unfold iy bW
 repeat' (first | with_reducible exact Le.refl _ | with_reducible exact sW .. | with_reducible exact qV .. | with_reducible exact vC .. | with_reducible refine Le.gd _ ?_ | with_reducible refine Le.bif _ ?_ ?_ | with_reducible refine Le.bind ?_ (fun _=>?_) | with_reducible refine Le.sumK ?_ (fun _=>?_) | with_reducible refine Le.loop (fun _=>?_) _ | with_reducible refine Le.nilK ?_ ?_ | with_reducible refine Le.ifc _ ?_ ?_)
def smI (x:Mh):Bool:=decide ((-1<=x.Op/\x.Op<=6)/\(-1<=x.Loc/\x.Loc<=3)/\(-1<=x.Reg/\x.Reg<=3)/\(-1<=x.Val/\x.Val<=4))
def smP (p:List (List Mh)):Bool:=decide (p.length<=4)&&p.all fun r=>decide (r.length<=8)&&r.all smI
def BB (t:ByteArray):Bool:=match iy t with
 | some v=>smP v.1
 | none=>false
theorem EI:∀ l,iE=some l->l.all BB=true:=by
 intro l h;obtain rfl:=osl h
 decide +kernel
theorem EJ {t:ByteArray} (h:BB t=true):Mo (bW t) fun v=>smP v.1=true:=by
 unfold BB at h
 cases hc:iy t with
 | none=>rw [hc] at h;cases h
 | some v=>
  rw [hc] at h;exact ⟨v,tF t v hc,h⟩
theorem IL:∀ l,iE=some l->∀ t∈l,Mo (bW t) fun v=>smP v.1=true:=
 fun l h t ht=>EJ (List.all_eq_true.1 (EI l h) t ht)
def EK (p:List (List Mh)):Bool:=decide (p.length<=1048576)&&p.all fun r=>decide (r.length<=1048576)
def Hz (p:List (List Mh)) (i:Nat) (x:List Mh):List (List Mh):=p.set i (p.getD i []++x)
def je (r_:ah) (p:List (List Mh)):Option (ah×List (List Mh)):= gd (EK p) <|bif Nat.beq p.length 0 then some (r_,p) else Option.bind (aG r_ (p.length:Int)) fun v1=>Option.bind (aG v1.1 (40:Int)) fun v2=>gd (decide (0<=v1.2/\v1.2<(p.length:Int))) <|bif v2.2==(0:Int) then Option.bind (bM v2.1 ([(0:Int),(6:Int),(1:Int),(4:Int)]:LI)) fun a=>Option.bind (bM a.1 ([(0:Int),(3:Int),(-1:Int)]:LI)) fun b=>some (b.1,Hz p v1.2.toNat [⟨a.2,b.2,0,0⟩]) else bif v2.2==(1:Int) then Option.bind (bM v2.1 ([(4:Int),(-1:Int),(3:Int)]:LI)) fun a=>some (a.1,Hz p v1.2.toNat [⟨2,0,0,a.2⟩]) else bif v2.2==(2:Int) then some (v2.1,p++List.replicate (4-p.length) []) else bif v2.2==(3:Int) then some (v2.1,Hz p v1.2.toNat (List.replicate (8-(p.getD v1.2.toNat []).length) ⟨1,0,0,0⟩)) else bif v2.2==(4:Int) then some (v2.1,(p.drop 1).take (p.length-1)) else some (v2.1,p)
theorem ul {p:List (List Mh)}:smP p=true↔p.length<=4/\∀ r∈p,r.length<=8/\∀ x∈r,smI x=true:=by
 simp only [smP,bae,dte,List.all_eq_true]
theorem IM {p:List (List Mh)} (h:smP p=true):EK p=true:=by
 rw [ul] at h;simp only [EK,bae,dte,List.all_eq_true];exact ⟨by omega,fun r hr=>by have := (h.2 r hr).1;omega⟩
theorem BC {α:Type} {m:Nat}:∀ {p:List (List α)},(∀ r∈p,r.length<=m)->total p<=p.length*m
 | [],_=>by simp [total]
 | r::p,h=>by
  have h1:=BC (p:=p) (fun x hx=>h x (List.mem_cons_of_mem _ hx));have h2:=h r (List.mem_cons_self);simp only [total,List.map_cons,List.sum_cons,llc,Nat.add_mul,Nat.one_mul] at h1 ⊢;omega
theorem KR {p:List (List Mh)} (h:smP p=true):p.length<=1048576/\total p<=1048576:=by
 rw [ul] at h;have h1:=BC (m:=8) (fun r hr=>(h.2 r hr).1);have h2:p.length*8<=32:=by omega
 exact ⟨by omega,by omega⟩
theorem zF {k:Int} {r:ah} (h:Rd k r) (hk:k<=10000000):Mo (kE r) fun v=>Rd (k+4) v.1/\smI v.2=true:=by
 unfold kE;refine (jw h.mk' (by omega) 2).bind fun v1 ⟨a1,a2,a3⟩=>(jw a1.mk' (by omega) 7).bind fun v2 ⟨b1,b2,b3⟩ => ?_;refine .bif (fun _ => .pure ⟨b1.mono (by omega),by simp only [smI];exact decide_eq_true (by omega)⟩) fun _=>?_;refine .bif (fun _=>(jw b1.mk' (by omega) 2).bind fun v3 ⟨c1,c2,c3⟩ => .pure ⟨c1.mono (by omega),decide_eq_true (by simp only [];omega)⟩) fun _=>?_;refine .bif (fun _=>(jw b1.mk' (by omega) 2).bind fun v3 ⟨c1,c2,c3⟩=>(jw c1.mk' (by omega) 3).bind fun v4 ⟨d1,d2,d3⟩ => .gdI (by omega) (.pure ⟨d1.mono (by omega),decide_eq_true (by simp only [];omega)⟩)) fun _=>?_;refine Mo.bind (P:=fun _=>True) (.bif (fun _ => .pure trivial) (fun _ => .pure trivial)) fun s _=>?_;refine .bif (fun _=>(jw b1.mk' (by omega) 3).bind fun v3 ⟨c1,c2,c3⟩ => .gdI (by omega) (.pure ⟨c1.mono (by omega),decide_eq_true (by simp only [];omega)⟩)) fun _=>?_;exact (jw b1.mk' (by omega) 2).bind fun v3 ⟨c1,c2,c3⟩ => .pure ⟨c1.mono (by omega),decide_eq_true (by simp only [];omega)⟩
theorem EL {k:Int} {b:LI} {p n:Int} (h:Rd k ⟨b,p⟩) (hk:k<=1000000) (hn:0<=n/\n<=3):Mo (aV jy (b,p,([]:List Mh),n)) fun v=>Rd (k+12) ⟨v.1,v.2.1⟩/\v.2.2.length<=3/\∀ x∈v.2.2,smI x=true:=by
 refine Mo.loop (fun s=>Rd (k+4*(3-s.2.2.2)) ⟨s.1,s.2.1⟩/\(0<=s.2.2.2/\s.2.2.2+(s.2.2.1.length:Int)<=3)/\∀ x∈s.2.2.1,smI x=true) (fun s=>s.2.2.2.toNat) ⟨h.mono (by simp only [];omega),by simp;omega,by simp⟩ fun s ⟨h1,h2,h3⟩ => ?_;unfold jy;refine .bifD (fun h0=>?_) fun h0 => .pure ⟨h1.mono (by omega),by simp only [];omega,h3⟩;refine (zF h1 (by omega)).bind fun v ⟨a1,a2⟩ => .gdC (by omega) rfl (.gdI (by omega) (.pure ⟨⟨a1.mk'.mono (by simp only [];omega),by simp only [lla,llc,List.length_nil];omega,fun x hx=>?_⟩,by simp only [];omega⟩));rcases List.mem_append.1 hx with hx | hx
 ·exact h3 x hx
 ·rw [List.mem_singleton.1 hx];exact a2
theorem Dv {k:Int} {b:LI} {p n:Int} (h:Rd k ⟨b,p⟩) (hk:k<=100000) (hn:0<=n/\n<=3):Mo (aV jJ (b,p,([]:List (List Mh)),n)) fun v=>Rd (k+39) ⟨v.1,v.2.1⟩/\smP v.2.2=true:=by
 refine Mo.loop (fun s=>Rd (k+13*(3-s.2.2.2)) ⟨s.1,s.2.1⟩/\(0<=s.2.2.2/\s.2.2.2+(s.2.2.1.length:Int)<=3)/\∀ r∈s.2.2.1,r.length<=8/\∀ x∈r,smI x=true) (fun s=>s.2.2.2.toNat) ⟨h.mono (by simp only [];omega),by simp;omega,by simp⟩ fun s ⟨h1,h2,h3⟩ => ?_;unfold jJ;refine .bifD (fun h0=>?_) fun h0 => .pure ⟨h1.mono (by omega),ul.2 ⟨by simp only [];omega,h3⟩⟩;refine Mo.bind (P:=fun v=>Rd (k+13*(3-s.2.2.2)+13) ⟨v.1,v.2.1⟩/\∃ t:List Mh,v.2.2=s.2.2.1++[t]/\t.length<=8/\∀ x∈t,smI x=true) ?_ fun v ⟨a1,t,a2,a3,a4⟩ => ?_
 ·refine Mo.bind (P:=fun v=>Rd (k+13*(3-s.2.2.2)+13) ⟨v.1,v.2.1⟩/\v.2.2.length<=3/\∀ x∈v.2.2,smI x=true) ?_ fun v ⟨a1,a2,a3⟩ => .gdC (by omega) rfl (.pure ⟨a1,v.2.2,rfl,by omega,a3⟩);refine (xy h1 (by omega) _ (by simp)).bind fun v ⟨b1,b2⟩=>(EL (n:=v.2) b1.mk' (by omega) (by simp only [List.mem_cons,List.not_mem_nil,or_false] at b2;omega)).mono fun u ⟨c1,c2,c3⟩=>⟨c1.mono (by omega),c2,c3⟩
 ·refine .gdI (by omega) (.pure ⟨⟨a1.mono (by simp only [];omega),by simp only [a2,lla,llc,List.length_nil];omega,fun r hr=>?_⟩,by simp only [];omega⟩);simp only [a2] at hr;rcases List.mem_append.1 hr with hr | hr
  ·exact h3 r hr
  ·rw [List.mem_singleton.1 hr];exact ⟨a3,a4⟩
theorem EM {k:Int} {r:ah} (h:Rd k r) (hk:k<=10000) (hp:∀ l,iE=some l->∀ t∈l,Mo (bW t) fun v=>smP v.1=true):Mo (pz r) fun v=>Rd (k+46) v.1/\smP v.2=true:=by
 unfold pz;have e1:∃ l,iE=some l/\0<l.length/\l.length<=100:=⟨_,rfl,by decide,by decide⟩;obtain ⟨l,e1,e2,e3⟩:=e1;have hp':=hp l e1;refine (Mo.of (P:=fun v=>v=l) e1 rfl).bind fun v1 hv=>?_;subst hv;refine Mo.sum (PS:=fun s=>Rd (k+2) ⟨s.1,s.2⟩) (PW:=fun v:ah×List (List Mh)=>Rd (k+46) v.1/\smP v.2=true) ?_ fun s hs=>?_
 ·refine (jw h.mk' (by omega) 3).bind fun v3 ⟨a1,a2,a3⟩ => .bif (fun _=>?_) fun _ => .pure (a1.mk'.mono (by omega));refine (jw a1.mk' (by omega) _).bind fun v5 ⟨b1,b2,b3⟩ => .gdD ⟨b2,by omega⟩ ?_;have hlt:v5.2.toNat<v1.length:=by omega
  refine Mo.bind (hp' (v1.getD v5.2.toNat default) (by rw [gdq,geq hlt];exact List.getElem_mem _)) fun v7 h7=>?_;exact .bif (fun _ => .pure ⟨b1.mk'.mono (by omega),h7⟩) fun _ => .pure (b1.mk'.mono (by omega))
 ·refine Mo.bind (P:=fun v=>Rd (k+42) ⟨v.1,v.2.1⟩/\smP v.2.2=true) ?_ fun v ⟨a1,a2⟩ => ?_
  ·exact (xy hs (by omega) _ (by simp)).bind fun v ⟨b1,b2⟩=>(Dv (n:=v.2) b1.mk' (by omega) (by simp only [List.mem_cons,List.not_mem_nil,or_false] at b2;omega)).mono fun u ⟨c1,c2⟩=>⟨c1.mono (by omega),c2⟩
  ·have hv:Mo (bg v.2.2) fun _=>True := .gdD (KR a2) (.pure trivial);refine hv.bind fun b _ => .bif (fun _ => .pure ⟨a1.mono (by omega),a2⟩) fun _=>?_;exact (zF a1 (by omega)).bind fun u ⟨c1,c2⟩ => .pure ⟨c1.mk'.mono (by omega),ul.2 ⟨by simp,by simp [c2]⟩⟩
theorem JW {p:List (List Mh)} (h:smP p=true) {i:Nat} (hi:i<p.length) {l:List Mh} (hl:(p.getD i []).length+l.length<=9) (hx:∀ x∈l,smI x=true):(Hz p i l).length<=4/\∀ r∈Hz p i l,r.length<=9/\∀ x∈r,smI x=true:=by
 rw [ul] at h;unfold Hz;refine ⟨by rw [List.length_set];exact h.1,fun r hr=>?_⟩;rcases List.mem_or_eq_of_mem_set hr with hr | rfl
 ·exact ⟨by have := (h.2 r hr).1;omega,(h.2 r hr).2⟩
 ·have hg:p.getD i []=p[i]:=by simp [hi]
  refine ⟨by rw [lla];omega,fun x hxx=>?_⟩;rcases List.mem_append.1 hxx with hxx | hxx
  ·rw [hg] at hxx;exact (h.2 _ (List.getElem_mem hi)).2 x hxx
  ·exact hx x hxx
def Sm (p:List (List Mh)):Prop:=p.length<=9/\∀ r∈p,r.length<=9/\∀ x∈r,smI x=true
theorem G8 {p:List (List Mh)} (h:smP p=true):Sm p:=by
 rw [ul] at h;exact ⟨by omega,fun r hr=>⟨by have := (h.2 r hr).1;omega,(h.2 r hr).2⟩⟩
theorem Sm.sz {p:List (List Mh)} (h:Sm p):p.length<=1048576/\total p<=1048576:=by
 have h1:=BC (m:=9) (fun r hr=>(h.2 r hr).1);have h2:p.length*9<=81:=by have := h.1;omega
 exact ⟨by have := h.1;omega,by omega⟩
theorem Cz {k:Int} {r:ah} (h:Rd k r) (hk:k<=100000) {p:List (List Mh)} (hp:smP p=true):Mo (je r p) fun v=>Rd (k+4) v.1/\Sm v.2:=by
 unfold je;have hp0:=ul.1 hp;have hg:∀ i,(p.getD i []).length<=8:=fun i=>by
  by_cases hi:i<p.length
  ·have : p.getD i []=p[i]:=by simp [hi]
   rw [this];exact (hp0.2 _ (List.getElem_mem hi)).1
  ·simp [List.getD,gen (Nat.le_of_not_lt hi)]
 refine .gd (IM hp) (.bif (fun _ => .pure ⟨h.mono (by omega),G8 hp⟩) fun h0=>?_);have hpos:0<p.length:=by
  cases hc:p.length with
  | zero=>rw [hc] at h0;cases h0
  | succ n=>omega
 refine (jw h (by omega) _).bind fun v1 ⟨a1,a2,a3⟩=>(jw a1 (by omega) _).bind fun v2 ⟨b1,b2,b3⟩ => .gdD ⟨a2,by omega⟩ ?_;have hi:v1.2.toNat<p.length:=by omega
 have put:∀ {l:List Mh},(p.getD v1.2.toNat []).length+l.length<=9->(∀ x∈l,smI x=true)->Sm (Hz p v1.2.toNat l):=fun {l} hl hx=>by
  obtain ⟨g1,g2⟩:=JW hp hi hl hx;exact ⟨by omega,g2⟩
 refine .bif (fun _=>(xy b1 (by omega) _ (by simp)).bind fun a ⟨c1,c2⟩=>(xy c1 (by omega) _ (by simp)).bind fun b ⟨d1,d2⟩ => .pure ⟨d1.mono (by omega),put (by have := hg v1.2.toNat;simp only [llc,List.length_nil];omega) fun x hx=>?_⟩) fun _=>?_
 ·rw [List.mem_singleton.1 hx];simp only [List.mem_cons,List.not_mem_nil,or_false] at c2 d2;exact decide_eq_true (by simp only [];omega)
 refine .bif (fun _=>(xy b1 (by omega) _ (by simp)).bind fun a ⟨c1,c2⟩ => .pure ⟨c1.mono (by omega),put (by have := hg v1.2.toNat;simp only [llc,List.length_nil];omega) fun x hx=>?_⟩) fun _=>?_
 ·rw [List.mem_singleton.1 hx];simp only [List.mem_cons,List.not_mem_nil,or_false] at c2;exact decide_eq_true (by simp only [];omega)
 refine .bif (fun _ => .pure ⟨b1.mono (by omega),by simp only [lla,List.length_replicate];omega,fun r hr=>?_⟩) fun _=>?_
 ·rcases List.mem_append.1 hr with hr | hr
  ·exact ⟨by have := (hp0.2 r hr).1;omega,(hp0.2 r hr).2⟩
  ·rw [List.eq_of_mem_replicate hr];exact ⟨by simp,by simp⟩
 refine .bif (fun _ => .pure ⟨b1.mono (by omega),put (by have := hg v1.2.toNat;rw [List.length_replicate];omega) fun x hx=>?_⟩) fun _=>?_
 ·rw [List.eq_of_mem_replicate hx]
  rfl
 refine .bif (fun _ => .pure ⟨b1.mono (by omega),?_⟩) fun _ => .pure ⟨b1.mono (by omega),G8 hp⟩;exact ⟨by simp only [List.length_take,List.length_drop];omega,fun r hr=>(G8 hp).2 r (List.mem_of_mem_drop (List.mem_of_mem_take hr))⟩
end
end Go.Proofs.YtcmimhffgmckjaaGreatDoor
