/- Texts joined. No conditions. -/
import Derived.Test.YtpkhamajimidnaaGreatDoorV8
namespace Go.Proofs.YtpkhamajimidnaaGreatDoor
noncomputable section
open _root_.Option renaming bind -> OM, bind_eq_some_iff -> Pw
open _root_.Bool renaming true_and -> OO, eq_iff_iff -> O4, not_eq_true' -> Pb, eq_false_iff -> Pm, and_eq_false_iff -> Pv
open _root_.List renaming mem_cons_self -> OP, replicate -> OQ, mem_singleton -> OT, getElem_of_mem -> OU, foldl_cons -> OV, all_eq_true -> OW, range -> OY, mem_range -> O3, all_cons -> O7, foldl_nil -> O8, mem_cons -> Pe, range_succ -> Pf, map_append -> Pg, take_of_length_le -> Pj, length_set -> Pk, foldl_append -> Pn, countP_singleton -> Pq, length_filter_le -> Ps, getElem?_replicate -> Pt, take_append_drop -> Pu
open _root_.Nat renaming and_le_left -> OX, lt_succ_self -> OZ, not_lt_zero -> O0, lt_irrefl -> O6, pow_lt_pow_right -> O9, pow_le_pow_right -> Pd, le_trans -> Ph, sub_self -> Pi
open _root_.Int renaming toNat_of_nonneg -> O1, lt_irrefl -> O2
open _root_.BitVec renaming ofInt -> O5, ofInt_natCast -> Po, toNat_ofNat -> Pp
open Go.RowKit
set_option maxRecDepth 100000
section
variable {N:Nat} {f g:Int->Int->Bool}
theorem Cb (hN:N<=60) {i k:Nat} (hi:i<N) (hk:k<N):KI (dc (KL N f) (i:Int) (k:Int)) (· = f i k):=iX (f:=f) hN hi hk
theorem vQ {q:Nat->Int} {step:List Int×Int->Option ((List Int×Int) ⊕ LI)} (hs:∀ i:Nat,i<N->KI (step (tab i q,(i:Int))) (· = .inl (tab (i+1) q,((i+1:Nat):Int))))
  (he:KI (step (tab N q,(N:Int))) (· = .inr (tab N q))):KI (loopO step (([]:LI),(0:Int))) (· = tab N q):=by
 refine KI.loop (fun z=>∃ i:Nat,i<=N/\z=(tab i q,(i:Int))) (fun z=>((N:Int)-z.2).toNat) ⟨0,by omega,rfl⟩ fun z ⟨i,h1,h2⟩ => ?_;subst h2
 by_cases h:i<N
 ·refine (hs i h).mono fun v hv=>?_;subst hv;exact ⟨⟨i+1,by omega,rfl⟩,by simp only [];omega⟩
 obtain rfl:i=N:=by omega
 exact he.mono fun v hv=>by subst hv;rfl
theorem GQ (hN:N<=16):KI (kS (KL N f) (KL N g)) (· = KL N fun i k=>f i k||g i k):=by
 unfold kS;refine KI.bind (P:=(· = KL N fun i k=>f i k||g i k)) (vQ (fun i hi=>?_) ?_) fun v hv => .pure hv
 ·unfold gI;simp only [aO,tnn];refine .bifD (fun _ => .gdD ⟨by omega,by omega⟩ (.gdD ⟨by omega,by omega⟩ (.gd (dx (by rw [pQ];omega) rfl) (.gdI (by omega) (.pure ?_))))) fun h=>absurd (show (i:Int)<(N:Int) by omega) h;rw [fG hi,fG hi,nJ (aT (by omega)) (aT (by omega)),xX,vO]
  rfl
 unfold gI;simp only [aO];exact .bifD (fun h=>absurd h (O2 _)) fun _ => .pure rfl
theorem IK (hN:N<=16):KI (l8 (KL N f) (KL N g)) (· = KL N fun i k=>f i k&&g i k):=by
 unfold l8;refine KI.bind (P:=(· = KL N fun i k=>f i k&&g i k)) (vQ (fun i hi=>?_) ?_) fun v hv => .pure hv
 ·unfold iB;simp only [aO,tnn];refine .bifD (fun _ => .gdD ⟨by omega,by omega⟩ (.gdD ⟨by omega,by omega⟩ (.gd (dx (by rw [pQ];omega) rfl) (.gdI (by omega) (.pure ?_))))) fun h=>absurd (show (i:Int)<(N:Int) by omega) h;rw [fG hi,fG hi,yJ (aT (by omega)) (aT (by omega)),DF,vO]
  rfl
 unfold iB;simp only [aO];exact .bifD (fun h=>absurd h (O2 _)) fun _ => .pure rfl
theorem GR (hN:N<=16):KI (kT (KL N f) (KL N g)) (· = KL N fun i k=>f i k && !g i k):=by
 unfold kT;refine KI.bind (P:=(· = KL N fun i k=>f i k && !g i k)) (vQ (fun i hi=>?_) ?_) fun v hv => .pure hv
 ·unfold gJ;simp only [aO,tnn];refine .bifD (fun _ => .gdD ⟨by omega,by omega⟩ (.gdD ⟨by omega,by omega⟩ (.gd (dx (by rw [pQ];omega) rfl) (.gdI (by omega) (.pure ?_))))) fun h=>absurd (show (i:Int)<(N:Int) by omega) h;rw [fG hi,fG hi,zJ _ _ (by omega),vO]
  rfl
 unfold gJ;simp only [aO];exact .bifD (fun h=>absurd h (O2 _)) fun _ => .pure rfl
theorem DZ (hN:N<=16):KI (iC (KL N f) (KL N g)) (· = KL N (xz f g N)):=by
 unfold iC;refine KI.bind (P:=(· = KL N (xz f g N))) (vQ (fun i hi=>?_) ?_) fun v hv => .pure hv
 ·unfold eO;simp only [aO];refine .bifD (fun _=>KI.bind (P:=(· = tab (i+1) fun i=>((KJ (fun k=>xz f g N (i:Int) (k:Int)) N:Nat):Int))) (KI.bind (P:=(· = ((KJ (fun k=>xz f g N (i:Int) (k:Int)) N:Nat):Int))) ?_ fun v hv => .gd (dx (by rw [pQ];omega) rfl) (.pure (by rw [vO,hv]))) fun v hv => .gdI (by omega) (.pure (by rw [hv];rfl))) fun h=>absurd (show (i:Int)<(N:Int) by omega) h;refine KI.loop (fun z=>∃ m:Nat,m<=N/\z=((m:Int),((KJ (fun k=>xz f g m (i:Int) (k:Int)) N:Nat):Int))) (fun z=>((N:Int)-z.1).toNat) ⟨0,by omega,?_⟩ fun z ⟨m,m1,m2⟩ => ?_
  ·exact congrArg (fun n:Nat=>((0:Int),(n:Int))) ((bR (g:=fun _=>false) fun k hk=>rfl).trans (vP N)).symm
  subst m2;unfold lT;simp only [aO];refine .bifD (fun hk=>?_) fun hk => .pure (by rw [show m=N by omega]);refine KI.bind (P:=(· = ((KJ (fun k=>xz f g (m+1) (i:Int) (k:Int)) N:Nat):Int))) ((Cb (by omega) hi (show m<N by omega)).bind fun v hv => .bif (fun hb => .gdD ⟨by omega,by omega⟩ (.pure ?_)) fun hb => .pure ?_) fun v hv => .gdI (by omega) (.pure ⟨⟨m+1,by omega,by rw [hv];rfl⟩,by simp only [];omega⟩)
  ·rw [tnn,fG (by omega),nJ (aT (by omega)) (aT (by omega)),xX];refine congrArg (fun n:Nat=>(n:Int)) (bR fun k _=>?_);rw [rX,<- hv,hb,OO]
  refine congrArg (fun n:Nat=>(n:Int)) (bR fun k _=>?_);rw [rX,<- hv,hb,Bool.false_and,Bool.or_false]
 unfold eO;simp only [aO];exact .bifD (fun h=>absurd h (O2 _)) fun _ => .pure rfl
theorem D5 (hN:N<=16):KI (iA (KL N f)) (· = KL N fun i k=>f k i):=by
 unfold iA;rw [aO];refine .gdD ⟨by omega,by omega,by omega,by omega⟩ (KI.bind (P:=(· = KL N fun i k=>f k i)) ?_ fun v hv => .pure hv);rw [tnn,vN];refine KI.loop (fun z=>∃ i:Nat,i<=N/\z=(tab N (fun j=>((KJ (fun m=>f (m:Int) (j:Int)) i:Nat):Int)),(i:Int))) (fun z=>((N:Int)-z.2).toNat) ⟨0,by omega,rfl⟩ fun z ⟨i,h1,h2⟩ => ?_;subst h2;unfold iO;simp only [aO];refine .bifD (fun hk=>?_) fun hk => .pure (by rw [show i=N by omega];rfl);refine KI.bind (P:=(· = tab N (fun j=>((KJ (fun m=>f (m:Int) (j:Int)) (i+1):Nat):Int)))) ?_ fun v hv => .gdI (by omega) (.pure ⟨⟨i+1,by omega,by rw [hv];rfl⟩,by simp only [];omega⟩);refine KI.loop (fun z=>∃ k:Nat,k<=N/\z=(tab N (fun j=>((KJ (fun m=>f (m:Int) (j:Int)) (if j<k then i+1 else i):Nat):Int)),(k:Int))) (fun z=>((N:Int)-z.2).toNat) ⟨0,by omega,congrArg (fun l=>(l,(0:Int))) (dz fun j _=>by rw [if_neg (by omega)])⟩ fun z ⟨k,k1,k2⟩ => ?_;subst k2;unfold gW;simp only [aO,pQ];refine .bifD (fun hkk=>?_) fun hkk => .pure (dz fun j hj=>by rw [if_pos (by omega)]);refine KI.bind (P:=(· = tab N (fun j=>((KJ (fun m=>f (m:Int) (j:Int)) (if j<k+1 then i+1 else i):Nat):Int)))) ((Cb (by omega) (show i<N by omega) (show k<N by omega)).bind fun v hv => .bif (fun hb => .gdD ⟨by omega,by omega⟩ (.gdD (by omega) (.pure ?_))) fun hb => .pure ?_) fun v hv => .gdI (by omega) (.pure ⟨⟨k+1,by omega,by rw [hv];rfl⟩,by simp only [];omega⟩)
 ·rw [tnn,Aw (by omega),if_neg (by omega),vM (by omega),nJ (aT (by omega)) (by have := O9 (a:=2) (by omega) (show i<63 by omega);omega),yI];refine dz fun j _=>?_
  by_cases e:j=k
  ·subst e;rw [if_pos rfl,if_pos (by omega),KJ,if_pos (by rw [<- hv];exact hb)]
  rw [if_neg e]
  by_cases e2:j<k
  ·rw [if_pos e2,if_pos (by omega)]
  rw [if_neg e2,if_neg (by omega)]
 refine dz fun j _=>?_
 by_cases e:j=k
 ·subst e;rw [if_neg (by omega),if_pos (by omega),KJ,if_neg (by rw [<- hv,hb];decide)]
 by_cases e2:j<k
 ·rw [if_pos e2,if_pos (by omega)]
 rw [if_neg e2,if_neg (by omega)]
theorem D6 (hN:N<=16) {m:Nat} (hk:m<N):KI (loopO (dU (KL N (KM f m),(m:Int))) (KL N (KM f m),(0:Int))) (· = KL N (KM f (m+1))):=by
 refine KI.loop (fun z=>∃ i:Nat,i<=N/\z=(KL N (fun j k=>if j<(i:Int) then KM f (m+1) j k else KM f m j k),(i:Int))) (fun z=>((N:Int)-z.2).toNat) ⟨0,by omega,congrArg (fun l=>(l,(0:Int))) (il (g:=fun j k=>if j<((0:Nat):Int) then KM f (m+1) j k else KM f m j k) fun j k _ _=>(if_neg (by omega)).symm)⟩ fun z ⟨i,i1,i2⟩ => ?_;subst i2;unfold dU;simp only [aO];refine .bifD (fun hkk=>?_) fun hkk => .pure (il fun j k hj _=>by rw [if_pos (by omega)]);refine KI.bind (P:=(· = KL N (fun j k=>if j<((i+1:Nat):Int) then KM f (m+1) j k else KM f m j k))) ?_ fun v hv => .gdI (by omega) (.pure ⟨⟨i+1,by omega,by rw [hv];rfl⟩,by simp only [];omega⟩);refine (Cb (by omega) (i:=i) (k:=m) (by omega) (by omega)).bind fun v hv=>?_;rw [if_neg (by omega)] at hv;refine .bif (fun hb=>?_) fun hb => .pure (il fun j k hj hk=>?_)
 ·simp only [tnn];refine .gdD ⟨by omega,by omega⟩ (.gdD ⟨by omega,by omega⟩ (.pure ?_));rw [fG (by omega),fG (by omega),nJ (aT (by omega)) (aT (by omega)),xX];have e1:KJ (fun j=>(if (i:Int)<(i:Int) then KM f (m+1) (i:Int) (j:Int) else KM f m (i:Int) (j:Int))||(if (m:Int)<(i:Int) then KM f (m+1) (m:Int) (j:Int) else KM f m (m:Int) (j:Int))) N=KJ (fun k=>KM f (m+1) (i:Int) (k:Int)) N:=bR fun k hk=>by
   rw [if_neg (by omega),DV];rw [hv] at hb;show _=(KM f m (i:Int) (k:Int)||(KM f m (i:Int) (m:Int)&&KM f m (m:Int) (k:Int)));rw [hb];simp
  rw [e1];refine Ay (g:=KM f (m+1)) i _ fun j k hj hk=>?_
  by_cases e:j=i
  ·subst e;rw [if_pos (by omega),if_pos rfl]
  rw [if_neg e]
  by_cases e2:(j:Int)<(i:Int)
  ·rw [if_pos e2,if_pos (by omega)]
  rw [if_neg e2,if_neg (by omega)]
 by_cases e:(j:Int)<(i:Int)
 ·rw [if_pos e,if_pos (by omega)]
 rw [if_neg e]
 by_cases e2:j=i
 ·subst e2;rw [if_pos (by omega)];rw [hv] at hb;show _=(KM f m (j:Int) (k:Int)||(KM f m (j:Int) (m:Int)&&KM f m (m:Int) (k:Int)));rw [hb];simp
 rw [if_neg (by omega)]
theorem zM (hN:N<=16):KI (fe (KL N f)) (· = KL N (KM f N)):=by
 unfold fe;refine .gd (dx (by rw [aO];simp;omega) rfl) (KI.bind (P:=(· = KL N (KM f N))) ?_ fun v hv => .pure hv);rw [List.nil_append];refine KI.loop (fun z=>∃ m:Nat,m<=N/\z=(KL N (KM f m),(m:Int))) (fun z=>((N:Int)-z.2).toNat) ⟨0,by omega,rfl⟩ fun z ⟨m,h1,h2⟩ => ?_;subst h2;unfold iP;simp only [aO];refine .bifD (fun hk=>?_) fun hk => .pure (by rw [show m=N by omega]);refine KI.bind (P:=(· = KL N (KM f (m+1)))) (D6 hN (by omega)) fun v hv => .gdI (by omega) (.pure ⟨⟨m+1,by omega,by rw [hv];rfl⟩,by simp only [];omega⟩)
theorem D7 (hN:N<=16):KI (kU (KL N f)) (· = qN N f):=Az hN
theorem D8 (hN:N<=16):KI (iD (KL N f)) (· = qN N (KM f N)):=by
 unfold iD;exact (zM hN).bind fun v hv=>by subst hv;exact (D7 hN).bind fun w hw => .pure hw
def D9 (N:Nat) (f:Int->Int->Bool):Bool:=(OY N).all fun i=>(OY N).all fun k => !f (i:Int) (k:Int)
theorem Bs:D9 N f=true↔∀ i:Nat,i<N->∀ k:Nat,k<N->f i k=false:=by
 unfold D9;simp only [OW,O3,Pb]
theorem GU (hN:N<=16):KI (kV (KL N f)) fun n=>(n==0)=D9 N f:=by
 unfold kV;refine KI.bind (P:=fun n:Int=>n=0↔∀ i:Nat,i<N->∀ k:Nat,k<N->f i k=false) ?_ fun v hv => .pure (by rw [O4,Bs,beq_iff_eq];exact hv);refine KI.loop (fun z=>∃ i:Nat,i<=N/\z.1=(i:Int)/\0<=z.2/\z.2<=(i:Int)*16/\(z.2=0↔∀ j:Nat,j<i->∀ k:Nat,k<N->f j k=false)) (fun z=>((N:Int)-z.1).toNat) ⟨0,by omega,rfl,by simp,by simp,by simp⟩ fun z ⟨i,h1,h2,h3,h4,h5⟩ => ?_;obtain ⟨zi,zn⟩:=z;simp only at h2 h3 h4 h5;subst h2;unfold nY;simp only [aO];refine .bifD (fun hk=>?_) fun hk => .pure (show (zn=0↔_) from (show i=N by omega) ▸ h5);refine KI.bind (P:=fun n:Int=>0<=n/\n<=((i:Int)+1)*16/\(n=0↔(zn=0/\∀ k:Nat,k<N->f i k=false))) ?_ fun v ⟨v1,v2,v3⟩ => .gdI (by omega) (.pure ⟨⟨i+1,by omega,by simp,v1,by simp only [];omega,?_⟩,by simp only [];omega⟩)
 ·refine KI.loop (fun z=>∃ k:Nat,k<=N/\z.1=(k:Int)/\zn<=z.2/\z.2<=zn+(k:Int)/\(z.2=0↔(zn=0/\∀ q:Nat,q<k->f i q=false))) (fun z=>((N:Int)-z.1).toNat) ⟨0,by omega,rfl,by simp,by simp,by simp⟩ fun z ⟨k,k1,k2,k3,k4,k5⟩ => ?_;obtain ⟨zk,zm⟩:=z;simp only at k2 k3 k4 k5;subst k2;unfold m6;simp only [aO];refine .bifD (fun hkk=>?_) fun hkk => .pure ⟨by omega,by omega,show (zm=0↔_) from (show k=N by omega) ▸ k5⟩;refine KI.bind (P:=fun m:Int=>zn<=m/\m<=zn+(k:Int)+1/\(m=0↔(zn=0/\∀ q:Nat,q<k+1->f i q=false))) ((Cb (by omega) (show i<N by omega) (show k<N by omega)).bind fun v hv => .bif (fun hb => .gdI (by omega) (.pure ⟨by omega,by omega,fun h=>by omega,fun ⟨_,h⟩ => ?_⟩)) fun hb => .pure ⟨by omega,by omega,fun h=>⟨(k5.1 h).1,fun q hq=>?_⟩,fun ⟨g1,g2⟩=>k5.2 ⟨g1,fun q hq=>g2 q (by omega)⟩⟩) fun v ⟨v1,v2,v3⟩ => .gdI (by omega) (.pure ⟨⟨k+1,by omega,by simp,v1,by simp only [];omega,v3⟩,by simp only [];omega⟩)
  ·have := h k (by omega);rw [<- hv,hb] at this
   cases this
  by_cases e:q=k
  ·subst e;rw [<- hv];exact hb
  exact (k5.1 h).2 q (by omega)
 simp only [];rw [v3,h5]
 constructor
 ·rintro ⟨g1,g2⟩ j hj k hkn
  by_cases e:j=i
  ·subst e;exact g2 k hkn
  exact g1 j (by omega) k hkn
 exact fun g=>⟨fun j hj=>g j (by omega),fun k hk=>g i (by omega) k hk⟩
end
theorem zN {a b:Nat} (ha:a<4294967296) (hb:b<18446744073709551616):cN .u64 (a:Int) (b:Int)=((a&&&b:Nat):Int):=by
 have hle:(a&&&b)<=a:=OX;show IntKind.wrap .u64 (((O5 64 (a:Int)&&&O5 64 (b:Int)).toNat:Nat):Int)=_;have h1:(O5 64 (a:Int)).toNat=a:=by rw [Po,Pp];omega
 have h2:(O5 64 (b:Int)).toNat=b:=by rw [Po,Pp];omega
 rw [BitVec.toNat_and,h1,h2];show ((a&&&b:Nat):Int) % 18446744073709551616=_;omega
theorem xZ (a k:Nat) (hk:k<=64):gz .u64 (a:Int) (k:Int)=((a / 2 ^ k:Nat):Int):=by
 show (a:Int).fdiv (2 ^ (min (k:Int).toNat 64))=_;have hm:min (k:Int).toNat 64=k:=by omega
 rw [hm,show (2:Int) ^ k=((2 ^ k:Nat):Int) by simp,Int.fdiv_eq_ediv_of_nonneg _ (Int.natCast_nonneg _)]
 rfl
def pcA (x:Nat):Nat:=(x / 2&&&6148914691236517205)+(x&&&6148914691236517205)
def pcB (a:Nat):Nat:=(a / 4&&&3689348814741910323)+(a&&&3689348814741910323)
def pcC (b:Nat):Nat:=b / 16+b&&&1085102592571150095
def pcD (c:Nat):Nat:=let d:=c+c / 256;let e:=d+d / 65536;e+e / 4294967296&&&127
def pc (x:Nat):Nat:=pcD (pcC (pcB (pcA x)))
def JB (x:Nat):Bool:=Nat.ble (pc x) 16&&((pc x==0)==(x==0))
def IL:Nat->Nat->Bool
 | 0,b=>JB b
 | n+1,b=>IL n b&&IL n (b+2 ^ n)
theorem wT:∀ (n b:Nat),IL n b=true->∀ x,b<=x->x<b+2 ^ n->JB x=true
 | 0,b,h,x,h1,h2=>by
  rw [show x=b by omega];exact h
 | n+1,b,h,x,h1,h2=>by
  rw [IL,bae] at h;rw [Nat.pow_succ] at h2
  by_cases e:x<b+2 ^ n
  ·exact wT n b h.1 x h1 e
  exact wT n _ h.2 x (by omega) (by omega)
theorem Fg:IL 16 0=true:=by decide +kernel
theorem JC {x:Nat} (h:x<65536):pc x<=16/\(pc x=0↔x=0):=by
 have := wT 16 0 Fg x (Nat.zero_le _) (by omega);unfold JB at this;rw [bae] at this;refine ⟨nlb this.1,?_⟩;have h2:=this.2
 by_cases e:x=0
 ·subst e;exact ⟨fun _=>rfl,fun _=>by simpa using h2⟩
 constructor
 ·intro e2;rw [e2] at h2;simp [e] at h2
 exact fun e2=>absurd e2 e
theorem inU {n:Nat} (h:n<4294967296):KC .u64 (n:Int)=true:=Im ⟨by omega,by omega⟩
theorem Fh {x:Nat} (h:x<65536):KI (dw (x:Int)) (· = (pc x:Int)):=by
 unfold dw eU;refine KI.bind (P:=(· = (pc x:Int))) ?_ fun v hv => .pure hv;have a1:cN .u64 (gz .u64 (x:Int) (1:Int)) (6148914691236517205:Int)+cN .u64 (x:Int) (6148914691236517205:Int)=((pcA x:Nat):Int):=by
  rw [show gz .u64 (x:Int) (1:Int)=((x / 2:Nat):Int) from xZ x 1 (by omega),show (6148914691236517205:Int)=((6148914691236517205:Nat):Int) from rfl,zN (by omega) (by omega),zN (by omega) (by omega)]
  rfl
 have a2:pcA x<131072:=by
  have h1:(x / 2&&&6148914691236517205)<=x / 2:=OX;have h2:(x&&&6148914691236517205)<=x:=OX;unfold pcA;omega
 generalize hA:pcA x=A at a1 a2;have b1:cN .u64 (gz .u64 (A:Int) (2:Int)) (3689348814741910323:Int)+cN .u64 (A:Int) (3689348814741910323:Int)=((pcB A:Nat):Int):=by
  rw [show gz .u64 (A:Int) (2:Int)=((A / 4:Nat):Int) from xZ A 2 (by omega),show (3689348814741910323:Int)=((3689348814741910323:Nat):Int) from rfl,zN (by omega) (by omega),zN (by omega) (by omega)]
  rfl
 have b2:pcB A<262144:=by
  have h1:(A / 4&&&3689348814741910323)<=A / 4:=OX;have h2:(A&&&3689348814741910323)<=A:=OX;unfold pcB;omega
 generalize hB:pcB A=B at b1 b2;have c1:gz .u64 (B:Int) (4:Int)+(B:Int)=((B / 16+B:Nat):Int):=by
  rw [show gz .u64 (B:Int) (4:Int)=((B / 16:Nat):Int) from xZ B 4 (by omega)];omega
 have c2:cN .u64 ((B / 16+B:Nat):Int) (1085102592571150095:Int)=((pcC B:Nat):Int):=by
  rw [show (1085102592571150095:Int)=((1085102592571150095:Nat):Int) from rfl,zN (by omega) (by omega)]
  rfl
 have c3:pcC B<524288:=by
  have h1:(B / 16+B&&&1085102592571150095)<=B / 16+B:=OX;unfold pcC;omega
 generalize hC:pcC B=C at c2 c3;have d1:(C:Int)+gz .u64 (C:Int) (8:Int)=((C+C / 256:Nat):Int):=by
  rw [show gz .u64 (C:Int) (8:Int)=((C / 256:Nat):Int) from xZ C 8 (by omega)];omega
 have hp:pc x=pcD C:=by unfold pc;rw [hA,hB,hC]
 have e0:∀ D:Nat,(D:Int)+gz .u64 (D:Int) (16:Int)=((D+D / 65536:Nat):Int):=fun D=>by
  rw [show gz .u64 (D:Int) (16:Int)=((D / 65536:Nat):Int) from xZ D 16 (by omega)];omega
 have e1:∀ D:Nat,(D:Int)+gz .u64 (D:Int) (32:Int)=((D+D / 4294967296:Nat):Int):=fun D=>by
  rw [show gz .u64 (D:Int) (32:Int)=((D / 4294967296:Nat):Int) from xZ D 32 (by omega)];omega
 rw [a1,b1,c1];refine .gdD (by omega) (.gd (inU (by omega)) (.gdD (by omega) (.gd (inU (by omega)) (.gdD (by omega) (.gd (inU (by omega)) (KI.bind (P:=(· = ((B / 16+B:Nat):Int))) (.pure rfl) fun w hw=>?_))))));subst hw;rw [c2,d1,e0,e1];refine .gdD (by omega) (.gd (inU (by omega)) (.gdD (by omega) (.gd (inU (by omega)) (.gdD (by omega) (.gd (inU (by omega)) (.gdI (by omega) (.pure ?_)))))));rw [show (127:Int)=((127:Nat):Int) from rfl,yJ (by omega) (by omega),hp]
 rfl
section
variable {N:Nat} {f g:Int->Int->Bool}
theorem Fj {q:Nat->Bool} {n:Nat}:KJ q n=0↔∀ k,k<n->q k=false:=by
 constructor
 ·intro h k hk;have := gY q n k;rw [h,decide_eq_true hk,Nat.zero_testBit,OO] at this;exact this.symm
 intro h;rw [bR (g:=fun _=>false) h,vP]
theorem GV (hN:N<=16):KI (jS (KL N f)) fun n=>(n==0)=D9 N f:=by
 unfold jS;refine (kK hN).bind fun v hv=>?_;subst hv;refine .bif (fun h=>by cases h) fun _=>?_;refine KI.bind (P:=fun n:Int=>n=0↔∀ i:Nat,i<N->∀ k:Nat,k<N->f i k=false) ?_ fun v hv => .pure (by rw [O4,Bs,beq_iff_eq];exact hv);refine KI.loop (fun z=>∃ i:Nat,i<=N/\z.1=(i:Int)/\0<=z.2/\z.2<=(i:Int)*16/\(z.2=0↔∀ j:Nat,j<i->∀ k:Nat,k<N->f j k=false)) (fun z=>((N:Int)-z.1).toNat) ⟨0,by omega,rfl,by simp,by simp,by simp⟩ fun z ⟨i,h1,h2,h3,h4,h5⟩ => ?_;obtain ⟨zi,zn⟩:=z;simp only at h2 h3 h4 h5;subst h2;unfold ng;simp only [aO,tnn];refine .bifD (fun hk=>?_) fun hk => .pure (show (zn=0↔_) from (show i=N by omega) ▸ h5);rw [fG (by omega)];have hlt:KJ (fun k=>f (i:Int) (k:Int)) N<65536:=Nat.lt_of_lt_of_le (Bm _ _) (by have := Pd (n:=2) (by omega) hN;omega);obtain ⟨p1,p2⟩:=JC hlt;refine .gdD ⟨by omega,hk⟩ (.gd (inU (by omega)) ((Fh hlt).bind fun v hv=>?_));subst hv;refine .gdI (by omega) (.gdI (by omega) (.pure ⟨⟨i+1,by omega,by simp,by simp only [];omega,by simp only [];omega,?_⟩,by simp only [];omega⟩));simp only [];have e:zn+(pc (KJ (fun k=>f (i:Int) (k:Int)) N):Int)=0↔zn=0/\KJ (fun k=>f (i:Int) (k:Int)) N=0:=by rw [<- p2];omega
 rw [e,h5,Fj]
 constructor
 ·rintro ⟨g1,g2⟩ j hj k hkn
  by_cases e:j=i
  ·subst e;exact g2 k hkn
  exact g1 j (by omega) k hkn
 exact fun g=>⟨fun j hj=>g j (by omega),fun k hk=>g i (by omega) k hk⟩
def okK (kind:Int) (N:Nat) (f:Int->Int->Bool):Bool:=if kind=1 then qN N (KM f N) else if kind=2 then qN N f else D9 N f
theorem Kh (hN:N<=16) (kind:Int):KI (iF kind (KL N f)) (· = okK kind N f):=by
 unfold iF okK;refine .bif (fun h=>(DW hN).bind fun v hv => .pure (by rw [hv,if_pos (eq_of_beq h)])) fun h=>?_;rw [if_neg (fun e=>by rw [e] at h;cases h)];refine .bif (fun h=>(Az hN).bind fun v hv => .pure (by rw [hv,if_pos (eq_of_beq h)])) fun h=>?_;rw [if_neg (fun e=>by rw [e] at h;cases h)];exact (GV hN).bind fun v hv => .pure hv
theorem Ki (hN:N<=16) (kind:Int):KI (kW kind (KL N f)) (· = okK kind N f):=by
 unfold kW okK;refine .bif (fun h=>(D8 hN).bind fun v hv => .pure (by rw [hv,if_pos (eq_of_beq h)])) fun h=>?_;rw [if_neg (fun e=>by rw [e] at h;cases h)];refine .bif (fun h=>(D7 hN).bind fun v hv => .pure (by rw [hv,if_pos (eq_of_beq h)])) fun h=>?_;rw [if_neg (fun e=>by rw [e] at h;cases h)];exact (GU hN).bind fun v hv => .pure hv
end
section
variable {p:List (List KE)} {x:KG} {N:Nat} {base:ByteArray->Int->Int->Bool}
def J2 (p:List (List KE)) (x:KG) (N:Nat) (base:ByteArray->Int->Int->Bool) (d:Nat) (t:TXimpl_RelExpr):Prop:=∀ m,d<m->KI (bQ m p x t.out) (· = KL N (uE base N t))
mutual
theorem F3 (hN:N<=16) (hb:∀ nm∈vJ,KI (db p x nm) (· = KL N (base nm))):∀ t:TXimpl_RelExpr,VT t->∃ d,J2 p x N base d t
 | .mk op nm ks,h=>by
  rw [VT] at h;rcases h with ⟨h1,h2⟩ | ⟨h1,h2,h3⟩ | ⟨h1,h2,h3⟩
  ·refine ⟨0,fun m hm=>?_⟩;obtain ⟨m,rfl⟩:∃ q,m=q+1:=⟨m-1,by omega⟩;show KI (bP (bQ m) p x ⟨op,nm,ks⟩) _;unfold bP;simp only [];subst h1;refine .bif (fun _=>(hb nm h2).bind fun v hv => .pure ?_) fun h=>absurd h (by decide);rw [hv,uE,AA,if_pos rfl]
  ·obtain ⟨d,hd⟩:=Ea hN hb ks h3;obtain ⟨a,rfl⟩:=FY h2;refine ⟨d+1,fun m hm=>?_⟩;obtain ⟨m,rfl⟩:∃ q,m=q+1:=⟨m-1,by omega⟩;have ha:=hd a (by simp) m (by omega);show KI (bP (bQ m) p x ⟨op,nm,[a]⟩) _;unfold bP;simp only [];refine .bif (fun h=>absurd (eq_of_beq h) (by omega)) fun _ => .gdD ⟨by decide,by simp⟩ (ha.bind fun v hv=>?_);subst hv;rcases h1 with rfl | rfl
   ·refine .bif (fun _=>(D5 hN).bind fun v hv => .pure ?_) fun h=>absurd h (by decide);rw [hv,uE,qq,qq,AA,if_neg (by decide),if_pos rfl]
    rfl
   refine .bif (fun h=>absurd h (by decide)) fun _ => .bif (fun _=>(zM hN).bind fun v hv => .pure ?_) fun h=>absurd h (by decide);rw [hv,uE,qq,qq,AA,if_neg (by decide),if_neg (by decide),if_pos rfl]
   rfl
  obtain ⟨d,hd⟩:=Ea hN hb ks h3;obtain ⟨a,b,rfl⟩:=FZ h2;refine ⟨d+1,fun m hm=>?_⟩;obtain ⟨m,rfl⟩:∃ q,m=q+1:=⟨m-1,by omega⟩;have ha:=hd a (by simp) m (by omega);have hbb:=hd b (by simp) m (by omega);show KI (bP (bQ m) p x ⟨op,nm,[a,b]⟩) _;unfold bP;simp only [];refine .bif (fun h=>absurd (eq_of_beq h) (by omega)) fun _ => .gdD ⟨by decide,by simp⟩ (ha.bind fun v hv=>?_);subst hv;refine .bif (fun h=>absurd (eq_of_beq h) (by omega)) fun _ => .bif (fun h=>absurd (eq_of_beq h) (by omega)) fun _ => .gdD ⟨by decide,by simp⟩ (hbb.bind fun w hw=>?_);subst hw;rcases h1 with rfl | rfl | rfl | rfl
  ·refine .bif (fun _=>(GQ hN).bind fun v hv => .pure ?_) fun h=>absurd h (by decide);rw [hv,uE,qq,qq,qq,AA,if_neg (by decide),if_neg (by decide),if_neg (by decide),if_pos rfl]
   rfl
  ·refine .bif (fun h=>absurd h (by decide)) fun _ => .bif (fun _=>(IK hN).bind fun v hv => .pure ?_) fun h=>absurd h (by decide);rw [hv,uE,qq,qq,qq,AA,if_neg (by decide),if_neg (by decide),if_neg (by decide),if_neg (by decide),if_pos rfl]
   rfl
  ·refine .bif (fun h=>absurd h (by decide)) fun _ => .bif (fun h=>absurd h (by decide)) fun _ => .bif (fun _=>(GR hN).bind fun v hv => .pure ?_) fun h=>absurd h (by decide);rw [hv,uE,qq,qq,qq,AA,if_neg (by decide),if_neg (by decide),if_neg (by decide),if_neg (by decide),if_neg (by decide),if_pos rfl]
   rfl
  refine .bif (fun h=>absurd h (by decide)) fun _ => .bif (fun h=>absurd h (by decide)) fun _ => .bif (fun h=>absurd h (by decide)) fun _=>(DZ hN).bind fun v hv => .pure ?_;rw [hv,uE,qq,qq,qq,AA,if_neg (by decide),if_neg (by decide),if_neg (by decide),if_neg (by decide),if_neg (by decide),if_neg (by decide)]
  rfl
theorem Ea (hN:N<=16) (hb:∀ nm∈vJ,KI (db p x nm) (· = KL N (base nm))):∀ l:List TXimpl_RelExpr,VL l->∃ d,∀ t∈l,J2 p x N base d t
 | [],_=>⟨0,fun t h=>by cases h⟩
 | t::l,h=>by
  rw [VL] at h;obtain ⟨d1,h1⟩:=F3 hN hb t h.1;obtain ⟨d2,h2⟩:=Ea hN hb l h.2;refine ⟨max d1 d2,fun u hu=>?_⟩;rcases Pe.1 hu with rfl | hu
  ·exact fun m hm=>h1 m (by omega)
  exact fun m hm=>h2 u hu m (by omega)
end
theorem F4 (hN:N<=16) (hb:∀ nm∈vJ,KI (db p x nm) (· = KL N (base nm))) {t:TXimpl_RelExpr} (h:VT t):KI (l9 p x t.out) (· = KL N (uE base N t)):=by
 obtain ⟨d,hd⟩:=F3 hN hb t h;exact mh d hd
def okM (base:ByteArray->Int->Int->Bool) (N:Nat) (r:ae):Bool:=okK r.Kind N (uE base N r.Expr.inn)
def AB (base:ByteArray->Int->Int->Bool) (N:Nat) (m:List ae) (k:Int):Prop:=
 (k = -1/\∀ r∈m,okM base N r=true)\/∃ i:Nat,k=(i:Int)/\i<m.length/\okM base N (m.getD i default)=false/\∀ j:Nat,j<i->okM base N (m.getD j default)=true
theorem AB.uniq {m:List ae} {k l:Int} (h:AB base N m k) (h':AB base N m l):k=l:=by
 rcases h with ⟨h1,h2⟩ | ⟨i,h1,h2,h3,h4⟩ <;> rcases h' with ⟨g1,g2⟩ | ⟨j,g1,g2,g3,g4⟩
 ·omega
 ·rw [h2 _ (getD_in g2)] at g3;cases g3
 ·rw [g2 _ (getD_in h2)] at h3;cases h3
 have : i=j:=by
  rcases Nat.lt_trichotomy i j with h | h | h
  ·rw [g4 i h] at h3;cases h3
  ·exact h
  rw [h4 j h] at g3;cases g3
 omega
theorem JD (hN:N<=16) (hb:∀ nm∈vJ,KI (eF p x nm) (· = KL N (base nm))) {m:List ae} (hm:∀ r∈m,VT r.Expr.inn) (hl:m.length<=1000):KI (gT p x m) fun v=>AB base N m v.1/\(0<=v.1->v.2=KL N (uE base N (m.getD v.1.toNat default).Expr.inn)):=by
 unfold gT;refine KI.sum (PS:=fun _=>∀ r∈m,okM base N r=true) (PW:=fun v:Int×LI=>AB base N m v.1/\(0<=v.1->v.2=KL N (uE base N (m.getD v.1.toNat default).Expr.inn))) ?_ fun _ h => .pure ⟨.inl ⟨rfl,h⟩,fun h=>absurd h (by decide)⟩;refine KI.loop (fun z=>∃ i:Nat,i<=m.length/\z=(i:Int)/\∀ j:Nat,j<i->okM base N (m.getD j default)=true) (fun z=>((m.length:Int)-z).toNat) ⟨0,by omega,rfl,fun j hj=>absurd hj (by omega)⟩ fun z ⟨i,h1,h2,h3⟩ => ?_;subst h2;unfold lY;simp only [tnn];refine .bifD (fun hk=>?_) fun hk => .pure fun r hr=>?_
 ·refine .gdD ⟨by omega,hk⟩ ((IE hN hb (t:=(m.getD i default).Expr.inn) (hm _ (getD_in (by omega)))).bind fun v hv=>?_);subst hv;refine (Kh hN _).bind fun w hw => .bif (fun hf => .pure ⟨.inr ⟨i,rfl,by omega,?_,h3⟩,fun _=>by simp only [];rw [tnn]⟩) fun h => .gdI (by omega) (.pure ⟨⟨i+1,by omega,rfl,fun j hj=>?_⟩,by omega⟩)
  ·show okK _ _ _=false;rw [<- hw];simpa using hf
  by_cases e:j=i
  ·subst e;show okK _ _ _=true;rw [<- hw];simpa using h
  exact h3 j (by omega)
 obtain ⟨j,hj,rfl⟩:=OU hr;have := h3 j (by omega);rw [gdq,geq hj] at this;exact this
theorem JE (hN:N<=16) (hb:∀ nm∈vJ,KI (db p x nm) (· = KL N (base nm))) {m:List ae} (hm:∀ r∈m,VT r.Expr.inn) (hl:m.length<=1000):KI (jo p x m) (AB base N m):=by
 unfold jo;refine KI.sum (PS:=fun _=>∀ r∈m,okM base N r=true) (PW:=AB base N m) ?_ fun _ h => .pure (.inl ⟨rfl,h⟩);refine KI.loop (fun z=>∃ i:Nat,i<=m.length/\z=(i:Int)/\∀ j:Nat,j<i->okM base N (m.getD j default)=true) (fun z=>((m.length:Int)-z).toNat) ⟨0,by omega,rfl,fun j hj=>absurd hj (by omega)⟩ fun z ⟨i,h1,h2,h3⟩ => ?_;subst h2;unfold m7;simp only [tnn];refine .bifD (fun hk=>?_) fun hk => .pure fun r hr=>?_
 ·refine .gdD ⟨by omega,hk⟩ ((F4 hN hb (t:=(m.getD i default).Expr.inn) (hm _ (getD_in (by omega)))).bind fun v hv=>?_);subst hv;refine (Ki hN _).bind fun w hw => .bif (fun hf => .pure (.inr ⟨i,rfl,by omega,?_,h3⟩)) fun h => .gdI (by omega) (.pure ⟨⟨i+1,by omega,rfl,fun j hj=>?_⟩,by omega⟩)
  ·show okK _ _ _=false;rw [<- hw];simpa using hf
  by_cases e:j=i
  ·subst e;show okK _ _ _=true;rw [<- hw];simpa using h
  exact h3 j (by omega)
 obtain ⟨j,hj,rfl⟩:=OU hr;have := h3 j (by omega);rw [gdq,geq hj] at this;exact this
end
section
variable {N:Nat} {f:Int->Int->Bool}
def qO (f:Int->Int->Bool) (at_:Int) (sn:Nat->Bool) (M:Nat):LI:=((OY M).filter fun (k:Nat)=>f at_ (k:Int) && !sn k).map fun (k:Nat)=>(k:Int)
def snK (f:Int->Int->Bool) (at_:Int) (sn:Nat->Bool) (M:Nat):Nat->Bool:=fun k=>sn k||(decide (k<M)&&f at_ (k:Int))
def nK (l:LI):Int:=l.getD (l.length-1) default
def bfs (N:Nat) (f:Int->Int->Bool) (start:Int):Nat->LL->(Nat->Bool)->LI
 | 0,_,_=>[]
 | _+1,[],_=>[]
 | n+1,a::q,sn=>if f (nK a) start=true then a else bfs N f start n (q++(qO f (nK a) sn N).map fun k=>a++[k]) (snK f (nK a) sn N)
theorem pR (at_:Int) (sn:Nat->Bool) (M:Nat):qO f at_ sn (M+1)=qO f at_ sn M++if (f at_ (M:Int) && !sn M)=true then [(M:Int)] else []:=by
 unfold qO;rw [Pf,List.filter_append,Pg]
 congr 1
 rw [List.filter_cons]
 split <;> rfl
def uns (N:Nat) (sn:Nat->Bool):Nat:=(OY N).countP fun k => !sn k
theorem yL (at_:Int) (sn:Nat->Bool):∀ M:Nat,uns M (snK f at_ sn M)+(qO f at_ sn M).length=uns M sn
 | 0=>rfl
 | M+1=>by
  have ih:=yL at_ sn M;have e1:uns (M+1) (snK f at_ sn (M+1))=uns M (snK f at_ sn M)+if (!(sn M||f at_ (M:Int)))=true then 1 else 0:=by
   unfold uns;rw [Pf,List.countP_append]
   congr 1
   ·refine List.countP_congr fun k hk=>?_;have hk:=O3.1 hk;unfold snK;rw [decide_eq_true (show k<M+1 by omega),decide_eq_true hk]
   rw [Pq];unfold snK;rw [decide_eq_true (OZ M),OO]
  have e2:uns (M+1) sn=uns M sn+if (!sn M)=true then 1 else 0:=by
   unfold uns;rw [Pf,List.countP_append,Pq]
  rw [e1,e2,pR,lla]
  cases hs:sn M <;> cases hf:f at_ (M:Int) <;> simp <;> omega
def qy (N:Nat) (u:Nat) (a:LI):Prop:=0<a.length/\a.length+u<=N+1/\∀ j∈a,0<=j/\j<(N:Int)
theorem qy.lst {u:Nat} {a:LI} (h:qy N u a):∃ k:Nat,k<N/\nK a=(k:Int):=by
 have hm:nK a∈a:=pO (by have := h.1;omega);obtain ⟨h0,h1⟩:=h.2.2 _ hm;exact ⟨(nK a).toNat,by omega,by omega⟩
theorem qy.ext {u v:Nat} {a:LI} (h:qy N u a) (hv:v+1<=u) {k:Nat} (hk:k<N):qy N v (a++[(k:Int)]):=by
 refine ⟨by simp,by rw [lla,List.length_singleton];have := h.2.1;omega,fun j hj=>?_⟩;rcases List.mem_append.1 hj with hj | hj
 ·exact h.2.2 j hj
 rw [OT.1 hj];omega
theorem Fq {at_:Int} {sn:Nat->Bool} {M:Nat} {k:Int} (h:k∈qO f at_ sn M):∃ j:Nat,j<M/\k=(j:Int):=by
 unfold qO at h;obtain ⟨j,hj,rfl⟩:=List.mem_map.1 h;exact ⟨j,O3.1 (List.mem_filter.1 hj).1,rfl⟩
theorem yM {a:LI} {q:LL} {sn:Nat->Bool} (h:∀ b∈a::q,qy N (uns N sn) b):∀ b∈q++(qO f (nK a) sn N).map (fun k=>a++[k]),qy N (uns N (snK f (nK a) sn N)) b:=by
 have hu:=yL (f:=f) (nK a) sn N;intro b hb;rcases List.mem_append.1 hb with hb | hb
 ·have := h b (List.mem_cons_of_mem _ hb);exact ⟨this.1,by have := this.2.1;omega,this.2.2⟩
 obtain ⟨k,hk,rfl⟩:=List.mem_map.1 hb;obtain ⟨j,hj,rfl⟩:=Fq hk;have : 0<(qO f (nK a) sn N).length:=List.length_pos_of_mem hk;exact (h a OP).ext (by omega) hj
theorem F5 {start:Int}:∀ (n:Nat) (q:LL) (sn:Nat->Bool),(∀ b∈q,qy N (uns N sn) b)->bfs N f start n q sn=[]\/qy N 0 (bfs N f start n q sn)
 | 0,_,_,_ => .inl rfl
 | _+1,[],_,_ => .inl rfl
 | n+1,a::q,sn,h=>by
  rw [bfs]
  split
  ·have := h a OP;exact .inr ⟨this.1,by have := this.2.1;omega,this.2.2⟩
  exact F5 n _ _ (yM h)
theorem Bt {sn:Nat->Bool} (hN:N<=16) {k:Nat} (hk:k<N):(cN .i64 (gz .i64 ((KJ sn N:Nat):Int) (k:Int)) (1:Int)==(0:Int)) = !sn k:=by
 rw [FV (aT (by omega)) (by omega),gY,decide_eq_true hk,OO]
 cases sn k <;> rfl
theorem Bu {sn:Nat->Bool} (hN:N<=16) {k:Nat} (hk:k<N):KA .i64 ((KJ sn N:Nat):Int) (yx .i64 (1:Int) (k:Int))=((KJ (fun j=>sn j||decide (j=k)) N:Nat):Int):=by
 have h2:2 ^ k<9223372036854775808:=by have := O9 (a:=2) (by omega) (show k<63 by omega);omega
 rw [vM (by omega),nJ (aT (by omega)) h2];refine congrArg (fun n:Nat=>(n:Int)) (Nat.eq_of_testBit_eq fun j=>?_);rw [Nat.testBit_or,gY,gY,Nat.testBit_two_pow]
 by_cases e:j=k
 ·subst e;simp [hk]
 rw [decide_eq_false (Ne.symm e),decide_eq_false e];simp
theorem Bv (a:LI) (h:0<a.length):a.getD ((a.length:Int)-1).toNat default=nK a:=by
 unfold nK
 congr 1
 omega
theorem GX (hN:N<=16) {a:LI} {q:LL} {sn:Nat->Bool} (h:∀ b∈a::q,qy N (uns N sn) b) (hq:q.length<=1000) (z0:Int) :
  KI (loopO (dV (KL N f) (a::q,z0)) (a::q,(0:Int),((KJ sn N:Nat):Int))) (· = .inl (a::(q++(qO f (nK a) sn N).map fun k=>a++[k]),((KJ (snK f (nK a) sn N) N:Nat):Int))):=by
 obtain ⟨t,ht,hlt⟩:=(h a OP).lst;have ha0:=(h a OP).1;have ha1:=(h a OP).2.1;have hnl:∀ M,(qO f (nK a) sn M).length<=M:=fun M=>by
  unfold qO;rw [llm];exact Ph (Ps _ _) (by simp)
 refine KI.loop (fun z=>∃ k:Nat,k<=N/\z=(a::(q++(qO f (nK a) sn k).map fun k=>a++[k]),(k:Int),((KJ (snK f (nK a) sn k) N:Nat):Int))) (fun z=>((N:Int)-z.2.1).toNat) ⟨0,by omega,?_⟩ fun z ⟨k,k1,k2⟩ => ?_
 ·refine Prod.ext (by simp [qO]) (Prod.ext rfl (congrArg (fun n:Nat=>(n:Int)) (bR fun j _=>?_)));unfold snK;simp
 subst k2;unfold dV;have e0:(a::q).getD ((0:Int).toNat) default=a:=rfl;simp only [aO,e0,Bv a ha0];refine .bifD (fun hk=>?_) fun hk => .pure (by rw [show k=N by omega]);have hkN:k<N:=by omega
 refine KI.bind (P:=fun v=>v.1=a::(q++(qO f (nK a) sn (k+1)).map fun k=>a++[k])/\v.2=((KJ (snK f (nK a) sn (k+1)) N:Nat):Int)) ?_ fun v ⟨v1,v2⟩ => .gdI (by omega) (.pure ⟨⟨k+1,by omega,by rw [v1,v2];rfl⟩,by simp only [];omega⟩);rw [hlt];refine (iX (by omega) ht hkN).bind fun v hv=>KI.bind (P:=(· = (f (t:Int) (k:Int) && !sn k))) (.bif (fun hb => .gdD (by omega) (.pure ?_)) fun hb => .pure ?_) fun w hw => .bif (fun hb=>?_) fun hb => .pure ?_
 ·have e1:snK f (t:Int) sn k k=sn k:=by unfold snK;rw [decide_eq_false (O6 k)];simp
  rw [Bt hN hkN,e1,<- hv,hb,OO]
 ·rw [<- hv,hb];rfl
 ·refine .gdD (by omega) ((tQ (by omega)).bind fun v29 h29=>?_);subst h29;refine .gd (dx (by omega) rfl) (.gd (dx (by rw [llc,lla,llm];have := hnl k;rw [hlt] at this;omega) rfl) (.pure ⟨?_,?_⟩))
  ·simp only [];rw [pR,if_pos (by rw [<- hw];exact hb),Pg];simp
  simp only [];rw [Bu hN hkN];refine congrArg (fun n:Nat=>(n:Int)) (bR fun j hj=>?_);have hf:f (t:Int) (k:Int)=true:=by
   rw [hw,bae] at hb;exact hb.1
  unfold snK
  by_cases e:j=k
  ·subst e;rw [decide_eq_true (OZ j),hf];simp
  by_cases e2:j<k
  ·rw [decide_eq_true e2,decide_eq_true (show j<k+1 by omega),decide_eq_false e];simp
  rw [decide_eq_false e2,decide_eq_false (show ¬ j<k+1 by omega),decide_eq_false e];simp
 refine ⟨?_,?_⟩
 ·simp only [];rw [pR,if_neg (by rw [<- hw,hb];decide),List.append_nil]
 simp only [];refine congrArg (fun n:Nat=>(n:Int)) (bR fun j hj=>?_);rw [hb] at hw;unfold snK
 by_cases e:j=k
 ·subst e;rw [decide_eq_true (OZ j),decide_eq_false (O6 j)]
  cases hs:sn j
  ·rw [hs] at hw;simp at hw;rw [hw]
   rfl
  rfl
 by_cases e2:j<k
 ·rw [decide_eq_true e2,decide_eq_true (show j<k+1 by omega)]
 rw [decide_eq_false e2,decide_eq_false (show ¬ j<k+1 by omega)]
theorem GY (hN:N<=16) {a:LI} {q:LL} {sn:Nat->Bool} (h:∀ b∈a::q,qy N (uns N sn) b) (hq:q.length<=1000) (z0:Int) (d:LL) (hd:d.length<=1000) :
  KI (loopO (gK (KL N f) (d++a::q,(d.length:Int),z0)) (d++a::q,(0:Int),((KJ sn N:Nat):Int))) (· = .inl (d++a::(q++(qO f (nK a) sn N).map fun k=>a++[k]),((KJ (snK f (nK a) sn N) N:Nat):Int))):=by
 obtain ⟨t,ht,hlt⟩:=(h a OP).lst;have ha0:=(h a OP).1;have ha1:=(h a OP).2.1;have hnl:∀ M,(qO f (nK a) sn M).length<=M:=fun M=>by
  unfold qO;rw [llm];exact Ph (Ps _ _) (by simp)
 refine KI.loop (fun z=>∃ k:Nat,k<=N/\z=(d++a::(q++(qO f (nK a) sn k).map fun k=>a++[k]),(k:Int),((KJ (snK f (nK a) sn k) N:Nat):Int))) (fun z=>((N:Int)-z.2.1).toNat) ⟨0,by omega,?_⟩ fun z ⟨k,k1,k2⟩ => ?_
 ·refine Prod.ext (by simp [qO]) (Prod.ext rfl (congrArg (fun n:Nat=>(n:Int)) (bR fun j _=>?_)));unfold snK;simp
 subst k2;unfold gK;have e0:∀ l:LL,(d++a::l).getD d.length default=a:=fun l=>by rw [gdq,gar (Nat.le_refl _),Pi];rfl
 simp only [aO,tnn,e0,Bv a ha0,List.nil_append];refine .bifD (fun hk=>?_) fun hk => .pure (by rw [show k=N by omega]);have hkN:k<N:=by omega
 refine KI.bind (P:=fun v=>v.1=d++a::(q++(qO f (nK a) sn (k+1)).map fun k=>a++[k])/\v.2=((KJ (snK f (nK a) sn (k+1)) N:Nat):Int)) ?_ fun v ⟨v1,v2⟩ => .gdI (by omega) (.pure ⟨⟨k+1,by omega,by rw [v1,v2];rfl⟩,by simp only [];omega⟩);rw [hlt];refine (Cb (by omega) ht hkN).bind fun v hv=>KI.bind (P:=(· = (f (t:Int) (k:Int) && !sn k))) (.bif (fun hb => .gdD (by omega) (.pure ?_)) fun hb => .pure ?_) fun w hw => .bif (fun hb=>?_) fun hb => .pure ?_
 ·have e1:snK f (t:Int) sn k k=sn k:=by unfold snK;rw [decide_eq_false (O6 k)];simp
  rw [Bt hN hkN,e1,<- hv,hb,OO]
 ·rw [<- hv,hb];rfl
 ·refine .gdD (by omega) (.gdD ⟨by omega,by simp;omega⟩ (.gd (dx (by simp;omega) rfl) (.gd (dx (by omega) rfl) (.gd (dx (by rw [lla,llc,lla,llm];have := hnl k;rw [hlt] at this;omega) rfl) (.pure ⟨?_,?_⟩)))))
  ·simp only [];rw [pR,if_pos (by rw [<- hw];exact hb),Pg];simp
  simp only [];rw [Bu hN hkN];refine congrArg (fun n:Nat=>(n:Int)) (bR fun j hj=>?_);have hf:f (t:Int) (k:Int)=true:=by
   rw [hw,bae] at hb;exact hb.1
  unfold snK
  by_cases e:j=k
  ·subst e;rw [decide_eq_true (OZ j),hf];simp
  by_cases e2:j<k
  ·rw [decide_eq_true e2,decide_eq_true (show j<k+1 by omega),decide_eq_false e];simp
  rw [decide_eq_false e2,decide_eq_false (show ¬ j<k+1 by omega),decide_eq_false e];simp
 refine ⟨?_,?_⟩
 ·simp only [];rw [pR,if_neg (by rw [<- hw,hb];decide),List.append_nil]
 simp only [];refine congrArg (fun n:Nat=>(n:Int)) (bR fun j hj=>?_);rw [hb] at hw;unfold snK
 by_cases e:j=k
 ·subst e;rw [decide_eq_true (OZ j),decide_eq_false (O6 j)]
  cases hs:sn j
  ·rw [hs] at hw;simp at hw;rw [hw]
   rfl
  rfl
 by_cases e2:j<k
 ·rw [decide_eq_true e2,decide_eq_true (show j<k+1 by omega)]
 rw [decide_eq_false e2,decide_eq_false (show ¬ j<k+1 by omega)]
end
section
variable {N:Nat} {f:Int->Int->Bool}
def unM (N:Nat) (m:Int):Nat:=(OY N).countP fun k => !m.toNat.testBit k
theorem Eb (sn:Nat->Bool):unM N ((KJ sn N:Nat):Int)=uns N sn:=by
 unfold unM uns;refine List.countP_congr fun k hk=>?_;rw [tnn,gY,decide_eq_true (O3.1 hk),OO]
theorem Ec (sn:Nat->Bool):uns N sn<=N:=by
 unfold uns;exact Ph List.countP_le_length (by simp)
def zO (N:Nat) (f:Int->Int->Bool) (st:Int):LI:=bfs N f st (N+2) [[st]] fun _=>false
theorem yN {st:Nat} (hs:st<N):∀ b∈[[(st:Int)]],qy N (uns N fun _=>false) b:=fun b hb=>by
 rw [OT.1 hb];have := Ec (N:=N) fun _=>false;exact ⟨by simp,by simp;omega,fun j hj=>by rw [OT.1 hj];omega⟩
theorem Ed {st:Nat} (hs:st<N):zO N f st=[]\/qy N 0 (zO N f st):=F5 _ _ _ (yN hs)
theorem Bw:(0:Int)=((KJ (fun _=>false) N:Nat):Int):=by rw [vP];rfl
theorem GZ (hN:N<=16) {st:Nat} (hs:st<N):KI (iG (KL N f) (st:Int)) (· = zO N f st):=by
 unfold iG;refine KI.sum (PS:=fun _=>zO N f st=[]) (PW:=(· = zO N f st)) ?_ fun _ h => .pure h.symm;refine KI.loop (fun z=>∃ (q:LL) (sn:Nat->Bool) (n:Nat),z=(q,((KJ sn N:Nat):Int))/\(∀ b∈q,qy N (uns N sn) b)/\q.length+uns N sn<=n/\n<=N+2/\bfs N f st n q sn=zO N f st) (fun z=>z.1.length+unM N z.2)
  ⟨[[(st:Int)]],fun _=>false,N+2,by rw [<- Bw],yN hs,by have := Ec (N:=N) fun _=>false;simp;omega,Nat.le_refl _,rfl⟩ fun z ⟨q,sn,n,e,hok,hn,hn2,hb⟩ => ?_
 subst e;unfold iV;simp only []
 cases q with
 | nil=>
  refine .bifD (fun h=>absurd h (by simp)) fun _ => .pure ?_;show zO N f st=[];rw [<- hb]
  cases n <;> rfl
 | cons a q=>
  obtain ⟨n,rfl⟩:∃ m,n=m+1:=⟨n-1,by simp at hn;omega⟩;obtain ⟨t,ht,hlt⟩:=(hok a OP).lst;have ha0:=(hok a OP).1;have ha1:=(hok a OP).2.1;simp only [llc] at hn;have e0:(a::q).getD ((0:Int).toNat) default=a:=rfl;simp only [e0,Bv a ha0];rw [bfs] at hb;refine .bifD (fun _=>?_) fun h=>absurd (show (0:Int)<((a::q).length:Int) by rw [llc];omega) h;refine KI.sum (PS:=fun s=>s=(a::(q++(qO f (nK a) sn N).map fun k=>a++[k]),((KJ (snK f (nK a) sn N) N:Nat):Int))/\bfs N f st n (q++(qO f (nK a) sn N).map fun k=>a++[k]) (snK f (nK a) sn N)=zO N f st) ?_ fun s ⟨s1,s2⟩ => ?_
  ·refine .gdD ⟨by omega,by rw [llc];omega⟩ (.gdI (by omega) (.gdD ⟨by omega,by omega⟩ ?_));have hrel:=iX (f:=f) (by omega) ht hs;rw [<- hlt] at hrel;refine hrel.bind fun v hv => .bif (fun h => .gdD (by omega) (.pure ?_)) fun h=>?_
   ·rw [if_pos (by rw [<- hv];exact h)] at hb;exact hb
   rw [if_neg (by rw [<- hv,h];decide)] at hb;exact (GX hN hok (by omega) _).mono fun v hv=>by subst hv;exact ⟨rfl,hb⟩
  subst s1;have hu:=yL (f:=f) (nK a) sn N;have hl:(q++(qO f (nK a) sn N).map fun k=>a++[k]).length=q.length+(qO f (nK a) sn N).length:=by simp
  have hcut:(((a::(q++(qO f (nK a) sn N).map fun k=>a++[k])).drop (1:Int).toNat).take (((a::(q++(qO f (nK a) sn N).map fun k=>a++[k])).length:Int).toNat-(1:Int).toNat))=q++(qO f (nK a) sn N).map fun k=>a++[k]:=by
   show List.take _ (q++_)=_;rw [Pj];rw [llc,hl];omega
  simp only [hcut];refine .gdD ⟨by omega,by rw [llc];omega,by omega⟩ (.pure ⟨⟨_,_,n,rfl,yM hok,by rw [hl];omega,by omega,s2⟩,?_⟩);simp only [Eb,hl,llc];omega
theorem G3 (hN:N<=16) {st:Nat} (hs:st<N):KI (ma (KL N f) (st:Int)) (· = zO N f st):=by
 unfold ma;refine KI.sum (PS:=fun _=>zO N f st=[]) (PW:=(· = zO N f st)) ?_ fun _ h => .pure h.symm;refine KI.loop (fun z=>∃ (d q:LL) (sn:Nat->Bool) (n:Nat),z=(d++q,(d.length:Int),((KJ sn N:Nat):Int))/\d.length+n<=N+2/\(∀ b∈q,qy N (uns N sn) b)/\q.length+uns N sn<=n/\bfs N f st n q sn=zO N f st) (fun z=>(z.1.length-z.2.1.toNat)+unM N z.2.2)
  ⟨[],[[(st:Int)]],fun _=>false,N+2,by rw [<- Bw];rfl,by simp,yN hs,by have := Ec (N:=N) fun _=>false;simp;omega,rfl⟩ fun z ⟨d,q,sn,n,e,hd,hok,hn,hb⟩ => ?_
 subst e;unfold lG;simp only [tnn]
 cases q with
 | nil=>
  refine .bifD (fun h=>absurd h (by simp)) fun _ => .pure ?_;show zO N f st=[];rw [<- hb]
  cases n <;> rfl
 | cons a q=>
  obtain ⟨n,rfl⟩:∃ m,n=m+1:=⟨n-1,by simp at hn;omega⟩;obtain ⟨t,ht,hlt⟩:=(hok a OP).lst;have ha0:=(hok a OP).1;have ha1:=(hok a OP).2.1;simp only [llc] at hn;have e0:∀ l:LL,(d++a::l).getD d.length default=a:=fun l=>by rw [gdq,gar (Nat.le_refl _),Pi];rfl
  simp only [e0,Bv a ha0];rw [bfs] at hb;refine .bifD (fun _=>?_) fun h=>absurd (show (d.length:Int)<((d++a::q).length:Int) by rw [lla,llc];omega) h;refine KI.sum (PS:=fun s=>s=(d++a::(q++(qO f (nK a) sn N).map fun k=>a++[k]),((KJ (snK f (nK a) sn N) N:Nat):Int))/\bfs N f st n (q++(qO f (nK a) sn N).map fun k=>a++[k]) (snK f (nK a) sn N)=zO N f st) ?_ fun s ⟨s1,s2⟩ => ?_
  ·refine .gdD ⟨by omega,by rw [lla,llc];omega⟩ (.gdI (by omega) (.gdD ⟨by omega,by omega⟩ ?_));have hrel:=Cb (f:=f) (by omega) ht hs;rw [<- hlt] at hrel;refine hrel.bind fun v hv => .bif (fun h => .pure ?_) fun h=>?_
   ·rw [if_pos (by rw [<- hv];exact h)] at hb;exact hb
   rw [if_neg (by rw [<- hv,h];decide)] at hb;exact (GY hN hok (by omega) _ d (by omega)).mono fun v hv=>by subst hv;exact ⟨rfl,hb⟩
  subst s1;have hu:=yL (f:=f) (nK a) sn N;have hl:(q++(qO f (nK a) sn N).map fun k=>a++[k]).length=q.length+(qO f (nK a) sn N).length:=by simp
  refine .gdI (by omega) (.pure ⟨⟨d++[a],_,_,n,?_,by simp;omega,yM hok,by rw [hl];omega,s2⟩,?_⟩)
  ·simp
  simp only [Eb,lla,llc,llm];omega
def bst (b v:LI):LI:=if v=[] then b else if b=[] then v else if v.length<b.length then v else b
def zP (N:Nat) (f:Int->Int->Bool):Nat->LI
 | 0=>[]
 | n+1=>bst (zP N f n) (zO N f n)
theorem AC:∀ n:Nat,n<=N->zP N f n=[]\/qy N 0 (zP N f n)
 | 0,_ => .inl rfl
 | n+1,h=>by
  rw [zP,bst]
  split
  ·exact AC n (by omega)
  split
  ·exact Ed (by omega)
  split
  ·exact Ed (by omega)
  exact AC n (by omega)
theorem IM (hN:N<=16):KI (iH (KL N f)) (· = zP N f N):=by
 unfold iH;refine (kK hN).bind fun v hv=>?_;subst hv;refine .bif (fun h=>by cases h) fun _=>KI.bind (P:=(· = zP N f N)) ?_ fun v hv => .pure hv;refine KI.loop (fun z=>∃ n:Nat,n<=N/\z=((n:Int),zP N f n)) (fun z=>((N:Int)-z.1).toNat) ⟨0,by omega,rfl⟩ fun z ⟨n,n1,n2⟩ => ?_;subst n2;unfold mM;simp only [aO];refine .bifD (fun hk=>KI.bind (P:=(· = zP N f (n+1))) ?_ fun v hv => .gdI (by omega) (.pure ⟨⟨n+1,by omega,by rw [hv];rfl⟩,by simp only [];omega⟩)) fun hk => .pure (by rw [show n=N by omega]);refine (GZ hN (show n<N by omega)).bind fun v hv=>?_;subst hv;rw [zP,bst];generalize zO N f (n:Int)=v;generalize zP N f n=b
 cases v with
 | nil=>exact KI.bind (P:=(· = false)) (.bif (fun h=>by cases h) fun _ => .pure rfl) fun w hw => .bif (fun h=>by rw [hw] at h;cases h) fun _ => .pure (by rw [if_pos rfl])
 | cons c v=>
  rw [if_neg (by simp)]
  cases b with
  | nil=>exact KI.bind (P:=(· = true)) (.bif (fun _=>KI.bind (P:=(· = true)) (.bif (fun _ => .pure rfl) fun h=>by cases h) fun w hw => .pure hw) fun h=>by cases h) fun w hw => .bif (fun _ => .pure (by rw [if_pos rfl])) fun h=>by rw [hw] at h;cases h
  | cons d b=>
   rw [if_neg (by simp)];refine KI.bind (P:=(· = decide ((c::v).length<(d::b).length))) (.bif (fun _=>KI.bind (P:=(· = decide ((c::v).length<(d::b).length))) (.bif (fun h=>by cases h) fun _ => .pure (decide_eq_decide.2 (by omega))) fun w hw => .pure hw) fun h=>by cases h) fun w hw => .bif (fun h => .pure ?_) fun h => .pure ?_
   ·rw [if_pos (of_decide_eq_true (by rw [<- hw];exact h))]
   rw [if_neg (of_decide_eq_false (by rw [<- hw];exact h))]
theorem IP (hN:N<=16):KI (kX (KL N f)) (· = zP N f N):=by
 unfold kX;refine KI.bind (P:=(· = zP N f N)) ?_ fun v hv => .pure hv;refine KI.loop (fun z=>∃ n:Nat,n<=N/\z=((n:Int),zP N f n)) (fun z=>((N:Int)-z.1).toNat) ⟨0,by omega,rfl⟩ fun z ⟨n,n1,n2⟩ => ?_;subst n2;unfold n8;simp only [aO];refine .bifD (fun hk=>KI.bind (P:=(· = zP N f (n+1))) ?_ fun v hv => .gdI (by omega) (.pure ⟨⟨n+1,by omega,by rw [hv];rfl⟩,by simp only [];omega⟩)) fun hk => .pure (by rw [show n=N by omega]);refine (G3 hN (show n<N by omega)).bind fun v hv=>?_;subst hv;rw [zP,bst];generalize zO N f (n:Int)=v;generalize zP N f n=b
 cases v with
 | nil=>exact KI.bind (P:=(· = false)) (.bifD (fun h=>absurd h (by simp)) fun _ => .pure rfl) fun w hw => .bif (fun h=>by rw [hw] at h;cases h) fun _ => .pure (by rw [if_pos rfl])
 | cons c v=>
  rw [if_neg (by simp)]
  cases b with
  | nil=>exact KI.bind (P:=(· = true)) (.bifD (fun _=>KI.bind (P:=(· = true)) (.bif (fun _ => .pure rfl) fun h=>by cases h) fun w hw => .pure hw) fun h=>absurd (show (0:Int)<((c::v).length:Int) by rw [llc];omega) h) fun w hw => .bif (fun _ => .pure (by rw [if_pos rfl])) fun h=>by rw [hw] at h;cases h
  | cons d b=>
   rw [if_neg (by simp)];refine KI.bind (P:=(· = decide ((c::v).length<(d::b).length))) (.bifD (fun _=>KI.bind (P:=(· = decide ((c::v).length<(d::b).length))) (.bif (fun h=>absurd (eq_of_beq h) (by simp;omega)) fun _ => .pure (decide_eq_decide.2 (by omega))) fun w hw => .pure hw) fun h=>absurd (show (0:Int)<((c::v).length:Int) by rw [llc];omega) h) fun w hw => .bif (fun h => .pure ?_) fun h => .pure ?_
   ·rw [if_pos (of_decide_eq_true (by rw [<- hw];exact h))]
   rw [if_neg (of_decide_eq_false (by rw [<- hw];exact h))]
end
section
variable {p:List (List KE)} {x:XS} {F:LI}
def lrC (p:List (List KE)) (t idx reg:Int) (e:KH):Bool:=decide (e.Thread=t)&&decide (e.Index<idx)&&e.Reads&&(((p.getD t.toNat default).getD e.Index.toNat default).Reg==reg)
def lrN (p:List (List KE)) (t idx reg:Int):Nat->Int
 | 0 => -1
 | n+1=>if lrC p t idx reg (ev p (n:Int))=true then (n:Int) else lrN p t idx reg n
def lrd (p:List (List KE)) (t idx reg:Int):Int:=lrN p t idx reg (evs p).length
theorem F6 {t idx reg:Int}:∀ (n:Nat),(lrN p t idx reg n = -1/\∀ i:Nat,i<n->lrC p t idx reg (ev p (i:Int))=false)\/∃ r:Nat,r<n/\lrN p t idx reg n=(r:Int)/\lrC p t idx reg (ev p (r:Int))=true/\∀ i:Nat,i<n->r<i->lrC p t idx reg (ev p (i:Int))=false
 | 0 => .inl ⟨rfl,fun i h=>absurd h (O0 _)⟩
 | n+1=>by
  by_cases h:lrC p t idx reg (ev p (n:Int))=true
  ·exact .inr ⟨n,by omega,if_pos h,h,fun i h1 h2=>by omega⟩
  have e:lrN p t idx reg (n+1)=lrN p t idx reg n:=if_neg h;have hf:lrC p t idx reg (ev p (n:Int))=false:=by simpa using h
  rcases F6 n with ⟨h1,h2⟩ | ⟨r,h1,h2,h3,h4⟩
  ·refine .inl ⟨e.trans h1,fun i hi=>?_⟩
   by_cases ei:i=n
   ·subst ei;exact hf
   exact h2 i (by omega)
  refine .inr ⟨r,by omega,e.trans h2,h3,fun i hi hr=>?_⟩
  by_cases ei:i=n
  ·subst ei;exact hf
  exact h4 i (by omega) hr
theorem Ee (t idx reg:Int):(lrd p t idx reg = -1/\∀ i:Nat,i<(evs p).length->lrC p t idx reg (ev p (i:Int))=false)\/∃ r:Nat,r<(evs p).length/\lrd p t idx reg=(r:Int)/\lrC p t idx reg (ev p (r:Int))=true/\∀ i:Nat,i<(evs p).length->r<i->lrC p t idx reg (ev p (i:Int))=false:=F6 _
theorem Ef {t idx reg:Int} {e:KH}:lrC p t idx reg e=true↔e.Thread=t/\e.Index<idx/\e.Reads=true/\((p.getD t.toNat default).getD e.Index.toNat default).Reg=reg:=by
 unfold lrC;simp only [bae,dte,beq_iff_eq];exact ⟨fun ⟨⟨⟨a,b⟩,c⟩,d⟩=>⟨a,b,c,d⟩,fun ⟨a,b,c,d⟩=>⟨⟨⟨a,b⟩,c⟩,d⟩⟩
theorem uF (hp:PV p) {n:Int} (h0:0<=n) (h:n<((evs p).length:Int)) (ht : ¬ (ev p n).Thread<0):∃ t k:Nat,Isn p t k/\n=(base p t k:Int)/\(ev p n).Thread=(t:Int)/\(ev p n).Index=(k:Int):=by
 rcases vK h0 h with hc | ⟨t,k,hI,rfl⟩
 ·exfalso;have := (wR (p:=p) (l:=n.toNat) (by omega)).1;rw [O1 h0] at this;rw [this] at ht;exact ht (by show (-1:Int)<0;decide)
 exact ⟨t,k,hI,rfl,by rw [hI.ev.1],by rw [hI.ev.1]⟩
def VB (p:List (List KE)) (x:XS) (vals:LI) (B:List Bool):aA:=⟨p,⟨x.1,x.2⟩,evs p,vals,B⟩
theorem Cc (hp:PV p) {vals:LI} {B:List Bool} {t:Nat} (ht:t<p.length) (idx reg:Int):KI (cH (VB p x vals B) (t:Int) idx reg) (· = (VB p x vals B,lrd p (t:Int) idx reg)):=by
 have hel:=kJ hp.vs;unfold cH;refine KI.bind (P:=(· = lrd p (t:Int) idx reg)) ?_ fun v hv => .pure (by rw [hv]);refine KI.loop (fun z=>∃ n:Nat,n<=(evs p).length/\z=((n:Int),lrN p (t:Int) idx reg n)) (fun z=>(((evs p).length:Int)-z.1).toNat) ⟨0,by omega,rfl⟩ fun z ⟨n,h1,h2⟩ => ?_;subst h2;unfold ij;have en:(evs p).getD n default=ev p (n:Int):=by unfold ev;rw [tnn]
 simp only [VB,tnn,en];refine .bifD (fun hk=>?_) fun hk => .pure (by rw [show n=(evs p).length by omega];rfl);refine KI.bind (P:=(· = lrN p (t:Int) idx reg (n+1))) (.gdD ⟨by omega,hk⟩ (KI.bind (P:=(· = lrC p (t:Int) idx reg (ev p (n:Int)))) (.bif (fun h1 => .bifD (fun h2 => .bif (fun h3=>?_) fun h3 => .pure ?_) fun h2 => .pure ?_) fun h1 => .pure ?_) fun v hv => .bif (fun h => .pure ?_) fun h => .pure ?_)) fun v hv => .gdI (by omega) (.pure ⟨⟨n+1,by omega,by rw [hv];rfl⟩,by simp only [];omega⟩)
 ·have h1:(ev p (n:Int)).Thread=(t:Int):=eq_of_beq h1;obtain ⟨t',k,hI,e,e1,e2⟩:=uF hp (n:=(n:Int)) (by omega) (by omega) (by omega);have : t'=t:=by omega
  subst this;have := hI.k;refine .gdD ⟨by omega,by omega⟩ (.gdD ⟨by omega,by rw [e2];omega⟩ (.pure ?_));unfold lrC;rw [decide_eq_true h1,decide_eq_true h2,h3,tnn]
  rfl
 ·unfold lrC;rw [h3];simp
 ·unfold lrC;rw [decide_eq_false h2];simp
 ·unfold lrC;rw [decide_eq_false (fun e=>by rw [e] at h1;simp at h1)];simp
 ·show (n:Int)=lrN p (t:Int) idx reg (n+1);rw [lrN,if_pos (by rw [<- hv];exact h)]
 show lrN p (t:Int) idx reg n=lrN p (t:Int) idx reg (n+1);rw [lrN,if_neg (by rw [<- hv,h];decide)]
def vR (p:List (List KE)) (i:Int):KE:=(p.getD (ev p i).Thread.toNat default).getD (ev p i).Index.toNat default
def lrE (p:List (List KE)) (i:Int):Int:=lrd p (ev p i).Thread (ev p i).Index (vR p i).Reg
def Stp (p:List (List KE)) (x:XS) (i j:Int):Prop := ¬ (ev p i).Thread<0/\(vR p i).Op=3 /\ ¬ lrE p i<0/\j=x.1.getD (lrE p i).toNat default
inductive Chn (p:List (List KE)) (x:XS):Int->Int->Prop
 | ini {i:Int} (h:(ev p i).Thread<0):Chn p x i 0
 | val {i:Int} (h : ¬ (ev p i).Thread<0) (h3:(vR p i).Op≠3):Chn p x i (vR p i).Val
 | zer {i:Int} (h : ¬ (ev p i).Thread<0) (h3:(vR p i).Op=3) (hr:lrE p i<0):Chn p x i 0
 | nxt {i j v:Int} (h:Stp p x i j) (c:Chn p x j v):Chn p x i v
inductive Rc (p:List (List KE)) (x:XS):Int->Int->Prop
 | refl (i:Int):Rc p x i i
 | step {i j k:Int} (h:Stp p x i j) (c:Rc p x j k):Rc p x i k
def Cyc (p:List (List KE)) (x:XS) (i:Int):Prop:=∃ j k,Rc p x i j/\Stp p x j k/\Rc p x k j
theorem Stp.det {i j k:Int} (h:Stp p x i j) (h':Stp p x i k):j=k:=h.2.2.2.trans h'.2.2.2.symm
theorem Chn.det {i v w:Int} (h:Chn p x i v):Chn p x i w->v=w:=by
 induction h with
 | ini h=>intro h';cases h' with
  | ini _=>rfl
  | val h1 _=>exact absurd h h1
  | zer h1 _ _=>exact absurd h h1
  | nxt h1 _=>exact absurd h h1.1
 | val h h3=>intro h';cases h' with
  | ini h1=>exact absurd h1 h
  | val _ _=>rfl
  | zer _ h1 _=>exact absurd h1 h3
  | nxt h1 _=>exact absurd h1.2.1 h3
 | zer h h3 hr=>intro h';cases h' with
  | ini h1=>exact absurd h1 h
  | val _ h1=>exact absurd h3 h1
  | zer _ _ _=>rfl
  | nxt h1 _=>exact absurd hr h1.2.2.1
 | nxt h c ih=>intro h';cases h' with
  | ini h1=>exact absurd h1 h.1
  | val _ h1=>exact absurd h.2.1 h1
  | zer _ _ h1=>exact absurd h1 h.2.2.1
  | nxt h1 c1=>obtain rfl:=h.det h1;exact ih c1
theorem Chn.not_cyc {i v:Int} (h:Chn p x i v) : ¬ Cyc p x i:=by
 have nost:∀ {i},(∀ j,¬ Stp p x i j) -> ¬ Cyc p x i:=fun {i} hn ⟨j,k,h1,h2,h3⟩=>by
  cases h1 with
  | refl _=>exact hn _ h2
  | step h _=>exact hn _ h
 induction h with
 | ini h=>exact nost fun j hj=>hj.1 h
 | val h h3=>exact nost fun j hj=>h3 hj.2.1
 | zer h h3 hr=>exact nost fun j hj=>hj.2.2.1 hr
 | nxt h c ih=>
  rintro ⟨j,k,h1,h2,h3⟩
  cases h1 with
  | refl _=>
   obtain rfl:=h.det h2;exact ih ⟨_,_,h3,h2,h3⟩
  | step h' c'=>
   obtain rfl:=h.det h';exact ih ⟨j,k,c',h2,h3⟩
theorem Cyc.step {i j:Int} (h:Stp p x i j) (c:Cyc p x j):Cyc p x i:=by
 obtain ⟨a,b,h1,h2,h3⟩:=c;exact ⟨a,b,.step h h1,h2,h3⟩
theorem xA {B:List Bool} {i:Nat} (hi:i<B.length) (hb:B.getD i default=false):(B.set i true).count false+1=B.count false:=by
 induction B generalizing i with
 | nil=>simp at hi
 | cons b B ih=>
  cases i with
  | zero=>
   have : b=false:=hb;subst this;simp
  | succ i=>
   have := ih (i:=i) (by simpa using hi) hb;simp only [List.set_cons_succ,List.count_cons];omega
theorem Fs {B:List Bool} {i:Nat} (hi:i<B.length) (hb:B.getD i default=false):(B.set i true).set i false=B:=by
 rw [List.set_set];apply List.ext_getElem
 ·simp
 intro j h1 h2;rw [List.getElem_set]
 split
 ·rename_i e;subst e;rw [gdq,geq hi] at hb;exact hb.symm
 rfl
def JF (p:List (List KE)) (x:XS) (vals:LI) (B:List Bool) (i:Int) (q:aA×Int×Bool):Prop:=
 q.1=VB p x vals B/\(q.2.2=true->Chn p x i q.2.1)/\(q.2.2=false->q.2.1=0/\((∃ j:Nat,B.getD j default=true/\Rc p x i (j:Int))\/Cyc p x i))
theorem Eg (hp:PV p) (C:Cand p x F):∀ (m:Nat) (vals:LI) (B:List Bool) (i:Nat),B.count false<m->B.length=(evs p).length->i<(evs p).length->KI (aV m (VB p x vals B) (i:Int)) (JF p x vals B (i:Int))
 | 0,_,_,_,h,_,_=>absurd h (O0 _)
 | m+1,vals,B,i,hm,hB,hi=>by
  have hel:=kJ hp.vs;have ei:(evs p).getD i default=ev p (i:Int):=by unfold ev;rw [tnn]
  show KI (dh (aV m) (VB p x vals B) (i:Int)) _;unfold dh;simp only [VB,tnn,ei];refine .gdD ⟨by omega,by omega⟩ (.bifD (fun h0 => .pure ⟨rfl,fun _ => .ini h0,fun e=>(by cases e)⟩) fun h0=>?_);obtain ⟨t,k,hI,e,e1,e2⟩:=uF hp (n:=(i:Int)) (by omega) (by omega) h0;have hins:((p.getD (ev p (i:Int)).Thread.toNat default).getD (ev p (i:Int)).Index.toNat default)=vR p (i:Int):=rfl;simp only [hins];have ht:=hI.t;have hk:=hI.k;refine .gdD ⟨by omega,by omega⟩ (.gdD ⟨by omega,by rw [e1,e2,tnn];omega⟩ (.bif (fun h3 => .pure ⟨rfl,fun _ => .val h0 (by simpa using h3),fun e=>(by cases e)⟩) fun h3=>?_));have h3:(vR p (i:Int)).Op=3:=by simpa using h3
  refine .gdD ⟨by omega,by omega⟩ (.bif (fun hb => .pure ⟨rfl,fun e=>(by cases e),fun _=>⟨rfl,.inl ⟨i,hb,.refl _⟩⟩⟩) fun hb=>?_);have hlr:=Cc (x:=x) (vals:=vals) (B:=B) hp ht (ev p (i:Int)).Index (vR p (i:Int)).Reg;rw [<- e1] at hlr;refine hlr.bind fun v8 h8=>?_;subst h8;have hlE:lrd p (ev p (i:Int)).Thread (ev p (i:Int)).Index (vR p (i:Int)).Reg=lrE p (i:Int):=rfl;simp only [VB,hlE];refine .bifD (fun hr => .pure ⟨rfl,fun _ => .zer h0 h3 hr,fun e=>(by cases e)⟩) fun hr=>?_;rcases Ee (p:=p) (ev p (i:Int)).Thread (ev p (i:Int)).Index (vR p (i:Int)).Reg with ⟨g1,_⟩ | ⟨r,g1,g2,g3,_⟩
  ·rw [hlE] at g1;exact absurd (show lrE p (i:Int)<0 by omega) hr
  rw [hlE] at g2;have hrd:=(Ef.1 g3).2.2.1;have hrF:(r:Int)∈F:=(C.mem _).2 ⟨by omega,by omega⟩;have hfr:=C.rdc _ hrF hrd;rw [tnn] at hfr;obtain ⟨j0,j1⟩:=(C.mem _).1 (((C.ods _ (uD hp (n:=(r:Int)) (by omega) (by omega))).mem _).1 hfr).1;generalize hj:x.1.getD r default=j at hfr j0 j1;have hst:Stp p x (i:Int) j:=⟨h0,h3,hr,by rw [g2,tnn,hj]⟩;refine .gdD ⟨by omega,by omega⟩ (.gdD ⟨by omega,by rw [g2,C.flen];omega⟩ ?_);rw [g2,tnn,hj];have hc:=xA (show i<B.length by omega) hb;have hrec:=Eg hp C m vals (B.set i true) j.toNat (by omega) (by rw [Pk];exact hB) (by omega);rw [O1 j0] at hrec;refine hrec.bind fun q ⟨q1,q2,q3⟩ => ?_;rw [q1];simp only [VB,Pk];refine .gdD ⟨by omega,by omega⟩ (.pure ⟨?_,fun h => .nxt hst (q2 h),fun h=>?_⟩)
  ·simp only [VB,Fs (show i<B.length by omega) hb]
  obtain ⟨q4,q3⟩:=q3 h;refine ⟨q4,?_⟩;rcases q3 with ⟨a,a1,a2⟩ | hcy
  ·by_cases ea:a=i
   ·subst ea;exact .inr ⟨_,_,.refl _,hst,a2⟩
   refine .inl ⟨a,?_,.step hst a2⟩;rw [gdq,List.getElem?_set_ne (Ne.symm ea)] at a1;rw [gdq];exact a1
  exact .inr (.step hst hcy)
theorem Eh (hp:PV p) (C:Cand p x F) (vals:LI) {i:Nat} (hi:i<(evs p).length):KI (iS (VB p x vals (OQ (evs p).length false)) (i:Int)) fun q=>q.1=VB p x vals (OQ (evs p).length false)/\(q.2.2=true->Chn p x (i:Int) q.2.1)/\(q.2.2=false->Cyc p x (i:Int)):=by
 have nob:∀ {q:aA×Int×Bool},JF p x vals (OQ (evs p).length false) (i:Int) q->q.1=VB p x vals (OQ (evs p).length false)/\(q.2.2=true->Chn p x (i:Int) q.2.1)/\(q.2.2=false->q.2.1=0/\Cyc p x (i:Int)):=fun {q} ⟨h1,h2,h3⟩=>⟨h1,h2,fun h=>⟨(h3 h).1,by
  rcases (h3 h).2 with ⟨j,hj,_⟩ | hc
  ·exfalso;rw [gdq,Pt] at hj
   split at hj <;> cases hj
  exact hc⟩⟩
 have key:∀ m,(evs p).length<m->KI (aV m (VB p x vals (OQ (evs p).length false)) (i:Int)) (JF p x vals (OQ (evs p).length false) (i:Int)):=fun m hm=>Eg hp C m vals _ i (by simp;omega) (by simp) hi;obtain ⟨q,hq,hP⟩:=key ((evs p).length+1) (by omega);obtain ⟨p1,p2,p3⟩:=nob hP;refine .of (mh (v:=q) (evs p).length fun m hm=>?_).eq ⟨p1,p2,fun h=>(p3 h).2⟩;obtain ⟨q',hq',hP'⟩:=key m hm;obtain ⟨r1,r2,r3⟩:=nob hP';refine .of hq' ?_;obtain ⟨qa,qb,qc⟩:=q;obtain ⟨ra,rb,rc⟩:=q';simp only at p1 p2 p3 r1 r2 r3;subst p1 r1
 cases qc <;> cases rc
 ·rw [(p3 rfl).1,(r3 rfl).1]
 ·exact absurd (p3 rfl).2 (r2 rfl).not_cyc
 ·exact absurd (r3 rfl).2 (p2 rfl).not_cyc
 rw [(p2 rfl).det (r2 rfl)]
theorem Ft (hp:PV p) (C:Cand p x F):KI (gm p ⟨x.1,x.2⟩) fun q=>(q.2=true->q.1.length=(evs p).length/\∀ i:Nat,i<(evs p).length->(ev p (i:Int)).aC=true->Chn p x (i:Int) (q.1.getD i default))/\(q.2=false->∃ i:Nat,i<(evs p).length/\(ev p (i:Int)).aC=true/\Cyc p x (i:Int)):=by
 have hel:=kJ hp.vs;unfold gm;refine (yD hp.vs).bind fun v1 h1=>?_;subst h1;refine .gdD ⟨by omega,by omega,by omega,by omega⟩ ?_;refine KI.sum (PS:=fun z=>z.1.length=(evs p).length/\∀ i:Nat,i<(evs p).length->(ev p (i:Int)).aC=true->Chn p x (i:Int) (z.1.getD i default)) (PW:=fun q:List Int×Bool=>(q.2=true->q.1.length=(evs p).length/\∀ i:Nat,i<(evs p).length->(ev p (i:Int)).aC=true->Chn p x (i:Int) (q.1.getD i default))/\(q.2=false->∃ i:Nat,i<(evs p).length/\(ev p (i:Int)).aC=true/\Cyc p x (i:Int))) ?_ fun z hz => .pure ⟨fun _=>hz,fun e=>(by cases e)⟩;have e0:OQ ((evs p).length:Int).toNat (default:Bool)=OQ (evs p).length false:=by rw [tnn];rfl
 rw [e0];refine KI.loop (fun z=>∃ n:Nat,n<=(evs p).length/\z.2=(p,x.1,x.2,evs p,OQ (evs p).length false,(n:Int))/\z.1.length=n/\∀ i:Nat,i<n->(ev p (i:Int)).aC=true->Chn p x (i:Int) (z.1.getD i default)) (fun z=>(((evs p).length:Int)-z.2.2.2.2.2.2).toNat) ⟨0,by omega,rfl,rfl,fun i hi=>absurd hi (by omega)⟩ fun z ⟨n,n1,n2,n3,n4⟩ => ?_;obtain ⟨vals,z2⟩:=z;simp only at n2 n3 n4;subst n2;unfold iT;have en:(evs p).getD n default=ev p (n:Int):=by unfold ev;rw [tnn]
 simp only [tnn,en];refine .bifD (fun hk => .gdD ⟨by omega,hk⟩ ?_) fun hk => .pure ⟨by simp only [];omega,fun i hi=>n4 i (by omega)⟩;refine KI.sum (PS:=fun s=>s.1=p/\s.2.1=x.1/\s.2.2.1=x.2/\s.2.2.2.1=evs p/\s.2.2.2.2.1=OQ (evs p).length false/\((ev p (n:Int)).aC=true->Chn p x (n:Int) s.2.2.2.2.2)) ?_ fun s ⟨s1,s2,s3,s4,s5,s6⟩ => .gd (dx (by omega) rfl) (.gdI (by omega) (.pure ⟨⟨n+1,by omega,?_,by simp [n3],fun i hi hw=>?_⟩,by simp only [];omega⟩))
 ·refine .bif (fun hw=>?_) fun hw => .pure ⟨rfl,rfl,rfl,rfl,rfl,fun h=>by rw [hw] at h;cases h⟩;refine (Eh hp C vals (i:=n) (by omega)).bind fun q ⟨q1,q2,q3⟩ => .bif (fun hq => .pure ?_) fun hq => .pure ⟨by rw [q1];rfl,by rw [q1];rfl,by rw [q1];rfl,by rw [q1];rfl,by rw [q1];rfl,fun _=>q2 (by simpa using hq)⟩;exact ⟨fun e=>(by cases e),fun _=>⟨n,by omega,hw,q3 (by simpa using hq)⟩⟩
 ·rw [s1,s2,s3,s4,s5]
  rfl
 by_cases e:i=n
 ·subst e;simp only [];rw [gdq,gar (by omega),n3,Pi];exact s6 hw
 simp only [];rw [gdq,gal (by omega)];have := n4 i (by omega) hw
 rwa [gdq] at this
end
section
variable {p:List (List KE)} {x:XS} {F:LI}
inductive HC (p:List (List KE)) (x:XS):Int->Int->Nat->Prop
 | ini {i:Int} (h:(ev p i).Thread<0):HC p x i 0 0
 | val {i:Int} (h : ¬ (ev p i).Thread<0) (h3:(vR p i).Op≠3):HC p x i (vR p i).Val 0
 | zer {i:Int} (h : ¬ (ev p i).Thread<0) (h3:(vR p i).Op=3) (hr:lrE p i<0):HC p x i 0 0
 | nxt {i j v:Int} {n:Nat} (h:Stp p x i j) (c:HC p x j v n):HC p x i v (n+1)
theorem Stp.dom (hp:PV p) (C:Cand p x F) {i j:Int} (hi:0<=i/\i<((evs p).length:Int)) (h:Stp p x i j):(0<=j/\j<((evs p).length:Int))/\(ev p j).aC=true:=by
 obtain ⟨_,_,hr,e⟩:=h;rcases Ee (p:=p) (ev p i).Thread (ev p i).Index (vR p i).Reg with ⟨g1,_⟩ | ⟨r,g1,g2,g3,_⟩
 ·exact absurd (show lrE p i<0 by unfold lrE;omega) hr
 have hrd:=(Ef.1 g3).2.2.1;have hrF:(r:Int)∈F:=(C.mem _).2 ⟨by omega,by omega⟩;have hfr:=((C.ods _ (uD hp (n:=(r:Int)) (by omega) (by omega))).mem _).1 (C.rdc _ hrF hrd);rw [show (r:Int)=lrE p i from g2.symm,<- e] at hfr;exact ⟨(C.mem _).1 hfr.1,hfr.2.1⟩
theorem Chn.hc (hp:PV p) (C:Cand p x F) {i v:Int} (h:Chn p x i v):0<=i/\i<((evs p).length:Int)->∃ n:Nat,n<(evs p).length/\HC p x i v n:=by
 have key:∀ {i v:Int},Chn p x i v->0<=i/\i<((evs p).length:Int)->∃ (n:Nat) (l:LI),HC p x i v n/\l.length=n+1/\l.Nodup/\(∀ j∈l,Rc p x i j)/\∀ j∈l,0<=j/\j<((evs p).length:Int):=by
  intro i v h
  induction h with
  | @ini i h=>exact fun hi=>⟨0,[i],.ini h,rfl,by simp,fun j hj=>by rw [OT.1 hj];exact .refl _,fun j hj=>by rw [OT.1 hj];exact hi⟩
  | @val i h h3=>exact fun hi=>⟨0,[i],.val h h3,rfl,by simp,fun j hj=>by rw [OT.1 hj];exact .refl _,fun j hj=>by rw [OT.1 hj];exact hi⟩
  | @zer i h h3 hr=>exact fun hi=>⟨0,[i],.zer h h3 hr,rfl,by simp,fun j hj=>by rw [OT.1 hj];exact .refl _,fun j hj=>by rw [OT.1 hj];exact hi⟩
  | @nxt i j v h c ih=>
   intro hi;obtain ⟨n,l,k1,k2,k3,k4,k5⟩:=ih (h.dom hp C hi).1;refine ⟨n+1,i::l,.nxt h k1,by rw [llc,k2],List.nodup_cons.2 ⟨fun hm=>?_,k3⟩,fun q hq=>?_,fun q hq=>?_⟩
   ·exact (Chn.nxt h c).not_cyc ⟨i,j,.refl _,h,k4 i hm⟩
   ·rcases Pe.1 hq with rfl | hq
    ·exact .refl _
    exact .step h (k4 q hq)
   rcases Pe.1 hq with rfl | hq
   ·exact hi
   exact k5 q hq
 intro hi;obtain ⟨n,l,k1,k2,k3,_,k5⟩:=key h hi;have := E0 Int.toNat (evs p).length l k3 (fun j hj=>by have := k5 j hj;omega) fun a ha b hb e=>by have := k5 a ha;have := k5 b hb;omega
 exact ⟨n,by omega,k1⟩
theorem Chn.rng (hp:PV p) (C:Cand p x F) {i v:Int} (h:Chn p x i v):(0<=i/\i<((evs p).length:Int))->0<=v/\v<=3:=by
 induction h with
 | ini h=>intro _;omega
 | @val i h h3=>
  intro hi;obtain ⟨t,k,hI,_,e1,e2⟩:=uF hp hi.1 hi.2 h;have hR:InR (vR p i):=by
   unfold vR;rw [e1,e2];exact hp.ins t k hI.t hI.k
  obtain ⟨_,_,_,_,a,b⟩:=hR;exact ⟨a,b⟩
 | zer h h3 hr=>intro _;omega
 | nxt h c ih=>intro hi;exact ih (h.dom hp C hi).1
end
theorem G5 {l:List KE} (hl:l.length<=1000) {a b:Nat} (hab:a<b) (hb:b<l.length) (ha : ¬ (l.getD a default).Op=4):KI (ig l (a:Int) (b:Int)) (· = zS ((l.drop a).take (b-a))):=by
 have key:zS ((l.drop a).take (b-a))=true↔∃ j,a<j/\j<b/\(l.getD j default).Op=4:=by
  unfold zS;rw [List.any_eq_true]
  constructor
  ·rintro ⟨y,hy,h4⟩;obtain ⟨i,hi,rfl⟩:=OU hy;rw [List.length_take,List.length_drop] at hi;have e:((l.drop a).take (b-a))[i]=l.getD (a+i) default:=by
    rw [List.getElem_take,List.getElem_drop,gdq,geq (by omega)]
    rfl
   rw [e,beq_iff_eq] at h4
   by_cases h0:i=0
   ·subst h0;exact absurd h4 ha
   exact ⟨a+i,by omega,by omega,h4⟩
  rintro ⟨j,h1,h2,h3⟩;refine ⟨l.getD j default,?_,by rw [h3];rfl⟩;have : j-a<((l.drop a).take (b-a)).length:=by rw [List.length_take,List.length_drop];omega
  have e:((l.drop a).take (b-a))[j-a]=l.getD j default:=by
   rw [List.getElem_take,List.getElem_drop,gdq,geq (by omega)];simp only [show a+(j-a)=j by omega]
   rfl
  rw [<- e];exact List.getElem_mem _
 unfold ig;refine KI.sum (PS:=fun _=>zS ((l.drop a).take (b-a))=false) (PW:=(· = zS ((l.drop a).take (b-a)))) (.gdI (by omega) ?_) fun _ hn => .pure hn.symm;refine KI.loop (fun z=>∃ i:Nat,a<i/\i<=b/\z=(i:Int)/\∀ j,a<j->j<i -> ¬ (l.getD j default).Op=4) (fun z=>((b:Int)-z).toNat) ⟨a+1,by omega,by omega,by simp,fun j _ _=>by omega⟩ fun z ⟨i,h0,h1,h2,h3⟩ => ?_;subst h2;unfold nX;simp only [tnn];refine .bifD (fun hk => .gdD ⟨by omega,by omega⟩ (.bif (fun he => .pure ?_) fun he => .gdI (by omega) (.pure ⟨⟨i+1,by omega,by omega,rfl,fun j j1 j2=>?_⟩,by omega⟩))) fun hk => .pure ?_
 ·exact (key.2 ⟨i,by omega,by omega,eq_of_beq he⟩).symm
 ·by_cases e:j=i
  ·subst e;exact fun h=>by rw [h] at he;simp at he
  exact h3 j j1 (by omega)
 show zS _=false;rw [Pm];intro h;obtain ⟨j,j1,j2,j3⟩:=key.1 h;exact h3 j j1 (by omega) j3
section
variable {p:List (List KE)} {x:XS} {F:LI}
theorem IQ (hp:PV p) (C:Cand p x F) {i k:Nat} (hi:i<(evs p).length) (hk:k<(evs p).length) (nm:ByteArray) (hn:nm∈vJ):KI (bY p ⟨x.1,x.2⟩ (evs p) nm (i:Int) (k:Int)) (· = nmR p x nm i k):=by
 have hX:=J0 hp C;have hn':nm=⟨#[112,111]⟩\/nm=⟨#[108,111,99]⟩\/nm=⟨#[101,120,116]⟩\/nm=⟨#[114,102]⟩\/nm=⟨#[99,111]⟩\/nm=⟨#[102,114]⟩\/nm=⟨#[102,101,110,99,101]⟩\/nm=⟨#[119,114]⟩\/nm=⟨#[119,119]⟩\/nm=⟨#[105,100]⟩:=by
  simpa [vJ] using hn
 have four:∀ f,((nm=⟨#[112,111]⟩/\f=poB p)\/(nm=⟨#[114,102]⟩/\f=rfB p x)\/(nm=⟨#[99,111]⟩/\f=coB p x)\/(nm=⟨#[102,114]⟩/\f=frB p x))->nmR p x nm=f->KI (bY p ⟨x.1,x.2⟩ (evs p) nm (i:Int) (k:Int)) (· = nmR p x nm i k):=fun f h e=>by
  rw [e];exact Fc hp hX hi hk nm f h
 have ei:(evs p).getD i default=ev p (i:Int):=by unfold ev;rw [tnn]
 have ek:(evs p).getD k default=ev p (k:Int):=by unfold ev;rw [tnn]
 have go:∀ {f:Int->Int->Bool},nmR p x nm=f->(∀ same:Bool,same=(decide ((ev p i).Thread=(ev p k).Thread)&&decide (0<=(ev p i).Thread))->KI ( sumK (
  bif decide (nm=(⟨#[112,111]⟩:ByteArray)) then
   OM (bif same then
    some (decide (((ev p (i:Int)).Index)<((ev p (k:Int)).Index)))
   else
    some false
   ) fun s7=>
   some (.inr s7)
  else
   bif decide (nm=(⟨#[108,111,99]⟩:ByteArray)) then
    some (.inr (((ev p (i:Int)).Loc)==((ev p (k:Int)).Loc)))
   else
    bif decide (nm=(⟨#[101,120,116]⟩:ByteArray)) then
     some (.inr (!same))
    else
     bif decide (nm=(⟨#[114,102]⟩:ByteArray)) then
      OM (bif (ev p (k:Int)).Reads then
       gd (decide (0<=(k:Int)/\(k:Int)<(x.1.length:Int))) <|
       some ((x.1.getD k default)==(i:Int))
      else
       some false
      ) fun s12=>
      some (.inr s12)
     else
      bif decide (nm=(⟨#[99,111]⟩:ByteArray)) then
       OM (bif (ev p (i:Int)).aC then
        some ((ev p (k:Int)).aC)
       else
        some false
       ) fun s16=>
       OM (bif s16 then
        some (((ev p (i:Int)).Loc)==((ev p (k:Int)).Loc))
       else
        some false
       ) fun s18=>
       OM (bif s18 then
        OM (cz ⟨x.1,x.2⟩ ((ev p (i:Int)).Loc) (i:Int) (k:Int)) fun v22=>
        some v22
       else
        some false
       ) fun s20=>
       some (.inr s20)
      else
       bif decide (nm=(⟨#[102,114]⟩:ByteArray)) then
        OM (
         bif (ev p (i:Int)).Reads then
          bif (ev p (k:Int)).aC then
           bif (((ev p (i:Int)).Loc)==((ev p (k:Int)).Loc)) then
            bif ((i:Int) != (k:Int)) then
             gd (decide (0<=(i:Int)/\(i:Int)<(x.1.length:Int))) <|
             OM (cz ⟨x.1,x.2⟩ ((ev p (i:Int)).Loc) (x.1.getD i default) (k:Int)) fun v30=>
             some v30
            else
             some false
           else
            some false
          else
           some false
         else
          some false
        ) fun s24=>
        some (.inr s24)
       else
        bif decide (nm=(⟨#[102,101,110,99,101]⟩:ByteArray)) then
         OM (
          bif same then
           bif decide (((ev p (i:Int)).Index)<((ev p (k:Int)).Index)) then
            gd (decide (0<=(ev p (i:Int)).Thread/\(ev p (i:Int)).Thread<(p.length:Int))) <|
            OM (ig (p.getD ((ev p (i:Int)).Thread).toNat default) ((ev p (i:Int)).Index) ((ev p (k:Int)).Index)) fun v36=>
            some v36
           else
            some false
          else
           some false
         ) fun same2=>
         some (.inr same2)
        else
         bif decide (nm=(⟨#[119,114]⟩:ByteArray)) then
          OM (bif (ev p (i:Int)).aC then
           some (!((ev p (i:Int)).Reads))
          else
           some false
          ) fun same8=>
          OM (bif same8 then
           some ((ev p (k:Int)).Reads)
          else
           some false
          ) fun s40=>
          OM (bif s40 then
           some (!((ev p (k:Int)).aC))
          else
           some false
          ) fun s42=>
          some (.inr s42)
         else
          bif decide (nm=(⟨#[119,119]⟩:ByteArray)) then
           OM (bif (ev p (i:Int)).aC then
            some (!((ev p (i:Int)).Reads))
           else
            some false
           ) fun s45=>
           OM (bif s45 then
            some ((ev p (k:Int)).aC)
           else
            some false
           ) fun s47=>
           OM (bif s47 then
            some (!((ev p (k:Int)).Reads))
           else
            some false
           ) fun s49=>
           some (.inr s49)
          else
           some (.inl ())
 ) fun s5=>
 OM (bif decide (nm=(⟨#[105,100]⟩:ByteArray)) then
  some ((i:Int)==(k:Int))
 else
  some false
 ) fun s51=>
 some s51) (· = f i k))->KI (bY p ⟨x.1,x.2⟩ (evs p) nm (i:Int) (k:Int)) (· = nmR p x nm i k):=fun {f} e h=>by
  rw [e];unfold bY;simp only [tnn,ei,ek];refine .gdD ⟨by omega,by omega⟩ (.gdD ⟨by omega,by omega⟩ (KI.bind (P:=(· = (decide ((ev p i).Thread=(ev p k).Thread)&&decide (0<=(ev p i).Thread)))) (.bif (fun h => .pure ?_) fun h => .pure ?_) h))
  ·rw [eq_of_beq h];simp
  rw [decide_eq_false (fun e=>by rw [e] at h;simp at h)];rfl
 rcases hn' with rfl | rfl | rfl | rfl | rfl | rfl | rfl | rfl | rfl | rfl
 ·exact four _ (.inl ⟨rfl,rfl⟩) rfl
 ·refine go (f:=J1 p) rfl fun same hs=>KI.sumR (.bif (fun h=>absurd h (by decide)) fun _ => .bif (fun _ => .pure (congrArg Sum.inr (Bl _ _))) fun h=>absurd h (by decide))
 ·refine go (f:=HZ p) rfl fun same hs=>KI.sumR (.bif (fun h=>absurd h (by decide)) fun _ => .bif (fun h=>absurd h (by decide)) fun _ => .bif (fun _ => .pure (congrArg Sum.inr ?_)) fun h=>absurd h (by decide));subst hs;unfold HZ
  by_cases h1:(ev p i).Thread=(ev p k).Thread <;> by_cases h2:0<=(ev p i).Thread
  ·rw [decide_eq_true h1,decide_eq_true h2,decide_eq_false (fun h=>h h1),decide_eq_false (show ¬ (ev p i).Thread<0 by omega)];rfl
  ·rw [decide_eq_true h1,decide_eq_false h2,decide_eq_false (fun h=>h h1),decide_eq_true (show (ev p i).Thread<0 by omega)];rfl
  ·rw [decide_eq_false h1,decide_eq_true (show (ev p i).Thread≠(ev p k).Thread from h1)];rfl
  rw [decide_eq_false h1,decide_eq_true (show (ev p i).Thread≠(ev p k).Thread from h1)];rfl
 ·exact four _ (.inr (.inl ⟨rfl,rfl⟩)) rfl
 ·exact four _ (.inr (.inr (.inl ⟨rfl,rfl⟩))) rfl
 ·exact four _ (.inr (.inr (.inr ⟨rfl,rfl⟩))) rfl
 ·refine go (f:=Ff p) rfl fun same hs=>KI.sumR (.bif (fun h=>absurd h (by decide)) fun _ => .bif (fun h=>absurd h (by decide)) fun _ => .bif (fun h=>absurd h (by decide)) fun _ => .bif (fun h=>absurd h (by decide)) fun _ => .bif (fun h=>absurd h (by decide)) fun _ => .bif (fun h=>absurd h (by decide)) fun _ => .bif (fun _=>?_) fun h=>absurd h (by decide));refine KI.bind (P:=(· = Ff p i k)) (.bif (fun h1 => .bifD (fun h2=>?_) fun h2 => .pure ?_) fun h1 => .pure ?_) fun v hv => .pure (congrArg Sum.inr hv)
  ·rw [hs,bae,dte,dte] at h1;obtain ⟨t',q',hI',e',ht',hq'⟩:=uF hp (n:=(i:Int)) (by omega) (by omega) (by omega);obtain ⟨t,q,hI,e,ht,hq⟩:=uF hp (n:=(k:Int)) (by omega) (by omega) (by omega);have htt:t'=t:=by omega
   subst htt;have hlen:=hI.k;have hlt:=hI.t;have hr:=hp.vs.2 t';have hnf:=hI'.o;have hpo:poB p i k=true:=by unfold poB;rw [decide_eq_true h1.1,decide_eq_true h1.2,decide_eq_true h2];rfl
   unfold Ff;rw [hpo,OO,ht',hq',hq,tnn,tnn,tnn];exact .gdD ⟨by omega,by omega⟩ ((G5 (by omega) (by omega) hlen hnf).bind fun v hv => .pure hv)
  ·unfold Ff poB;rw [decide_eq_false h2,Bool.and_false]
   rfl
  unfold Ff poB;rw [<- hs,h1]
  rfl
 ·refine go (f:=fun i k=>kr (ev p i) true&&kr (ev p k) false) rfl fun same hs=>KI.sumR (.bif (fun h=>absurd h (by decide)) fun _ => .bif (fun h=>absurd h (by decide)) fun _ => .bif (fun h=>absurd h (by decide)) fun _ => .bif (fun h=>absurd h (by decide)) fun _ => .bif (fun h=>absurd h (by decide)) fun _ => .bif (fun h=>absurd h (by decide)) fun _ => .bif (fun h=>absurd h (by decide)) fun _ => .bif (fun _=>?_) fun h=>absurd h (by decide));generalize ev p (i:Int)=a;generalize ev p (k:Int)=b;obtain ⟨_,_,_,r,w⟩:=a;obtain ⟨_,_,_,r',w'⟩:=b
  cases r <;> cases w <;> cases r' <;> cases w' <;> exact .pure rfl
 ·refine go (f:=fun i k=>kr (ev p i) true&&kr (ev p k) true) rfl fun same hs=>KI.sumR (.bif (fun h=>absurd h (by decide)) fun _ => .bif (fun h=>absurd h (by decide)) fun _ => .bif (fun h=>absurd h (by decide)) fun _ => .bif (fun h=>absurd h (by decide)) fun _ => .bif (fun h=>absurd h (by decide)) fun _ => .bif (fun h=>absurd h (by decide)) fun _ => .bif (fun h=>absurd h (by decide)) fun _ => .bif (fun h=>absurd h (by decide)) fun _ => .bif (fun _=>?_) fun h=>absurd h (by decide));generalize ev p (i:Int)=a;generalize ev p (k:Int)=b;obtain ⟨_,_,_,r,w⟩:=a;obtain ⟨_,_,_,r',w'⟩:=b
  cases r <;> cases w <;> cases r' <;> cases w' <;> exact .pure rfl
 refine go (f:=fun i k=>decide (i=k)) rfl fun same hs=>KI.sum (PS:=fun _=>True) (PW:=(· = decide ((i:Int)=(k:Int)))) (.bif (fun h=>absurd h (by decide)) fun _ => .bif (fun h=>absurd h (by decide)) fun _ => .bif (fun h=>absurd h (by decide)) fun _ => .bif (fun h=>absurd h (by decide)) fun _ => .bif (fun h=>absurd h (by decide)) fun _ => .bif (fun h=>absurd h (by decide)) fun _ => .bif (fun h=>absurd h (by decide)) fun _ => .bif (fun h=>absurd h (by decide)) fun _ => .bif (fun h=>absurd h (by decide)) fun _ => .pure trivial) fun _ _=>KI.bind (P:=(· = decide ((i:Int)=(k:Int)))) (.bif (fun _ => .pure (Bl _ _)) fun h=>absurd h (by decide)) fun v hv => .pure hv
theorem IR (hp:PV p) (name:ByteArray) (f:Int->Int->Bool) (h:∀ i k:Nat,i<(evs p).length->k<(evs p).length->KI (bY p ⟨x.1,x.2⟩ (evs p) name (i:Int) (k:Int)) (· = f i k)):KI (db p ⟨x.1,x.2⟩ name) (· = yF p f (evs p).length):=by
 have hel:=kJ hp.vs;unfold db;refine (yE hp.vs).bind fun v1 h1=>?_;subst h1;refine KI.bind (P:=(· = yF p f (evs p).length)) ?_ fun v hv => .pure hv;refine KI.loop (fun z=>∃ n:Nat,n<=(evs p).length/\z=(yF p f n,(n:Int))) (fun z=>(((evs p).length:Int)-z.2).toNat) ⟨0,by omega,rfl⟩ fun z ⟨n,h1,h2⟩ => ?_;subst h2;unfold mK;refine .bifD (fun hk=>?_) fun hk => .pure ?_
 ·simp only [] at hk;refine KI.bind (P:=(· = yF p f (n+1))) (KI.bind (P:=(· = ((KJ (fun k=>f n k) (evs p).length:Nat):Int))) ?_ fun v hv => .gd (dx (by simp only [];rw [DC];omega) rfl) (.pure (by simp only [];rw [hv,B0]))) fun v hv => .gdI (by simp only [];omega) (.pure ⟨⟨n+1,by omega,by rw [hv];rfl⟩,by simp only [];omega⟩);refine KI.loop (fun z=>∃ k:Nat,k<=(evs p).length/\z=((k:Int),((KJ (fun k=>f n k) k:Nat):Int))) (fun z=>(((evs p).length:Int)-z.1).toNat) ⟨0,by omega,rfl⟩ fun z ⟨k,k1,k2⟩ => ?_;subst k2;unfold oQ;refine .bifD (fun hkk=>?_) fun hkk => .pure ?_
  ·simp only [] at hkk;refine KI.bind (P:=(· = ((KJ (fun k=>f n k) (k+1):Nat):Int))) ((h n k (by omega) (by omega)).bind fun v hv => .bif (fun hb => .gdD (by simp only [];omega) (.pure ?_)) fun hb => .pure ?_) fun v hv => .gdI (by simp only [];omega) (.pure ⟨⟨k+1,by omega,by rw [hv];rfl⟩,by simp only [];omega⟩)
   ·simp only [];rw [vM (by omega),nJ (aT (by omega)) (by have := O9 (a:=2) (by omega) (show k<63 by omega);omega)];rw [hv] at hb;simp only [KJ,hb,if_true]
   rw [hv] at hb;simp only [KJ,hb]
   rfl
  have : k=(evs p).length:=by simp only [] at hkk;omega
  rw [<- this]
 have : n=(evs p).length:=by simp only [] at hk;omega
 subst this
 rfl
theorem IU (hp:PV p) (C:Cand p x F) {nm:ByteArray} (hn:nm∈vJ):KI (db p ⟨x.1,x.2⟩ nm) (· = KL (evs p).length (nmR p x nm)):=IR hp nm _ fun i k hi hk=>IQ hp C hi hk nm hn
end
section
variable {p:List (List KE)} {x:XS} {F:LI}
theorem JG (hp:PV p) {t:Nat} (ht:t<p.length) (idx reg:Int):KI (m5 p (evs p) (t:Int) idx reg) (· = lrd p (t:Int) idx reg):=by
 have hel:=kJ hp.vs;unfold m5;refine KI.bind (P:=(· = lrd p (t:Int) idx reg)) ?_ fun v hv => .pure hv;refine KI.loop (fun z=>∃ n:Nat,n<=(evs p).length/\z=((n:Int),lrN p (t:Int) idx reg n)) (fun z=>(((evs p).length:Int)-z.1).toNat) ⟨0,by omega,rfl⟩ fun z ⟨n,h1,h2⟩ => ?_;subst h2;unfold pK;have en:(evs p).getD n default=ev p (n:Int):=by unfold ev;rw [tnn]
 simp only [tnn,en];refine .bifD (fun hk=>?_) fun hk => .pure (by rw [show n=(evs p).length by omega];rfl);refine KI.bind (P:=(· = lrN p (t:Int) idx reg (n+1))) (.gdD ⟨by omega,hk⟩ (KI.bind (P:=(· = lrC p (t:Int) idx reg (ev p (n:Int)))) (.bif (fun h1 => .bifD (fun h2 => .bif (fun h3=>?_) fun h3 => .pure ?_) fun h2 => .pure ?_) fun h1 => .pure ?_) fun v hv => .bif (fun h => .pure ?_) fun h => .pure ?_)) fun v hv => .gdI (by omega) (.pure ⟨⟨n+1,by omega,by rw [hv];rfl⟩,by simp only [];omega⟩)
 ·have h1:(ev p (n:Int)).Thread=(t:Int):=eq_of_beq h1;obtain ⟨t',k,hI,e,e1,e2⟩:=uF hp (n:=(n:Int)) (by omega) (by omega) (by omega);have : t'=t:=by omega
  subst this;have := hI.k;refine .gdD ⟨by omega,by omega⟩ (.gdD ⟨by omega,by rw [e2];omega⟩ (.pure ?_));unfold lrC;rw [decide_eq_true h1,decide_eq_true h2,h3,tnn]
  rfl
 ·unfold lrC;rw [h3];simp
 ·unfold lrC;rw [decide_eq_false h2];simp
 ·unfold lrC;rw [decide_eq_false (fun e=>by rw [e] at h1;simp at h1)];simp
 ·show (n:Int)=lrN p (t:Int) idx reg (n+1);rw [lrN,if_pos (by rw [<- hv];exact h)]
 show lrN p (t:Int) idx reg n=lrN p (t:Int) idx reg (n+1);rw [lrN,if_neg (by rw [<- hv,h];decide)]
def wv (p:List (List KE)) (x:XS) (K:LI) (i:Int):Int:=
 if (ev p i).Thread<0 then 0 else if (vR p i).Op≠3 then (vR p i).Val else if lrE p i<0 then 0 else K.getD (x.1.getD (lrE p i).toNat default).toNat default
theorem G6 (hp:PV p) (C:Cand p x F) {K:LI} (hK:K.length=(evs p).length) {i:Nat} (hi:i<(evs p).length):KI (kR p (evs p) ⟨x.1,x.2⟩ (i:Int) K) (· = wv p x K (i:Int)):=by
 have ei:(evs p).getD i default=ev p (i:Int):=by unfold ev;rw [tnn]
 unfold kR wv;simp only [tnn,ei];refine .gdD ⟨by omega,by omega⟩ (.bifD (fun h0 => .pure (by rw [if_pos h0])) fun h0=>?_);rw [if_neg h0];obtain ⟨t,k,hI,e,e1,e2⟩:=uF hp (n:=(i:Int)) (by omega) (by omega) h0;have hins:((p.getD (ev p (i:Int)).Thread.toNat default).getD (ev p (i:Int)).Index.toNat default)=vR p (i:Int):=rfl;simp only [hins];have ht:=hI.t;have hk:=hI.k;refine .gdD ⟨by omega,by omega⟩ (.gdD ⟨by omega,by rw [e1,e2,tnn];omega⟩ (.bif (fun h3 => .pure (by rw [if_pos (by simpa using h3)])) fun h3=>?_));have h3:(vR p (i:Int)).Op=3:=by simpa using h3
 rw [if_neg (fun h=>h h3)];have hlr:=JG (p:=p) hp ht (ev p (i:Int)).Index (vR p (i:Int)).Reg;rw [<- e1] at hlr;refine hlr.bind fun v6 h6=>?_;have hlE:lrd p (ev p (i:Int)).Thread (ev p (i:Int)).Index (vR p (i:Int)).Reg=lrE p (i:Int):=rfl;rw [hlE] at h6;subst h6;refine .bifD (fun hr => .pure (by rw [if_pos hr])) fun hr=>?_;rw [if_neg hr];have hst:Stp p x (i:Int) (x.1.getD (lrE p (i:Int)).toNat default):=⟨h0,h3,hr,rfl⟩;have hd:=(hst.dom hp C ⟨by omega,by omega⟩).1;rcases Ee (p:=p) (ev p (i:Int)).Thread (ev p (i:Int)).Index (vR p (i:Int)).Reg with ⟨g1,_⟩ | ⟨r,g1,g2,_,_⟩
 ·exact absurd (show lrE p (i:Int)<0 by rw [<- hlE];omega) hr
 rw [hlE] at g2;exact .gdD ⟨by omega,by rw [C.flen];omega⟩ (.gdD ⟨hd.1,by rw [hK];exact hd.2⟩ (.pure rfl))
def Kn (p:List (List KE)) (x:XS) (K:LI):Prop:=K.length=(evs p).length/\∀ i:Nat,i<(evs p).length->K.getD i default = -1\/Chn p x (i:Int) (K.getD i default)
def Dn (p:List (List KE)) (x:XS) (K:LI) (n:Nat):Prop:=∀ (i:Nat) (v:Int) (h:Nat),i<(evs p).length->(ev p (i:Int)).aC=true->HC p x (i:Int) v h->h<n->K.getD i default=v
theorem IV (hp:PV p) (C:Cand p x F) {K:LI} (hK:Kn p x K) {i:Nat} (hi:i<(evs p).length):wv p x K (i:Int) = -1\/Chn p x (i:Int) (wv p x K (i:Int)):=by
 unfold wv
 split
 ·rename_i h;exact .inr (.ini h)
 rename_i h
 split
 ·rename_i h3;exact .inr (.val h h3)
 rename_i h3;have h3:(vR p (i:Int)).Op=3:=Decidable.not_not.1 h3
 split
 ·rename_i hr;exact .inr (.zer h h3 hr)
 rename_i hr;have hst:Stp p x (i:Int) (x.1.getD (lrE p (i:Int)).toNat default):=⟨h,h3,hr,rfl⟩;have hd:=(hst.dom hp C ⟨by omega,by omega⟩).1;rcases hK.2 (x.1.getD (lrE p (i:Int)).toNat default).toNat (by omega) with e | e
 ·exact .inl e
 rw [O1 hd.1] at e;exact .inr (.nxt hst e)
theorem Ei (hp:PV p) (C:Cand p x F) {K:LI} {n:Nat} (hD:Dn p x K n) {i:Nat} (hi:i<(evs p).length) {v:Int} {h:Nat} (hc:HC p x (i:Int) v h) (hn:h<n+1):wv p x K (i:Int)=v:=by
 unfold wv
 cases hc with
 | ini h=>rw [if_pos h]
 | val h h3=>rw [if_neg h,if_pos h3]
 | zer h h3 hr=>rw [if_neg h,if_neg (fun e=>e h3),if_pos hr]
 | @nxt _ j v m h c=>
  have hd:=h.dom hp C ⟨by omega,by omega⟩;obtain ⟨g1,g2,g3,g4⟩:=h;rw [if_neg g1,if_neg (fun e=>e g2),if_neg g3,<- g4];refine hD _ _ m (by omega) ?_ (show HC p x _ v m from ?_) (by omega)
  ·rw [O1 hd.1.1];exact hd.2
  rw [O1 hd.1.1];exact c
theorem IW (hp:PV p) (C:Cand p x F) {K:LI} {n:Nat} (hK:Kn p x K) (hD:Dn p x K n):KI (loopO (eM p ⟨x.1,x.2⟩ (evs p)) (K,(0:Int))) fun q=>Kn p x q/\Dn p x q (n+1):=by
 have hel:=kJ hp.vs;refine KI.loop (fun z=>∃ k:Nat,k<=(evs p).length/\z.2=(k:Int)/\Kn p x z.1/\Dn p x z.1 n/\∀ (i:Nat) (v:Int) (h:Nat),i<k->(ev p (i:Int)).aC=true->HC p x (i:Int) v h->h<n+1->z.1.getD i default=v) (fun z=>(((evs p).length:Int)-z.2).toNat) ⟨0,by omega,rfl,hK,hD,fun i v h hi=>absurd hi (by omega)⟩ fun z ⟨k,k1,k2,k3,k4,k5⟩ => ?_;obtain ⟨L,zk⟩:=z;simp only at k2 k3 k4 k5;subst k2;unfold eM;have ek:(evs p).getD k default=ev p (k:Int):=by unfold ev;rw [tnn]
 simp only [tnn,ek];refine .bifD (fun hk=>?_) fun hk => .pure ⟨k3,fun i v h hi hw hc hn=>k5 i v h (by omega) hw hc hn⟩;refine KI.bind (P:=fun q=>Kn p x q/\Dn p x q n/\∀ (i:Nat) (v:Int) (h:Nat),i<k+1->(ev p (i:Int)).aC=true->HC p x (i:Int) v h->h<n+1->q.getD i default=v) (.gdD ⟨by omega,hk⟩ (.bif (fun hw=>?_) fun hw => .pure ⟨k3,k4,fun i v h hi hwi hc hn=>?_⟩)) fun q ⟨q1,q2,q3⟩ => .gdI (by omega) (.pure ⟨⟨k+1,by omega,rfl,q1,q2,q3⟩,by simp only [];omega⟩)
 ·refine (G6 hp C k3.1 (i:=k) (by omega)).bind fun w hw' => .gdD ⟨by omega,by rw [k3.1];exact hk⟩ (.pure ?_);subst hw';have hget:∀ i:Nat,(L.set k (wv p x L (k:Int))).getD i default=if i=k then wv p x L (k:Int) else L.getD i default:=fun i=>by
   rw [gdq,List.getElem?_set,gdq]
   by_cases e:i=k
   ·subst e;rw [if_pos rfl,if_pos (by rw [k3.1];omega),if_pos rfl]
    rfl
   rw [if_neg (Ne.symm e),if_neg e]
  refine ⟨⟨by rw [Pk];exact k3.1,fun i hi=>?_⟩,fun i v h hi hwi hc hn=>?_,fun i v h hi hwi hc hn=>?_⟩
  ·rw [hget]
   split
   ·rename_i e;subst e;exact IV hp C k3 hi
   exact k3.2 i hi
  ·rw [hget]
   split
   ·rename_i e;subst e;exact Ei hp C k4 hi hc (by omega)
   exact k4 i v h hi hwi hc hn
  rw [hget]
  split
  ·rename_i e;subst e;exact Ei hp C k4 (by omega) hc hn
  exact k5 i v h (by omega) hwi hc hn
 by_cases e:i=k
 ·subst e;rw [hwi] at hw
  cases hw
 exact k5 i v h (by omega) hwi hc hn
theorem Fu (hp:PV p) (C:Cand p x F):KI (f9 p ⟨x.1,x.2⟩) fun q=>(q.2=true->q.1.length=(evs p).length/\∀ i:Nat,i<(evs p).length->(ev p (i:Int)).aC=true->Chn p x (i:Int) (q.1.getD i default))/\(q.2=false->∃ i:Nat,i<(evs p).length/\(ev p (i:Int)).aC=true/\∀ v,¬ Chn p x (i:Int) v):=by
 have hel:=kJ hp.vs;unfold f9;refine (yE hp.vs).bind fun v1 h1=>?_;subst h1;refine KI.bind (P:=(· = OQ (evs p).length (-1:Int))) ?_ fun K0 hK0=>KI.bind (P:=fun K=>Kn p x K/\Dn p x K (evs p).length) ?_ fun K ⟨hK,hD⟩ => ?_
 ·refine KI.loop (fun z=>∃ n:Nat,n<=(evs p).length/\z=(OQ n (-1:Int),(n:Int))) (fun z=>(((evs p).length:Int)-z.2).toNat) ⟨0,by omega,rfl⟩ fun z ⟨n,n1,n2⟩ => ?_;subst n2;unfold jm;simp only [];refine .bifD (fun hk => .gd (dx (by rw [List.length_replicate];omega) rfl) (.gdI (by omega) (.pure ⟨⟨n+1,by omega,?_⟩,by simp only [];omega⟩))) fun hk => .pure (by rw [show n=(evs p).length by omega]);rw [List.replicate_succ']
  rfl
 ·subst hK0;refine KI.loop (fun z=>∃ n:Nat,n<=(evs p).length/\z.2=(n:Int)/\Kn p x z.1/\Dn p x z.1 n) (fun z=>(((evs p).length:Int)-z.2).toNat) ⟨0,by omega,rfl,⟨by simp,fun i hi => .inl ?_⟩,fun i v h _ _ _ hn=>absurd hn (by omega)⟩ fun z ⟨n,n1,n2,n3,n4⟩ => ?_
  ·simp only [];rw [gdq,Pt,if_pos hi]
   rfl
  obtain ⟨L,zn⟩:=z;simp only at n2 n3 n4;subst n2;unfold iN;simp only [];exact .bifD (fun hk=>(IW hp C n3 n4).bind fun q ⟨q1,q2⟩ => .gdI (by omega) (.pure ⟨⟨n+1,by omega,by simp,q1,q2⟩,by simp only [];omega⟩)) fun hk => .pure ⟨n3,by rw [<- show n=(evs p).length by omega];exact n4⟩
 refine KI.sum (PS:=fun _=>∀ i:Nat,i<(evs p).length->(ev p (i:Int)).aC=true -> ¬ K.getD i default<0) (PW:=fun q:List Int×Bool=>(q.2=true->q.1.length=(evs p).length/\∀ i:Nat,i<(evs p).length->(ev p (i:Int)).aC=true->Chn p x (i:Int) (q.1.getD i default))/\(q.2=false->∃ i:Nat,i<(evs p).length/\(ev p (i:Int)).aC=true/\∀ v,¬ Chn p x (i:Int) v)) ?_ fun _ h => .pure ⟨fun _=>⟨hK.1,fun i hi hw=>?_⟩,fun e=>by cases e⟩
 ·refine KI.loop (fun z=>∃ n:Nat,n<=(evs p).length/\z=(n:Int)/\∀ i:Nat,i<n->(ev p (i:Int)).aC=true -> ¬ K.getD i default<0) (fun z=>(((evs p).length:Int)-z).toNat) ⟨0,by omega,rfl,fun i hi=>absurd hi (by omega)⟩ fun z ⟨n,n1,n2,n3⟩ => ?_;subst n2;unfold mJ;have en:(evs p).getD n default=ev p (n:Int):=by unfold ev;rw [tnn]
  simp only [tnn,en];refine .bifD (fun hk => .gdD ⟨by omega,hk⟩ (KI.bind (P:=(· = ((ev p (n:Int)).aC&&decide (K.getD n default<0)))) (.bif (fun h => .gdD ⟨by omega,by rw [hK.1];exact hk⟩ (.pure (by rw [h,OO]))) fun h => .pure (by rw [h];rfl)) fun v hv => .bif (fun h => .pure ⟨fun e=>(by cases e),fun _=>⟨n,by omega,?_⟩⟩) fun h => .gdI (by omega) (.pure ⟨⟨n+1,by omega,rfl,fun i hi hw=>?_⟩,by omega⟩))) fun hk => .pure fun i hi=>n3 i (by omega)
  ·rw [hv,bae,dte] at h;refine ⟨h.1,fun v hc=>?_⟩;obtain ⟨m,m1,m2⟩:=hc.hc hp C ⟨by omega,by omega⟩;have := hD n v m (by omega) h.1 m2 m1;have := (hc.rng hp C ⟨by omega,by omega⟩).1;omega
  by_cases e:i=n
  ·subst e;rw [hv,hw,OO] at h;exact of_decide_eq_false h
  exact n3 i (by omega) hw
 rcases hK.2 i hi with e | e
 ·exact absurd (by rw [e];decide) (h i hi hw)
 exact e
theorem Ce (hp:PV p) (C:Cand p x F):∃ (V W:LI) (b:Bool),gm p ⟨x.1,x.2⟩=some (V,b)/\f9 p ⟨x.1,x.2⟩=some (W,b)/\(b=true->V.length=(evs p).length/\W.length=(evs p).length/\∀ i:Nat,i<(evs p).length->(ev p (i:Int)).aC=true->Chn p x (i:Int) (V.getD i default)/\W.getD i default=V.getD i default):=by
 obtain ⟨⟨V,b⟩,h1,h2,h3⟩:=Ft hp C;obtain ⟨⟨W,c⟩,g1,g2,g3⟩:=Fu hp C;have e:c=b:=by
  cases b <;> cases c
  ·rfl
  ·obtain ⟨i,i1,i2,i3⟩:=h3 rfl;exact absurd i3 ((g2 rfl).2 i i1 i2).not_cyc
  ·obtain ⟨i,i1,i2,i3⟩:=g3 rfl;exact absurd ((h2 rfl).2 i i1 i2) (i3 _)
  rfl
 subst e;refine ⟨V,W,c,h1,g1,fun e=>⟨(h2 e).1,(g2 e).1,fun i hi hw=>⟨(h2 e).2 i hi hw,?_⟩⟩⟩;exact ((g2 e).2 i hi hw).det ((h2 e).2 i hi hw)
end
theorem yc (x lo hi:Int):KI (ju x lo hi) (· = (decide (lo<=x)&&decide (x<=hi))):=by
 unfold ju;refine KI.bind (P:=(· = (decide (lo<=x)&&decide (x<=hi)))) ?_ fun v hv => .pure hv;refine .bifD (fun h => .pure ?_) fun h => .pure ?_
 ·simp [h]
 simp [h]
theorem Fv {l:List ByteArray} (hl:l.length<=1000) (s:ByteArray):KI (bh l s) fun r=>0<=r↔s∈l:=by
 unfold bh;refine KI.sum (PS:=fun _=>s∉l) (PW:=fun r:Int=>0<=r↔s∈l) ?_ fun _ hn => .pure ⟨fun h=>absurd h (by decide),fun h=>absurd h hn⟩;refine KI.loop (fun z=>∃ i:Nat,i<=l.length/\z=(i:Int)/\∀ j,j<i->l.getD j default≠s) (fun z=>((l.length:Int)-z).toNat) ⟨0,by omega,rfl,fun j hj=>by omega⟩ fun z ⟨i,h1,h2,h3⟩ => ?_;subst h2;unfold dZ;simp only [tnn];refine .bifD (fun hk => .gdD ⟨by omega,hk⟩ (.bifD (fun he => .pure ⟨fun _=>?_,fun _=>by omega⟩) fun he => .gdI (by omega) (.pure ⟨⟨i+1,by omega,rfl,fun j hj=>?_⟩,by omega⟩))) fun hk => .pure ?_
 ·rw [he];exact getD_in (by omega)
 ·by_cases e:j=i
  ·subst e;exact fun h=>he h.symm
  exact h3 j (by omega)
 intro hm;obtain ⟨j,hj,rfl⟩:=OU hm;refine h3 j (by omega) ?_;rw [gdq,geq hj]
 rfl
def nmB (s:ByteArray):Bool:=(vJ).any fun t=>decide (t=s)
theorem yO {s:ByteArray}:nmB s=true↔s∈vJ:=by
 unfold nmB;rw [List.any_eq_true];exact ⟨fun ⟨t,h1,h2⟩=>of_decide_eq_true h2 ▸ h1,fun h=>⟨s,h,decide_eq_true rfl⟩⟩
theorem F7 (s:ByteArray):KI (fq s) (· = nmB s):=by
 unfold fq bG;exact KI.bind (P:=(· = nmB s)) ((Fv (by decide) s).bind fun v hv => .pure (by rw [O4,dte,yO];exact hv)) fun v hv => .pure hv
theorem IX (s:ByteArray):KI (ic s) (· = nmB s):=by
 unfold ic nG;refine KI.bind (P:=(· = vJ)) (.pure rfl) fun l hl=>?_;subst hl;refine KI.sum (PS:=fun _=>s∉vJ) (PW:=(· = nmB s)) ?_ fun _ hn => .pure (Pm.2 fun h=>hn (yO.1 h)).symm;have hlen:(vJ).length=10:=rfl;refine KI.loop (fun z=>∃ i:Nat,i<=10/\z=(i:Int)/\∀ j,j<i->(vJ).getD j default≠s) (fun z=>((10:Int)-z).toNat) ⟨0,by omega,rfl,fun j hj=>by omega⟩ fun z ⟨i,h1,h2,h3⟩ => ?_;subst h2;unfold nV;simp only [tnn,hlen];refine .bifD (fun hk => .gdD ⟨by omega,hk⟩ (.bifD (fun he => .pure ?_) fun he => .gdI (by omega) (.pure ⟨⟨i+1,by omega,rfl,fun j hj=>?_⟩,by omega⟩))) fun hk => .pure ?_
 ·exact (yO.2 (by rw [<- he];exact getD_in (by rw [hlen];omega))).symm
 ·by_cases e:j=i
  ·subst e;exact he
  exact h3 j (by omega)
 intro hm;obtain ⟨j,hj,rfl⟩:=OU hm;refine h3 j (by rw [hlen] at hj;omega) ?_;rw [gdq,geq hj]
 rfl
def Ch (op:Int):Int:=if op=1 then 0 else if op=2\/op=3\/op=4\/op=5 then 2 else if op=6\/op=7 then 1 else -1
theorem G7 (op:Int):KI (jv op) fun v=>v.2.2=Ch op:=by
 unfold jv Ch;refine .bif (fun h => .pure (by rw [if_pos (eq_of_beq h)])) fun h1=>?_;have h1:op≠1:=by simpa using h1
 rw [if_neg h1];refine .bif (fun h => .pure (by rw [if_pos (.inl (eq_of_beq h))])) fun h2=>?_;refine .bif (fun h => .pure (by rw [if_pos (.inr (.inl (eq_of_beq h)))])) fun h3=>?_;refine .bif (fun h => .pure (by rw [if_pos (.inr (.inr (.inl (eq_of_beq h))))])) fun h4=>?_;refine .bif (fun h => .pure (by rw [if_pos (.inr (.inr (.inr (eq_of_beq h))))])) fun h5=>?_;have h2:op≠2:=by simpa using h2
 have h3:op≠3:=by simpa using h3
 have h4:op≠4:=by simpa using h4
 have h5:op≠5:=by simpa using h5
 rw [if_neg (by omega)];refine .bif (fun h => .pure (by rw [if_pos (.inl (eq_of_beq h))])) fun h6=>?_;refine .bif (fun h => .pure (by rw [if_pos (.inr (eq_of_beq h))])) fun h7=>?_;have h6:op≠6:=by simpa using h6
 have h7:op≠7:=by simpa using h7
 rw [if_neg (by omega)];exact .pure rfl
theorem IY (op:Int):KI (jl op) (· = Ch op):=by
 unfold jl Ch;refine .bif (fun h => .pure (by rw [if_pos (eq_of_beq h)])) fun h1=>?_;have h1:op≠1:=by simpa using h1
 rw [if_neg h1];refine KI.bind (P:=(· = decide (op=2\/op=3\/op=4\/op=5))) ?_ fun v hv => .bif (fun h => .pure (by rw [if_pos (of_decide_eq_true (by rw [<- hv];exact h))])) fun h=>?_
 ·refine .bif (fun h => .pure ?_) fun h2 => .bif (fun h => .pure ?_) fun h3 => .bif (fun h => .pure ?_) fun h4 => .pure ?_
  ·rw [h];exact (decide_eq_true (.inl (eq_of_beq h))).symm
  ·rw [h];exact (decide_eq_true (.inr (.inl (eq_of_beq h)))).symm
  ·rw [h];exact (decide_eq_true (.inr (.inr (.inl (eq_of_beq h))))).symm
  have h2:op≠2:=by simpa using h2
  have h3:op≠3:=by simpa using h3
  have h4:op≠4:=by simpa using h4
  rw [Bl];exact decide_eq_decide.2 (by omega)
 rw [if_neg (of_decide_eq_false (by rw [<- hv];exact h))];refine KI.bind (P:=(· = decide (op=6\/op=7))) ?_ fun v hv => .bif (fun h => .pure (by rw [if_pos (of_decide_eq_true (by rw [<- hv];exact h))])) fun h => .pure (by rw [if_neg (of_decide_eq_false (by rw [<- hv];exact h))]);refine .bif (fun h => .pure ?_) fun h6 => .pure ?_
 ·rw [h];exact (decide_eq_true (.inl (eq_of_beq h))).symm
 have h6:op≠6:=by simpa using h6
 rw [Bl];exact decide_eq_decide.2 (by omega)
theorem G8 (op:Int):Ch op<=2:=by
 unfold Ch
 split
 ·omega
 split
 ·omega
 split <;> omega
def okE (e:aa):Bool:=decide ((e.Kids.length:Int)=Ch e.Op)&&(decide (e.Op=1)==nmB e.Name)&&(decide (e.Op=1)||decide (e.Name=⟨#[]⟩))
theorem yP {e:aa} (h:okE e=true):e.Kids.length<=2:=by
 unfold okE at h;simp only [bae,dte] at h;have := G8 e.Op;omega
def szF (f:TXimpl_RelExpr->Int) (c:Int) (k:TXimpl_RelExpr):Int:=if 40<c then c else c+f k
def szD:Nat->TXimpl_RelExpr->Int
 | 0,_=>41
 | d+1,t=>if okE t.out=true then t.out.Kids.foldl (szF (szD d)) 1 else 41
def shD:Nat->TXimpl_RelExpr->Bool
 | 0,_=>false
 | d+1,t=>okE t.out&&t.out.Kids.all (shD d)
def yd:Nat->TXimpl_RelExpr->Int
 | 0,_=>0
 | d+1,t=>t.out.Kids.foldl (fun c k=>c+yd d k) 1
def ctF (f:TXimpl_RelExpr->Int->Int) (most:Int) (n:Int) (k:TXimpl_RelExpr):Int:=if n<=most then n+f k (most-n) else n
def ctD:Nat->TXimpl_RelExpr->Int->Int
 | 0,_,_=>0
 | d+1,t,most=>t.out.Kids.foldl (ctF (ctD d) most) 1
theorem wU {f:TXimpl_RelExpr->Int} (h:∀ k,0<=f k):∀ (l:List TXimpl_RelExpr) (c:Int),c<=l.foldl (fun c k=>c+f k) c
 | [],_=>Int.le_refl _
 | k::l,c=>by
  have := wU h l (c+f k);have := h k;simp only [OV];omega
theorem qw:∀ (d:Nat) (t:TXimpl_RelExpr),0<=yd d t
 | 0,_=>Int.le_refl _
 | d+1,t=>by
  have := wU (qw d) t.out.Kids 1;rw [yd];omega
theorem AJ {f:TXimpl_RelExpr->Int}:∀ (l:List TXimpl_RelExpr) (c:Int),40<c->l.foldl (szF f) c=c
 | [],_,_=>rfl
 | k::l,c,h=>by
  rw [OV,szF,if_pos h];exact AJ l c h
theorem Ej:∀ (d:Nat) (t:TXimpl_RelExpr),0<=szD d t/\szD d t<=41+40*(d:Int)/\(szD d t<=40↔shD d t=true/\yd d t<=40)/\(szD d t<=40->szD d t=yd d t)
 | 0,t=>by refine ⟨?_,?_,?_,?_⟩ <;> simp [szD,shD]
 | d+1,t=>by
  have key:∀ (l:List TXimpl_RelExpr) (c:Int),0<=c->c<=40->(0<=l.foldl (szF (szD d)) c/\l.foldl (szF (szD d)) c<=81+40*(d:Int)/\(l.foldl (szF (szD d)) c<=40↔l.all (shD d)=true/\l.foldl (fun c k=>c+yd d k) c<=40)/\(l.foldl (szF (szD d)) c<=40->l.foldl (szF (szD d)) c=l.foldl (fun c k=>c+yd d k) c)):=by
   intro l
   induction l with
   | nil=>intro c h0 h;refine ⟨h0,?_,?_,?_⟩ <;> simp <;> omega
   | cons k l ih=>
    intro c h0 h;obtain ⟨i1,i2,i3,i4⟩:=Ej d k;have hp:=qw d k;simp only [OV,O7,bae];rw [szF,if_neg (by omega)]
    by_cases hb:40<c+szD d k
    ·rw [AJ l _ hb];refine ⟨by omega,by omega,⟨fun h=>absurd h (by omega),fun ⟨⟨g1,_⟩,g2⟩ => ?_⟩,fun h=>absurd h (by omega)⟩;have hg:=wU (qw d) l (c+yd d k);have := i4 (i3.2 ⟨g1,by omega⟩);omega
    have e:=i4 (by omega);have s:=(i3.1 (by omega)).1;obtain ⟨j1,j2,j3,j4⟩:=ih (c+szD d k) (by omega) (by omega);rw [e] at j1 j2 j3 j4 ⊢;exact ⟨j1,j2,⟨fun h=>⟨⟨s,(j3.1 h).1⟩,(j3.1 h).2⟩,fun h=>j3.2 ⟨h.1.2,h.2⟩⟩,j4⟩
  rw [szD,shD,yd]
  by_cases ho:okE t.out=true
  ·rw [if_pos ho,ho,OO];obtain ⟨k1,k2,k3,k4⟩:=key t.out.Kids 1 (by omega) (by omega);exact ⟨k1,by omega,k3,k4⟩
  rw [if_neg ho,show okE t.out=false by simpa using ho,Bool.false_and];exact ⟨by omega,by omega,⟨fun h=>absurd h (by omega),fun h=>absurd h.1 (by simp)⟩,fun h=>absurd h (by omega)⟩
theorem yQ {f:TXimpl_RelExpr->Int->Int} {most:Int}:∀ (l:List TXimpl_RelExpr) (c:Int),most<c->l.foldl (ctF f most) c=c
 | [],_,_=>rfl
 | k::l,c,h=>by
  rw [OV,ctF,if_neg (by omega)];exact yQ l c h
theorem Ek:∀ (d:Nat) (t:TXimpl_RelExpr) (most:Int),shD d t=true->1<=ctD d t most/\ctD d t most<=yd d t/\(ctD d t most<=most->ctD d t most=yd d t)
 | 0,_,_,h=>by simp [shD] at h
 | d+1,t,most,h=>by
  rw [shD,bae] at h;have key:∀ (l:List TXimpl_RelExpr) (c:Int),l.all (shD d)=true->1<=c->(1<=l.foldl (ctF (ctD d) most) c/\l.foldl (ctF (ctD d) most) c<=l.foldl (fun c k=>c+yd d k) c/\(l.foldl (ctF (ctD d) most) c<=most->l.foldl (ctF (ctD d) most) c=l.foldl (fun c k=>c+yd d k) c)):=by
   intro l
   induction l with
   | nil=>intro c _ h;exact ⟨h,Int.le_refl _,fun _=>rfl⟩
   | cons k l ih=>
    intro c ha h;rw [O7,bae] at ha;obtain ⟨i1,i2,i3⟩:=Ek d k (most-c) ha.1;simp only [OV];rw [ctF]
    by_cases hm:c<=most
    ·rw [if_pos hm];obtain ⟨j1,j2,j3⟩:=ih (c+ctD d k (most-c)) ha.2 (by omega)
     by_cases hb:ctD d k (most-c)<=most-c
     ·rw [i3 hb] at j1 j2 j3 ⊢;exact ⟨j1,j2,j3⟩
     rw [yQ l _ (by omega)];have := wU (qw d) l (c+yd d k);exact ⟨by omega,by omega,fun h=>absurd h (by omega)⟩
    rw [if_neg hm,yQ l _ (by omega)];have := wU (qw d) l (c+yd d k);have := qw d k;exact ⟨by omega,by omega,fun h=>absurd h (by omega)⟩
  rw [ctD,yd];exact key t.out.Kids 1 h.2 (by omega)
def vaE (t:TXimpl_RelExpr):Bool:=shD 12 t&&decide (yd 12 t<=40)
theorem yf {α:Type} [Inhabited α] {f:Int->α->Int} {l:List α} {i:Nat} (h:i<l.length) (c:Int):(l.take (i+1)).foldl f c=f ((l.take i).foldl f c) (l.getD i default):=by
 rw [List.take_add_one,geq h];simp only [Option.toList_some,Pn,OV,O8];rw [gdq,geq h]
 rfl
theorem IZ (t:TXimpl_RelExpr):(⟨t.out.Op,t.out.Name,t.out.Kids⟩:aa)=t.out:=rfl
theorem F8 {e:aa} {d:Nat} {v:Int} (hv:v=Ch e.Op):KI (bif ((d:Int)==(0:Int)) then some true else bif ((e.Kids.length:Int) != v) then some true else OM (fq e.Name) fun v6=>bif (!((e.Op==(1:Int))==v6)) then some true else bif (e.Op != (1:Int)) then some (!decide (e.Name=(⟨#[]⟩:ByteArray))) else some false) (· = !(decide (d≠0)&&okE e)):=by
 subst hv;refine .bif (fun h => .pure ?_) fun h0 => .bif (fun h => .pure ?_) fun h1=>(F7 e.Name).bind fun w hw=>?_
 ·rw [decide_eq_false (fun e=>e (by have := eq_of_beq h;omega))];rfl
 ·unfold okE;rw [decide_eq_false (show ¬ (e.Kids.length:Int)=Ch e.Op by simpa using h)];simp
 subst hw;have hd:d≠0:=fun e=>by subst e;simp at h0
 have h1:(e.Kids.length:Int)=Ch e.Op:=by simpa using h1
 unfold okE;rw [decide_eq_true hd,decide_eq_true h1,Bl];refine .bif (fun h => .pure ?_) fun h => .bif (fun h2 => .pure ?_) fun h2 => .pure ?_
 ·rw [show (decide (e.Op=1)==nmB e.Name)=false by simpa using h];rfl
 ·rw [show (decide (e.Op=1)==nmB e.Name)=true by simpa using h,decide_eq_false (show ¬ e.Op=1 by simpa using h2)];simp
 rw [show (decide (e.Op=1)==nmB e.Name)=true by simpa using h,decide_eq_true (show e.Op=1 by simpa using h2)]
 rfl
theorem F9:∀ (d n:Nat) (t:TXimpl_RelExpr),d<n->d<=12->KI (cV n t.out (d:Int)) (· = szD d t)
 | d,0,_,h,_=>absurd h (O0 _)
 | d,n+1,t,h,h12=>by
  show KI (iE (cV n) t.out (d:Int)) _;unfold iE;refine (G7 t.out.Op).bind fun v hv=>?_;refine KI.sum (PS:=fun _=>d≠0/\okE t.out=true) (PW:=(· = szD d t)) ((F8 hv).bind fun b hb => .bif (fun h => .pure ?_) fun h => .pure ?_) fun _ ⟨hd,ho⟩ => ?_
  ·rw [hb] at h;show (41:Int)=szD d t
   cases d with
   | zero=>rfl
   | succ d=>
    rw [szD,if_neg];intro ho;rw [ho] at h;simp at h
  ·rw [hb] at h;simpa using h
  obtain ⟨d,rfl⟩:∃ c,d=c+1:=⟨d-1,by omega⟩;have hk:=yP ho;rw [szD,if_pos ho];refine KI.bind (P:=(· = t.out.Kids.foldl (szF (szD d)) 1)) ?_ fun v hv => .pure hv;refine KI.loop (fun z=>∃ i:Nat,i<=t.out.Kids.length/\z=((i:Int),(t.out.Kids.take i).foldl (szF (szD d)) 1)/\(t.out.Kids.take i).foldl (szF (szD d)) 1<=40/\0<=(t.out.Kids.take i).foldl (szF (szD d)) 1) (fun z=>((t.out.Kids.length:Int)-z.1).toNat) ⟨0,by omega,rfl,by simp,by simp⟩ fun z ⟨i,i1,i2,i3,i4⟩ => ?_;subst i2;unfold m9;simp only [tnn];refine .bifD (fun hlt=>?_) fun hlt => .pure ?_
  ·have hil:i<t.out.Kids.length:=by omega
   have ht:=yf (f:=szF (szD d)) hil 1;rw [szF,if_neg (by omega)] at ht;obtain ⟨b1,b2,_,_⟩:=Ej d (t.out.Kids.getD i default);refine .gdD ⟨by omega,hlt⟩ (.gdI (by omega) ?_);rw [IZ,show ((d+1:Nat):Int)-1=(d:Int) by omega];refine (F9 d n _ (by omega) (by omega)).bind fun v hv=>?_;subst hv;refine .gdI (by omega) (.bifD (fun hb => .pure ?_) fun hb => .gdI (by omega) (.pure ⟨⟨i+1,by omega,by rw [ht];rfl,by rw [ht];omega,by rw [ht];omega⟩,by simp only [];omega⟩));show _=t.out.Kids.foldl (szF (szD d)) 1;have e:=Pu (i+1) t.out.Kids
   conv=>rhs;rw [<- e,Pn,ht,AJ _ _ hb]
  show _=t.out.Kids.foldl (szF (szD d)) 1;rw [Pj (by omega)]
theorem I0 (t:TXimpl_RelExpr):KI (eT t.out) (· = vaE t):=by
 unfold eT;refine KI.bind (P:=(· = szD 12 t)) (mh 12 fun m hm=>F9 12 m t hm (by omega)) fun v hv => .pure ?_;subst hv;unfold vaE;rw [O4,bae,dte,dte];exact (Ej 12 t).2.2.1
theorem El:∀ (d n:Nat) (t:TXimpl_RelExpr),d<n->d<=12->KI (cQ n t.out (d:Int)) (· = shD d t)
 | d,0,_,h,_=>absurd h (O0 _)
 | d,n+1,t,h,h12=>by
  show KI (iy (cQ n) t.out (d:Int)) _;unfold iy;have test:KI (bif decide ((d:Int)<(1:Int)) then some true else OM (jl t.out.Op) fun v4=>bif ((t.out.Kids.length:Int) != v4) then some true else OM (ic t.out.Name) fun v6=>bif (!((t.out.Op==(1:Int))==v6)) then some true else bif (t.out.Op != (1:Int)) then some (!decide (t.out.Name=(⟨#[]⟩:ByteArray))) else some false) (· = !(decide (d≠0)&&okE t.out)):=by
   refine .bifD (fun h => .pure ?_) fun h0=>(IY _).bind fun v4 h4=>?_
   ·rw [decide_eq_false (fun e=>e (by omega))];rfl
   have hh:=F8 (e:=t.out) (d:=d) h4;rw [show ((d:Int)==(0:Int))=false from (Bl _ _).trans (decide_eq_false (by omega))] at hh;obtain ⟨w,w1,w2⟩:=F7 t.out.Name;obtain ⟨w',w1',w2'⟩:=IX t.out.Name;rw [w1] at hh;rw [w1',w2',<- w2];exact hh
  refine KI.sum (PS:=fun _=>d≠0/\okE t.out=true) (PW:=(· = shD d t)) (test.bind fun b hb => .bif (fun h => .pure ?_) fun h => .pure ?_) fun _ ⟨hd,ho⟩ => ?_
  ·rw [hb] at h;show false=shD d t
   cases d with
   | zero=>rfl
   | succ d=>
    rw [shD]
    cases ho:okE t.out
    ·rfl
    rw [ho] at h;simp at h
  ·rw [hb] at h;simpa using h
  obtain ⟨d,rfl⟩:∃ c,d=c+1:=⟨d-1,by omega⟩;have hk:=yP ho;rw [shD,ho,OO];refine KI.sum (PS:=fun _=>t.out.Kids.all (shD d)=true) (PW:=(· = t.out.Kids.all (shD d))) ?_ fun _ h => .pure h.symm;refine KI.loop (fun z=>∃ i:Nat,i<=t.out.Kids.length/\z=(i:Int)/\∀ j,j<i->shD d (t.out.Kids.getD j default)=true) (fun z=>((t.out.Kids.length:Int)-z).toNat) ⟨0,by omega,rfl,fun j hj=>absurd hj (by omega)⟩ fun z ⟨i,i1,i2,i3⟩ => ?_;subst i2;unfold mZ;simp only [tnn];refine .bifD (fun hlt=>?_) fun hlt => .pure ?_
  ·refine .gdD ⟨by omega,hlt⟩ (.gdI (by omega) ?_);rw [show ((d+1:Nat):Int)-1=(d:Int) by omega];refine (El d n _ (by omega) (by omega)).bind fun v hv => .bif (fun hb => .pure ?_) fun hb => .gdI (by omega) (.pure ⟨⟨i+1,by omega,rfl,fun j hj=>?_⟩,by omega⟩)
   ·show false=_
    symm
    rw [Pm];intro ha;have := OW.1 ha _ (getD_in (show i<t.out.Kids.length by omega));rw [<- hv] at this;rw [this] at hb
    cases hb
   by_cases e:j=i
   ·subst e;rw [<- hv];simpa using hb
   exact i3 j (by omega)
  show t.out.Kids.all (shD d)=true;rw [OW];intro k hkm;obtain ⟨j,hj,rfl⟩:=OU hkm;have := i3 j (by omega)
  rwa [gdq,geq hj] at this
theorem yR:∀ (d:Nat) (t:TXimpl_RelExpr),shD d t=true->yd d t<3 ^ d
 | 0,_,h=>by simp [shD] at h
 | d+1,t,h=>by
  rw [shD,bae] at h;have hk:=yP h.1;have hp:(1:Int)<=3 ^ d:=by
   have := Pd (n:=3) (by omega) (Nat.zero_le d);have e:(3:Int) ^ d=((3 ^ d:Nat):Int):=by simp
   rw [e];omega
  rw [yd,Int.pow_succ]
  match t.out.Kids,hk,h.2 with
  | [],_,_=>simp only [O8];omega
  | [a],_,h2=>
   have := yR d a (by simpa using h2);simp only [OV,O8];omega
  | [a,b],_,h2=>
   simp only [O7,List.all_nil,Bool.and_true,bae] at h2;have := yR d a h2.1;have := yR d b h2.2;simp only [OV,O8];omega
  | a::b::c::l,hk,_=>simp at hk
theorem I1:∀ (d n:Nat) (t:TXimpl_RelExpr) (most:Int),d<n->d<=12->shD d t=true->0<=most->most<=40->KI (cT n t.out most) (· = ctD d t most)
 | d,0,_,_,h,_,_,_,_=>absurd h (O0 _)
 | 0,_+1,_,_,_,_,h,_,_=>by simp [shD] at h
 | d+1,n+1,t,most,h,h12,hs,h0,h40=>by
  show KI (iz (cT n) t.out most) _;unfold iz;have hs':=hs;rw [shD,bae] at hs;have hk:=yP hs.1;rw [ctD];refine KI.bind (P:=(· = t.out.Kids.foldl (ctF (ctD d) most) 1)) ?_ fun v hv => .pure hv;refine KI.loop (fun z=>∃ i:Nat,i<=t.out.Kids.length/\z=((i:Int),(t.out.Kids.take i).foldl (ctF (ctD d) most) 1)/\0<=(t.out.Kids.take i).foldl (ctF (ctD d) most) 1) (fun z=>((t.out.Kids.length:Int)-z.1).toNat) ⟨0,by omega,rfl,by simp⟩ fun z ⟨i,i1,i2,i4⟩ => ?_;subst i2;unfold nW;simp only [tnn];refine KI.bind (P:=(· = decide (i<t.out.Kids.length/\(t.out.Kids.take i).foldl (ctF (ctD d) most) 1<=most))) (.bifD (fun hlt => .pure (decide_eq_decide.2 ⟨fun h=>⟨by omega,h⟩,fun h=>h.2⟩)) fun hlt => .pure (decide_eq_false (by omega)).symm) fun b hb => .bif (fun hbt=>?_) fun hbf => .pure ?_
  ·obtain ⟨hil,hle⟩:=of_decide_eq_true (hb.symm.trans hbt);have ht:=yf (f:=ctF (ctD d) most) hil 1;rw [ctF,if_pos hle] at ht;have hsk:=OW.1 hs.2 _ (getD_in hil);obtain ⟨b1,b2,_⟩:=Ek d (t.out.Kids.getD i default) (most-(t.out.Kids.take i).foldl (ctF (ctD d) most) 1) hsk;have b3:=yR d _ hsk;have b4:(3:Int) ^ d<=531441:=by
    have := Pd (n:=3) (by omega) (show d<=12 by omega);have e:(3:Int) ^ d=((3 ^ d:Nat):Int):=by simp
    rw [e];have : 3 ^ 12=531441:=by decide
    omega
   refine .gdD ⟨by omega,by omega⟩ (.gdI (by omega) ((I1 d n _ _ (by omega) (by omega) hsk (by omega) (by omega)).bind fun v hv=>?_));subst hv;exact .gdI (by omega) (.gdI (by omega) (.pure ⟨⟨i+1,by omega,by rw [ht];rfl,by rw [ht];omega⟩,by simp only [];omega⟩))
  have hn:=of_decide_eq_false (hb.symm.trans hbf);show _=t.out.Kids.foldl (ctF (ctD d) most) 1
  by_cases hil:i<t.out.Kids.length
  ·have e:=Pu i t.out.Kids
   conv=>rhs;rw [<- e,Pn]
   rw [yQ (t.out.Kids.drop i) _ (by omega)]
  rw [Pj (by omega)]
theorem I2 (t:TXimpl_RelExpr):KI (eH t.out) (· = vaE t):=by
 unfold eH vaE;refine KI.bind (P:=(· = shD 12 t)) (mh 12 fun m hm=>El 12 m t hm (by omega)) fun b hb=>?_;refine KI.bind (P:=(· = (shD 12 t&&decide (yd 12 t<=40)))) (.bif (fun h=>?_) fun h => .pure (by rw [<- hb,h];rfl)) fun v hv => .pure hv;rw [hb] at h;refine KI.bind (P:=(· = ctD 12 t 40)) (mh 12 fun m hm=>I1 12 m t 40 hm (by omega) h (by omega) (by omega)) fun v hv => .pure ?_;subst hv;obtain ⟨b1,b2,b3⟩:=Ek 12 t 40 h;rw [h,OO];exact decide_eq_decide.2 ⟨fun g=>by rw [b3 g] at g;exact g,fun g=>by omega⟩
def vaR (r:ae):Bool:=decide (1<=r.Kind)&&decide (r.Kind<=3)&&vaE r.Expr.inn
def vaM (m:List ae):Bool:=decide (1<=m.length)&&decide (m.length<=5)&&m.all vaR
theorem G9 {m:List ae} (hl:m.length<=4000000):KI (gL m) (· = vaM m):=by
 unfold gL vaM;refine (yc _ _ _).bind fun v hv=>?_;subst hv;refine KI.bind (P:=(· = (decide (1<=m.length)&&decide (m.length<=5)&&m.all vaR))) (.bif (fun h=>?_) fun h => .pure ?_) fun v hv => .pure hv
 ·have hb:(decide (1<=m.length)&&decide (m.length<=5))=true:=by
   simp only [bae,dte] at h ⊢;omega
  rw [hb,OO];unfold aF aG;refine KI.bind (P:=(· = !m.all vaR)) (KI.bind (P:=fun v:Int=>(0<=v↔m.all vaR=false)) ?_ fun v hv => .pure ?_) fun v hv => .pure (by rw [hv,Bool.not_not])
  ·refine KI.sum (PS:=fun _=>m.all vaR=true) (PW:=fun v:Int=>(0<=v↔m.all vaR=false)) ?_ fun _ hn => .pure (by rw [hn];simp);refine KI.loop (fun z=>∃ i:Nat,i<=m.length/\z=(i:Int)/\∀ j,j<i->vaR (m.getD j default)=true) (fun z=>((m.length:Int)-z).toNat) ⟨0,by omega,rfl,fun j hj=>by omega⟩ fun z ⟨i,h1,h2,h3⟩ => ?_;subst h2;unfold aN iR;simp only [tnn];refine .bifD (fun hk => .gdD ⟨by omega,hk⟩ (KI.bind (P:=(· = !vaR (m.getD i default))) ((yc _ _ _).bind fun w hw=>?_) fun w hw => .bif (fun hb => .pure ⟨fun _=>?_,fun _=>by omega⟩) fun hb => .gdI (by omega) (.pure ⟨⟨i+1,by omega,rfl,fun j hj=>?_⟩,by omega⟩))) fun hk => .pure ?_
   ·subst hw;refine KI.bind (P:=(· = !vaR (m.getD i default))) (.bif (fun hn => .pure ?_) fun hn=>(I0 (m.getD i default).Expr.inn).bind fun u hu => .pure ?_) fun u hu => .pure hu
    ·unfold vaR;rw [show (decide (1<=(m.getD i default).Kind)&&decide ((m.getD i default).Kind<=3))=false from (Pb _).mp hn]
     rfl
    unfold vaR;rw [show (decide (1<=(m.getD i default).Kind)&&decide ((m.getD i default).Kind<=3))=true from (Bool.not_eq_false' _).mp hn,hu]
    rfl
   ·rw [List.all_eq_false];refine ⟨m.getD i default,getD_in (by omega),?_⟩;rw [hw] at hb;simpa using hb
   ·by_cases e:j=i
    ·subst e;rw [hw] at hb;simpa using hb
    exact h3 j (by omega)
   show m.all vaR=true;rw [OW];intro r hr;obtain ⟨j,hj,rfl⟩:=OU hr;have := h3 j (by omega)
   rwa [gdq,geq hj] at this
  show decide ((0:Int)<=v)=_
  cases h:m.all vaR with
  | true=>exact decide_eq_false fun e=>by rw [hv.1 e] at h;cases h
  | false=>exact decide_eq_true (hv.2 h)
 have hb:(decide (1<=m.length)&&decide (m.length<=5))=false:=by
  simp only [Pv,decide_eq_false_iff_not] at h ⊢;omega
 rw [hb]
 rfl
theorem Ha {m:List ae} (hl:m.length<=4000000):KI (gH m) (· = vaM m):=by
 unfold gH;refine KI.sum (PS:=fun _=>∀ j,j<m.length->j<=5->vaR (m.getD j default)=true) (PW:=(· = vaM m)) ?_ fun _ h=>?_
 ·refine KI.loop (fun z=>∃ i:Nat,i<=m.length/\z=(i:Int)/\∀ j,j<i->vaR (m.getD j default)=true) (fun z=>((m.length:Int)-z).toNat) ⟨0,by omega,rfl,fun j hj=>by omega⟩ fun z ⟨i,h1,h2,h3⟩ => ?_;subst h2;unfold lS;simp only [tnn];refine KI.bind (P:=(· = decide (i<m.length/\i<=5))) (.bifD (fun hlt => .pure (decide_eq_decide.2 ⟨fun h=>⟨by omega,by omega⟩,fun h=>by omega⟩)) fun hlt => .pure (decide_eq_false (by omega)).symm) fun b hb => .bif (fun hbt=>?_) fun hbf => .pure ?_
  ·obtain ⟨hil,hle⟩:=of_decide_eq_true (hb.symm.trans hbt);refine .gdD ⟨by omega,by omega⟩ (KI.bind (P:=(· = !(decide (1<=(m.getD i default).Kind)&&decide ((m.getD i default).Kind<=3)))) (.bifD (fun h => .pure ?_) fun h => .pure ?_) fun w hw=>KI.bind (P:=(· = !vaR (m.getD i default))) (.bif (fun hn => .pure ?_) fun hn=>(I2 (m.getD i default).Expr.inn).bind fun u hu => .pure ?_) fun u hu => .bif (fun hu2 => .pure ?_) fun hu2 => .gdI (by omega) (.pure ⟨⟨i+1,by omega,rfl,fun j hj=>?_⟩,by omega⟩))
   ·rw [decide_eq_false (show ¬ 1<=(m.getD i default).Kind by omega)];rfl
   ·rw [decide_eq_true (show 1<=(m.getD i default).Kind by omega),OO,<- decide_not];exact decide_eq_decide.2 (by omega)
   ·unfold vaR;rw [hw] at hn;rw [show (decide (1<=(m.getD i default).Kind)&&decide ((m.getD i default).Kind<=3))=false from (Pb _).mp hn]
    rfl
   ·unfold vaR;rw [hw] at hn;rw [show (decide (1<=(m.getD i default).Kind)&&decide ((m.getD i default).Kind<=3))=true from (Bool.not_eq_false' _).mp hn,hu]
    rfl
   ·show false=vaM m
    symm
    unfold vaM;rw [Pv];refine .inr (List.all_eq_false.2 ⟨m.getD i default,getD_in hil,?_⟩);rw [hu] at hu2;simpa using hu2
   by_cases e:j=i
   ·subst e;rw [hu] at hu2;simpa using hu2
   exact h3 j (by omega)
  have hn:=of_decide_eq_false (hb.symm.trans hbf);intro j hj h5;exact h3 j (by omega)
 refine KI.bind (P:=(· = vaM m)) (.bifD (fun h0 => .pure ?_) fun h0 => .pure ?_) fun v hv => .pure hv
 ·unfold vaM;rw [decide_eq_true (show 1<=m.length by omega),OO]
  by_cases h5:m.length<=5
  ·rw [decide_eq_true h5,decide_eq_true (show (m.length:Int)<=5 by omega),OO]
   symm
   rw [OW];intro r hr;obtain ⟨j,hj,rfl⟩:=OU hr;have := h j hj (by omega)
   rwa [gdq,geq hj] at this
  rw [decide_eq_false h5,decide_eq_false (show ¬ (m.length:Int)<=5 by omega)]
  rfl
 unfold vaM;rw [decide_eq_false (show ¬ 1<=m.length by omega)]
 rfl
theorem I3:∀ (d:Nat) (t:TXimpl_RelExpr),shD d t=true->VT t
 | 0,_,h=>by simp [shD] at h
 | d+1,.mk op nm ks,h=>by
  rw [shD,bae] at h;obtain ⟨h1,h2⟩:=h;have hall:∀ l:List TXimpl_RelExpr,l.all (shD d)=true->VL l:=by
   intro l
   induction l with
   | nil=>intro _;rw [VL];trivial
   | cons a l ih=>
    intro ha;rw [O7,bae] at ha;rw [VL];exact ⟨I3 d a ha.1,ih ha.2⟩
  have hks:=hall ks h2;unfold okE at h1;rw [bae,bae] at h1;obtain ⟨⟨g1,g2⟩,_⟩:=h1;have g1:(ks.length:Int)=Ch op:=of_decide_eq_true g1;have g2:(decide (op=1)==nmB nm)=true:=g2;rw [VT];unfold Ch at g1
  by_cases o1:op=1
  ·subst o1;refine .inl ⟨rfl,?_⟩;have : nmB nm=true:=by simpa using g2
   exact yO.1 this
  rw [if_neg o1] at g1
  by_cases o2:op=2\/op=3\/op=4\/op=5
  ·rw [if_pos o2] at g1;exact .inr (.inr ⟨o2,by omega,hks⟩)
  rw [if_neg o2] at g1
  by_cases o3:op=6\/op=7
  ·rw [if_pos o3] at g1;exact .inr (.inl ⟨o3,by omega,hks⟩)
  rw [if_neg o3] at g1;omega
theorem I4 {m:List ae} (h:vaM m=true):(∀ r∈m,VT r.Expr.inn)/\m.length<=5:=by
 unfold vaM at h;simp only [bae,dte] at h;refine ⟨fun r hr=>?_,h.1.2⟩;have := OW.1 h.2 r hr;unfold vaR vaE at this;simp only [bae] at this;exact I3 12 _ this.2.1
def Le {α:Type} (a b:Option α):Prop:=∀ q,a=some q->b=some q
theorem Le.refl {α:Type} (a:Option α):Le a a:=fun _ h=>h
theorem Le.bind {α β:Type} {a b:Option α} {k l:α->Option β} (h:Le a b) (hk:∀ x,Le (k x) (l x)):Le (a.bind k) (b.bind l):=fun q hq=>by
 obtain ⟨x,h1,h2⟩:=Pw.1 hq;exact Pw.2 ⟨x,h x h1,hk x q h2⟩
theorem Le.gd {α:Type} {a b:Option α} (c:Bool) (h:Le a b):Le (gd c a) (gd c b):=fun q hq=>by
 obtain ⟨h1,h2⟩:=gdL hq;rw [tz h1];exact h q h2
theorem Le.bif {α:Type} {a b a' b':Option α} (c:Bool) (h:Le a a') (h':Le b b'):Le (bif c then a else b) (bif c then a' else b'):=by
 cases c
 ·exact h'
 exact h
theorem Le.ifc {α:Type} {a b a' b':Option α} (c:Prop) [Decidable c] (h:Le a a') (h':Le b b'):Le (if c then a else b) (if c then a' else b'):=by
 split
 ·exact h
 exact h'
theorem Le.sumK {S W:Type} {a b:Option (S ⊕ W)} {k l:S->Option W} (h:Le a b) (hk:∀ x,Le (k x) (l x)):Le (sumK a k) (sumK b l):=fun q hq=>by
 cases a with
 | none=>cases hq
 | some z=>
  rw [h z rfl]
  cases z with
  | inl s=>exact hk s q hq
  | inr w=>exact hq
def Ga {S E:Type} (n:Nat) (step:S->Option (S ⊕ E)) (s:S):Option E:=
 Nat.rec (motive:=fun _=>S->Option E) (fun _=>none) (fun _ ih s=>match step s with
  | none=>none
  | some (.inl s')=>ih s'
  | some (.inr e)=>some e) n s
theorem Le.loop {S E:Type} {n:Nat} {step step':S->Option (S ⊕ E)} (h:∀ s,Le (step s) (step' s)) (s:S):Le (Ga n step s) (loopO step' s):=by
 induction n generalizing s with
 | zero=>intro q hq;cases hq
 | succ n ih=>
  intro q hq;rw [A8]
  change (match step s with
   | none=>none
   | some (.inl s')=>Ga n step s'
   | some (.inr e)=>some e)=some q at hq
  match hs:step s with
  | none=>rw [hs] at hq;cases hq
  | some (.inl s')=>
   rw [hs] at hq;rw [h s _ hs];exact ih s' q hq
  | some (.inr e)=>
   rw [hs] at hq;rw [h s _ hs];exact hq
def JH {α:Type} (e:Bool) (_ b:Option α):Option α:=bif e then none else b
theorem Le.nilK {α:Type} {e:Bool} {a b a' b':Option α} (_:Le a a') (h:Le b b'):Le (JH e a b) (nilK e a' b'):=fun q hq=>by
 cases e with
 | true=>cases hq
 | false=>
  unfold Go.Proofs.YtpkhamajimidnaaGreatDoor.nilK;exact h q hq
def dA (n:Int):Option ByteArray:=bif decide (0<=n/\n<=9) then some (strOfNums ([((48:Int)+n)]:LI)++(⟨#[]⟩:ByteArray)) else none
theorem strOfNums_size (l:LI):(strOfNums l).size=l.length:=by
 simp [strOfNums,ByteArray.size]
theorem lL (n:Int):Le (dA n) (df n):=by
 intro v h;unfold dA at h
 by_cases hn:0<=n/\n<=9
 ·rw [decide_eq_true hn] at h;obtain rfl:=osl h;refine CX 1 fun k hk=>?_
  match k,hk with
  | k+1,_=>
   show jp (gb k) n=_;refine KI.eq ?_;unfold jp;refine .bifD (fun h=>by omega) fun _ => .bifD (fun h=>by omega) fun _=>?_;refine KI.bind (P:=(· = ((⟨#[]⟩:ByteArray),n))) ?_ fun s hs=>?_
   ·refine KI.loop (fun s=>s=((⟨#[]⟩:ByteArray),n)) (fun _=>0) rfl fun s hs=>?_;subst hs;unfold nZ;exact .bifD (fun h=>by simp only [] at h;omega) fun _ => .pure rfl
   subst hs;refine .gdI (by simp only [];omega) (.gdY (by simp only [];omega) (.gdD ?_ (.pure rfl)));rw [strOfNums_size];exact nlb rfl
 rw [decide_eq_false hn] at h
 cases h
end
end Go.Proofs.YtpkhamajimidnaaGreatDoor
