/- Texts joined. No conditions. -/
import Derived.Test.YtabfkkjdfhbngaaGreatDoorQ6
namespace Go.Proofs.YtabfkkjdfhbngaaGreatDoor
noncomputable section
open _root_.Inhabited renaming default -> Nj
open _root_.Bool renaming true -> Nk
open _root_.Bool renaming false -> Nl
open _root_.Option renaming some -> Nn
open _root_.Option renaming none -> Np
open _root_.Decidable renaming decide -> Nq
open _root_.Option renaming bind -> Rq, bind_eq_some_iff -> RI
open _root_.List renaming replicate -> Rs, mem_singleton -> Ru, mem_range -> Rw, mem_map -> Rx, mem_filter -> Ry, ext_getElem -> RB, map_congr_left -> RH
open _root_.BitVec renaming ofInt -> Rt, ofInt_natCast -> RE, toNat_ofNat -> RF
open _root_.Nat renaming and_le_left -> Rv, not_succ_le_zero -> Rz, le_of_succ_le_succ -> RA
open _root_.Bool renaming eq_iff_iff -> RD
open _root_.List.Pairwise renaming imp_of_mem -> RG
open Go.RowKit
set_option maxRecDepth 100000
section
variable {p:List (List M5)} {x:XS} {F:LI}
def lrC (p:List<|List M5) (t idx reg:Int) (e:M7):Bool:=Nq (e.Thread=t)&&Nq (e.Index<idx)&&e.Reads&&(((p.getD t.toNat Nj).getD e.Index.toNat Nj).Reg==reg)
def lrN (p:List<|List M5) (t idx reg:Int):Nat->Int
 | 0 => -1
 | n+1=>if lrC p t idx reg (ev p (n:Int))=Nk then (n:Int) else lrN p t idx reg n
def lrd (p:List<|List M5) (t idx reg:Int):Int:=lrN p t idx reg (evs p).length
theorem I1 {t idx reg:Int}:∀ (n:Nat),(lrN p t idx reg n = -1/\∀ i:Nat,i<n->lrC p t idx reg (ev p (i:Int))=Nl)\/∃ r:Nat,r<n/\lrN p t idx reg n=(r:Int)/\lrC p t idx reg (ev p (r:Int))=Nk/\∀ i:Nat,i<n->r<i->lrC p t idx reg (ev p (i:Int))=Nl
 | 0 => .inl ⟨rfl,λi h=>absurd h<|Nat.not_lt_zero _⟩
 | n+1=>by
  by_cases h:lrC p t idx reg (ev p (n:Int))=Nk
  ·exact .inr ⟨n,by omega,if_pos h,h,λi h1 h2=>by omega⟩
  have e:lrN p t idx reg (n+1)=lrN p t idx reg n:=if_neg h;have hf:lrC p t idx reg (ev p (n:Int))=Nl:=by simpa using h
  rcases I1 n with ⟨h1,h2⟩ | ⟨r,h1,h2,h3,h4⟩
  ·refine .inl ⟨e.trans h1,λi hi=>?_⟩
   by_cases ei:i=n
   ·subst ei;exact hf
   exact h2 i (by omega)
  grind
theorem Au (t idx reg:Int):(lrd p t idx reg = -1/\∀ i:Nat,i<(evs p).length->lrC p t idx reg (ev p (i:Int))=Nl)\/∃ r:Nat,r<(evs p).length/\lrd p t idx reg=(r:Int)/\lrC p t idx reg (ev p (r:Int))=Nk/\∀ i:Nat,i<(evs p).length->r<i->lrC p t idx reg (ev p (i:Int))=Nl:=I1 _
theorem xc {t idx reg:Int} {e:M7}:lrC p t idx reg e=Nk↔e.Thread=t/\e.Index<idx/\e.Reads=Nk/\((p.getD t.toNat Nj).getD e.Index.toNat Nj).Reg=reg:=by
 unfold lrC
 grind
theorem I2 (hp:PV p) {n:Int} (h0:0<=n) (h:n<((evs p).length:Int)) (ht : ¬ (ev p n).Thread<0):∃ t k:Nat,Isn p t k/\n=(base p t k:Int)/\(ev p n).Thread=(t:Int)/\(ev p n).Index=(k:Int):=by
 rcases vZ h0 h with hc | ⟨t,k,hI,rfl⟩
 ·exfalso;have := (tH (p:=p) (l:=n.toNat)<|by omega).1
  grind
 exact ⟨t,k,hI,rfl,by rw [hI.ev.1],by rw [hI.ev.1]⟩
def VB (p:List<|List M5) (x:XS) (vals:LI) (B:List Bool):aF:=⟨p,⟨x.1,x.2⟩,evs p,vals,B⟩
theorem EP (hp:PV p) {vals:LI} {B:List Bool} {t:Nat} (ht:t<p.length) (idx reg:Int):M9 (ez (VB p x vals B) (t:Int) idx reg) (· = (VB p x vals B,lrd p (t:Int) idx reg)):=by
 have hel:=ve hp.vs;unfold ez;refine M9.bind (P:=(· = lrd p (t:Int) idx reg)) ?_ λv hv => .pure (by rw [hv]);refine M9.loop (λz=>∃ n:Nat,n<=(evs p).length/\z=((n:Int),lrN p (t:Int) idx reg n)) (λz=>(((evs p).length:Int)-z.1).toNat) ⟨0,by omega,rfl⟩ λz ⟨n,h1,h2⟩ => ?_;subst h2;unfold kg J;have en:(evs p).getD n Nj=ev p (n:Int):=by unfold ev;simp_all
 simp only [VB,tnn,en];refine .bifD (λhk=>?_) λhk => .pure (by rw [show n=(evs p).length by omega];rfl);refine M9.bind (P:=(· = lrN p (t:Int) idx reg (n+1))) (.gdD ⟨by omega,hk⟩ (M9.bind (P:=(· = lrC p (t:Int) idx reg (ev p (n:Int)))) (.bif (λh1 => .bifD (λh2 => .bif (λh3=>?_) λh3 => .pure ?_) λh2 => .pure ?_) λh1 => .pure ?_) λv hv => .bif (λh => .pure ?_) λh => .pure ?_)) λv hv => .gdI (by omega)<|.pure ⟨⟨n+1,by omega,by simp_all⟩,by omega⟩
 ·have h1:(ev p (n:Int)).Thread=(t:Int):=eq_of_beq h1;obtain ⟨t',k,hI,e,e1,e2⟩:=I2 hp (n:=(n:Int)) (by omega) (by omega) (by omega);have : t'=t:=by omega
  subst this;have := hI.k;refine .gdD ⟨by omega,by omega⟩<|.gdD ⟨by omega,by rw [e2];omega⟩<|.pure ?_;unfold lrC
  simp_all
 ·unfold lrC;simp_all
 ·unfold lrC;grind
 ·unfold lrC
  simp_all
 ·show (n:Int)=lrN p (t:Int) idx reg (n+1);rw [lrN,if_pos (by simp_all)]
 show lrN p (t:Int) idx reg n=lrN p (t:Int) idx reg (n+1);rw [lrN,if_neg (by simp_all)]
def insE (p:List<|List M5) (i:Int):M5:=(p.getD (ev p i).Thread.toNat Nj).getD (ev p i).Index.toNat Nj
def lrE (p:List<|List M5) (i:Int):Int:=lrd p (ev p i).Thread (ev p i).Index (insE p i).Reg
def Stp (p:List<|List M5) (x:XS) (i j:Int):Prop := ¬ (ev p i).Thread<0/\(insE p i).Op=3 /\ ¬ lrE p i<0/\j=x.1.getD (lrE p i).toNat Nj
inductive Chn (p:List (List M5)) (x:XS):Int->Int->Prop
 | ini {i:Int} (h:(ev p i).Thread<0):Chn p x i 0
 | val {i:Int} (h : ¬ (ev p i).Thread<0) (h3:(insE p i).Op≠3):Chn p x i (insE p i).Val
 | zer {i:Int} (h : ¬ (ev p i).Thread<0) (h3:(insE p i).Op=3) (hr:lrE p i<0):Chn p x i 0
 | nxt {i j v:Int} (h:Stp p x i j) (c:Chn p x j v):Chn p x i v
inductive Rc (p:List (List M5)) (x:XS):Int->Int->Prop
 | refl (i:Int):Rc p x i i
 | step {i j k:Int} (h:Stp p x i j) (c:Rc p x j k):Rc p x i k
def Cyc (p:List<|List M5) (x:XS) (i:Int):Prop:=∃ j k,Rc p x i j/\Stp p x j k/\Rc p x k j
theorem Stp.det {i j k:Int} (h:Stp p x i j) (h':Stp p x i k):j=k:=h.2.2.2.trans h'.2.2.2.symm
theorem Chn.det {i v w:Int} (h:Chn p x i v):Chn p x i w->v=w:=by
 induction h with
 | ini h=>intro h';cases h' with
  | ini _=>rfl
  | val h1 _=>omega
  | zer h1 _ _=>omega
  | nxt h1 _=>exact absurd h h1.1
 | val h h3=>intro h';cases h' with
  | ini h1=>omega
  | val _ _=>rfl
  | zer _ h1 _=>omega
  | nxt h1 _=>exact absurd h1.2.1 h3
 | zer h h3 hr=>intro h';cases h' with
  | ini h1=>omega
  | val _ h1=>omega
  | zer _ _ _=>rfl
  | nxt h1 _=>exact absurd hr h1.2.2.1
 | nxt h c ih=>intro h';cases h' with
  | ini h1=>exact absurd h1 h.1
  | val _ h1=>exact absurd h.2.1 h1
  | zer _ _ h1=>exact absurd h1 h.2.2.1
  | nxt h1 c1=>obtain rfl:=h.det h1;simp_all
theorem Chn.not_cyc {i v:Int} (h:Chn p x i v) : ¬ Cyc p x i:=by
 have nost:∀ {i},(∀ j,¬ Stp p x i j) -> ¬ Cyc p x i:=λ{i} hn ⟨j,k,h1,h2,h3⟩=>by
  cases h1 with
  | refl _=>simp_all
  | step h _=>simp_all
 induction h with
 | ini h=>exact nost λj hj=>hj.1 h
 | val h h3=>exact nost λj hj=>h3 hj.2.1
 | zer h h3 hr=>exact nost λj hj=>hj.2.2.1 hr
 | nxt h c ih=>
  rintro ⟨j,k,h1,h2,h3⟩
  cases h1 with
  | refl _=>
   obtain rfl:=h.det h2;exact ih ⟨_,_,h3,h2,h3⟩
  | step h' c'=>
   obtain rfl:=h.det h';exact ih ⟨j,k,c',h2,h3⟩
theorem Cyc.step {i j:Int} (h:Stp p x i j) (c:Cyc p x j):Cyc p x i:=by
 obtain ⟨a,b,h1,h2,h3⟩:=c;exact ⟨a,b,.step h h1,h2,h3⟩
theorem zS {B:List Bool} {i:Nat} (hi:i<B.length) (hb:B.getD i Nj=Nl):(B.set i Nk).count Nl+1=B.count Nl:=by
 grind
theorem Ij {B:List Bool} {i:Nat} (hi:i<B.length) (hb:B.getD i Nj=Nl):(B.set i Nk).set i Nl=B:=by
 rw [List.set_set];apply RB
 ·simp
 grind
def LU (p:List<|List M5) (x:XS) (vals:LI) (B:List Bool) (i:Int) (q:aF×Int×Bool):Prop:=
 q.1=VB p x vals B/\(q.2.2=Nk->Chn p x i q.2.1)/\(q.2.2=Nl->q.2.1=0/\((∃ j:Nat,B.getD j Nj=Nk/\Rc p x i (j:Int))\/Cyc p x i))
theorem GH (hp:PV p) (C:Cand p x F):∀ (m:Nat) (vals:LI) (B:List Bool) (i:Nat),B.count Nl<m->B.length=(evs p).length->i<(evs p).length->M9 (bI m (VB p x vals B) (i:Int)) (LU p x vals B (i:Int))
 | 0,_,_,_,h,_,_=>absurd h (Nat.not_lt_zero _)
 | m+1,vals,B,i,hm,hB,hi=>by
  have hel:=ve hp.vs;have ei:(evs p).getD i Nj=ev p (i:Int):=by unfold ev;simp_all
  show M9 (fD (bI m) (VB p x vals B) (i:Int)) _;unfold fD J;simp only [VB,tnn,ei];refine .gdD ⟨by omega,by omega⟩<|.bifD (λh0 => .pure ⟨rfl,λ_ => .ini h0,λe=>(by cases e)⟩) λh0=>?_;obtain ⟨t,k,hI,e,e1,e2⟩:=I2 hp (n:=(i:Int)) (by omega) (by omega) h0;have hins:((p.getD (ev p (i:Int)).Thread.toNat Nj).getD (ev p (i:Int)).Index.toNat Nj)=insE p (i:Int):=rfl;simp only [hins];have ht:=hI.t;have hk:=hI.k;refine .gdD ⟨by omega,by omega⟩<|.gdD ⟨by omega,by simp_all⟩<|.bif (λh3 => .pure ⟨rfl,λ_ => .val h0 (by simp_all),λe=>(by cases e)⟩) λh3=>?_;have h3:(insE p (i:Int)).Op=3:=by simpa using h3
  refine .gdD ⟨by omega,by omega⟩<|.bif (λhb => .pure ⟨rfl,λe=>(by cases e),λ_=>⟨rfl,.inl ⟨i,hb,.refl _⟩⟩⟩) λhb=>?_;have hlr:=EP (x:=x) (vals:=vals) (B:=B) hp ht (ev p (i:Int)).Index (insE p (i:Int)).Reg;rw [<- e1] at hlr;refine hlr.bind λv8 h8=>?_;subst h8;have hlE:lrd p (ev p (i:Int)).Thread (ev p (i:Int)).Index (insE p (i:Int)).Reg=lrE p (i:Int):=rfl;simp only [VB,hlE];refine .bifD (λhr => .pure ⟨rfl,λ_ => .zer h0 h3 hr,λe=>(by cases e)⟩) λhr=>?_;rcases Au (p:=p) (ev p (i:Int)).Thread (ev p (i:Int)).Index (insE p (i:Int)).Reg with ⟨g1,_⟩ | ⟨r,g1,g2,g3,_⟩
  ·omega
  rw [hlE] at g2;have hrd:=(xc.1 g3).2.2.1;have hrF:(r:Int)∈F:=(C.mem _).2 ⟨by omega,by omega⟩;have hfr:=C.rdc _ hrF hrd;rw [tnn] at hfr;obtain ⟨j0,j1⟩:=(C.mem _).1 (((C.ods _<|uP hp (n:=(r:Int)) (by omega)<|by omega).mem _).1 hfr).1;generalize hj:x.1.getD r Nj=j at hfr j0 j1;have hst:Stp p x (i:Int) j:=⟨h0,h3,hr,by simp_all⟩;refine .gdD ⟨by omega,by omega⟩<|.gdD ⟨by omega,by rw [g2,C.flen];omega⟩ ?_;rw [g2,tnn,hj];have hc:=zS (show i<B.length by omega) hb;have hrec:=GH hp C m vals (B.set i Nk) j.toNat (by omega) (by simp_all) (by omega);rw [Int.toNat_of_nonneg j0] at hrec;refine hrec.bind λq ⟨q1,q2,q3⟩ => ?_;rw [q1];simp only [VB,List.length_set];refine .gdD ⟨by omega,by omega⟩<|.pure ⟨?_,λh => .nxt hst<|q2 h,λh=>?_⟩
  ·simp only [VB,Ij (show i<B.length by omega) hb]
  obtain ⟨q4,q3⟩:=q3 h;refine ⟨q4,?_⟩;rcases q3 with ⟨a,a1,a2⟩ | hcy
  ·by_cases ea:a=i
   ·subst ea;exact .inr ⟨_,_,.refl _,hst,a2⟩
   refine .inl ⟨a,?_,.step hst a2⟩
   grind
  exact .inr<|.step hst hcy
theorem GI (hp:PV p) (C:Cand p x F) (vals:LI) {i:Nat} (hi:i<(evs p).length):M9 (kM (VB p x vals<|Rs (evs p).length Nl) (i:Int)) λq=>q.1=VB p x vals (Rs (evs p).length Nl)/\(q.2.2=Nk->Chn p x (i:Int) q.2.1)/\(q.2.2=Nl->Cyc p x (i:Int)):=by
 have nob:∀ {q:aF×Int×Bool},LU p x vals (Rs (evs p).length Nl) (i:Int) q->q.1=VB p x vals (Rs (evs p).length Nl)/\(q.2.2=Nk->Chn p x (i:Int) q.2.1)/\(q.2.2=Nl->q.2.1=0/\Cyc p x (i:Int)):=λ{q} ⟨h1,h2,h3⟩=>⟨h1,h2,λh=>⟨(h3 h).1,by
  rcases (h3 h).2 with ⟨j,hj,_⟩ | hc
  ·exfalso;rw [gdq,List.getElem?_replicate] at hj
   split at hj <;> cases hj
  omega⟩⟩
 have key:∀ m,(evs p).length<m->M9 (bI m (VB p x vals<|Rs (evs p).length Nl) (i:Int)) (LU p x vals (Rs (evs p).length Nl) (i:Int)):=λm hm=>GH hp C m vals _ i (by simp_all) (by simp) hi;obtain ⟨q,hq,hP⟩:=key ((evs p).length+1) (by omega);obtain ⟨p1,p2,p3⟩:=nob hP;refine .of (yF (v:=q) (evs p).length λm hm=>?_).eq ⟨p1,p2,λh=>(p3 h).2⟩;obtain ⟨q',hq',hP'⟩:=key m hm;obtain ⟨r1,r2,r3⟩:=nob hP';refine .of hq' ?_;obtain ⟨qa,qb,qc⟩:=q;obtain ⟨ra,rb,rc⟩:=q';simp only at p1 p2 p3 r1 r2 r3;subst p1 r1
 cases qc <;> cases rc
 ·simp_all
 ·exact absurd (p3 rfl).2 (r2 rfl).not_cyc
 ·exact absurd (r3 rfl).2 (p2 rfl).not_cyc
 rw [(p2 rfl).det (r2 rfl)]
theorem Ik (hp:PV p) (C:Cand p x F):M9 (lW p ⟨x.1,x.2⟩) λq=>(q.2=Nk->q.1.length=(evs p).length/\∀ i:Nat,i<(evs p).length->(ev p (i:Int)).cu=Nk->Chn p x (i:Int) (q.1.getD i Nj))/\(q.2=Nl->∃ i:Nat,i<(evs p).length/\(ev p (i:Int)).cu=Nk/\Cyc p x (i:Int)):=by
 have hel:=ve hp.vs;unfold lW;refine (C9 hp.vs).bind λv1 h1=>?_;subst h1;refine .gdD ⟨by omega,by omega,by omega,by omega⟩ ?_;refine M9.sum (PS:=λz=>z.1.length=(evs p).length/\∀ i:Nat,i<(evs p).length->(ev p (i:Int)).cu=Nk->Chn p x (i:Int) (z.1.getD i Nj)) (PW:=λq:List Int×Bool=>(q.2=Nk->q.1.length=(evs p).length/\∀ i:Nat,i<(evs p).length->(ev p (i:Int)).cu=Nk->Chn p x (i:Int) (q.1.getD i Nj))/\(q.2=Nl->∃ i:Nat,i<(evs p).length/\(ev p (i:Int)).cu=Nk/\Cyc p x (i:Int))) ?_ λz hz => .pure ⟨λ_=>hz,λe=>(by cases e)⟩;have e0:Rs ((evs p).length:Int).toNat (Nj:Bool)=Rs (evs p).length Nl:=by rw [tnn];rfl
 rw [e0];refine M9.loop (λz=>∃ n:Nat,n<=(evs p).length/\z.2=(p,x.1,x.2,evs p,Rs (evs p).length Nl,(n:Int))/\z.1.length=n/\∀ i:Nat,i<n->(ev p (i:Int)).cu=Nk->Chn p x (i:Int) (z.1.getD i Nj)) (λz=>(((evs p).length:Int)-z.2.2.2.2.2.2).toNat) ⟨0,by omega,rfl,rfl,λi hi=>absurd hi<|by omega⟩ λz ⟨n,n1,n2,n3,n4⟩ => ?_;obtain ⟨vals,z2⟩:=z;simp only at n2 n3 n4;subst n2;unfold pQ J;have en:(evs p).getD n Nj=ev p (n:Int):=by unfold ev;rw [tnn]
 simp only [tnn,en];refine .bifD (λhk => .gdD ⟨by omega,hk⟩ ?_) λhk => .pure ⟨by simp only [];omega,λi hi=>n4 i<|by omega⟩;refine M9.sum (PS:=λs=>s.1=p/\s.2.1=x.1/\s.2.2.1=x.2/\s.2.2.2.1=evs p/\s.2.2.2.2.1=Rs (evs p).length Nl/\((ev p (n:Int)).cu=Nk->Chn p x (n:Int) s.2.2.2.2.2)) ?_ λs ⟨s1,s2,s3,s4,s5,s6⟩ => .gd (eC (by omega) rfl)<|.gdI (by omega)<|.pure ⟨⟨n+1,by omega,?_,by simp [n3],λi hi hw=>?_⟩,by simp only [];omega⟩
 ·refine .bif (λhw=>?_) λhw => .pure ⟨rfl,rfl,rfl,rfl,rfl,λh=>by rw [hw] at h;cases h⟩;refine (GI hp C vals (i:=n)<|by omega).bind λq ⟨q1,q2,q3⟩ => .bif (λhq => .pure ?_) λhq => .pure ⟨by rw [q1];rfl,by rw [q1];rfl,by rw [q1];rfl,by rw [q1];rfl,by rw [q1];rfl,λ_=>q2<|by simpa using hq⟩;exact ⟨λe=>(by cases e),λ_=>⟨n,by omega,hw,q3<|by simpa using hq⟩⟩
 ·rw [s1,s2,s3,s4,s5]
  rfl
 grind
end
section
variable {p:List (List M5)} {x:XS} {F:LI}
inductive HC (p:List (List M5)) (x:XS):Int->Int->Nat->Prop
 | ini {i:Int} (h:(ev p i).Thread<0):HC p x i 0 0
 | val {i:Int} (h : ¬ (ev p i).Thread<0) (h3:(insE p i).Op≠3):HC p x i (insE p i).Val 0
 | zer {i:Int} (h : ¬ (ev p i).Thread<0) (h3:(insE p i).Op=3) (hr:lrE p i<0):HC p x i 0 0
 | nxt {i j v:Int} {n:Nat} (h:Stp p x i j) (c:HC p x j v n):HC p x i v (n+1)
theorem Stp.dom (hp:PV p) (C:Cand p x F) {i j:Int} (hi:0<=i/\i<((evs p).length:Int)) (h:Stp p x i j):(0<=j/\j<((evs p).length:Int))/\(ev p j).cu=Nk:=by
 obtain ⟨_,_,hr,e⟩:=h;rcases Au (p:=p) (ev p i).Thread (ev p i).Index (insE p i).Reg with ⟨g1,_⟩ | ⟨r,g1,g2,g3,_⟩
 ·exact absurd (show lrE p i<0 by unfold lrE;omega) hr
 have hrd:=(xc.1 g3).2.2.1;have hrF:(r:Int)∈F:=(C.mem _).2 ⟨by omega,by omega⟩;have hfr:=((C.ods _<|uP hp (n:=(r:Int)) (by omega)<|by omega).mem _).1<|C.rdc _ hrF hrd;rw [show (r:Int)=lrE p i from g2.symm,<- e] at hfr;exact ⟨(C.mem _).1 hfr.1,hfr.2.1⟩
theorem Chn.hc (hp:PV p) (C:Cand p x F) {i v:Int} (h:Chn p x i v):0<=i/\i<((evs p).length:Int)->∃ n:Nat,n<(evs p).length/\HC p x i v n:=by
 have key:∀ {i v:Int},Chn p x i v->0<=i/\i<((evs p).length:Int)->∃ (n:Nat) (l:LI),HC p x i v n/\l.length=n+1/\l.Nodup/\(∀ j∈l,Rc p x i j)/\∀ j∈l,0<=j/\j<((evs p).length:Int):=by
  intro i v h
  induction h with
  | @ini i h=>exact λhi=>⟨0,[i],.ini h,rfl,by simp,λj hj=>by rw [Ru.1 hj];exact .refl _,λj hj=>by rw [Ru.1 hj];exact hi⟩
  | @val i h h3=>exact λhi=>⟨0,[i],.val h h3,rfl,by simp,λj hj=>by rw [Ru.1 hj];exact .refl _,λj hj=>by rw [Ru.1 hj];exact hi⟩
  | @zer i h h3 hr=>exact λhi=>⟨0,[i],.zer h h3 hr,rfl,by simp,λj hj=>by rw [Ru.1 hj];exact .refl _,λj hj=>by rw [Ru.1 hj];exact hi⟩
  | @nxt i j v h c ih=>
   intro hi;obtain ⟨n,l,k1,k2,k3,k4,k5⟩:=ih (h.dom hp C hi).1;refine ⟨n+1,i::l,.nxt h k1,by rw [llc,k2],List.nodup_cons.2 ⟨λhm=>?_,k3⟩,λq hq=>?_,λq hq=>?_⟩
   ·exact (Chn.nxt h c).not_cyc ⟨i,j,.refl _,h,k4 i hm⟩
   ·rcases List.mem_cons.1 hq with rfl | hq
    ·exact .refl _
    exact .step h<|k4 q hq
   rcases List.mem_cons.1 hq with rfl | hq
   ·exact hi
   exact k5 q hq
 intro hi;obtain ⟨n,l,k1,k2,k3,_,k5⟩:=key h hi;have := H6 Int.toNat (evs p).length l k3 (λj hj=>by have := k5 j hj;omega) λa ha b hb e=>by have := k5 a ha;have := k5 b hb;omega
 exact ⟨n,by omega,k1⟩
end

def In (N:Nat) (n:Int):Prop:=0<=n/\n<(N:Int)
structure Iso (p q:List (List M5)) (π ρ τ:Int->Int):Prop where
 len:(evs q).length=(evs p).length
 rng:∀ n,In (evs p).length n->In (evs p).length (π n)
 rngr:∀ n,In (evs p).length n->In (evs p).length (ρ n)
 inv:∀ n,In (evs p).length n->ρ (π n)=n
 inv':∀ n,In (evs p).length n->π (ρ n)=n
 neg:π (-1) = -1
 ini:∀ l:Int,0<=l/\l<3->π l=l
 th:∀ n,In (evs p).length n->(ev q<|π n).Thread=τ (ev p n).Thread
 ix:∀ n,In (evs p).length n->(ev q<|π n).Index=(ev p n).Index
 lc:∀ n,In (evs p).length n->(ev q<|π n).Loc=(ev p n).Loc
 rd:∀ n,In (evs p).length n->(ev q<|π n).Reads=(ev p n).Reads
 wr:∀ n,In (evs p).length n->(ev q<|π n).cu=(ev p n).cu
 tneg:∀ t,τ t<0↔t<0
 tinj:∀ a b,τ a=τ b->a=b
 row:∀ n,In (evs p).length n -> ¬ (ev p n).Thread<0->q.getD (τ (ev p n).Thread).toNat Nj=p.getD (ev p n).Thread.toNat Nj
 mono:∀ a b,In (evs p).length a->In (evs p).length b -> ¬ (ev p a).Thread<0->(ev p a).Thread=(ev p b).Thread->a<b->π a<π b
def trX (N:Nat) (π ρ:Int->Int) (x:XS):XS:=(tab N λm=>π<|x.1.getD (ρ (m:Int)).toNat Nj,x.2.map (·.map π))
section
variable {p q:List (List M5)} {π ρ τ:Int->Int} {x:XS}
theorem Iso.inj (I:Iso p q π ρ τ) {a b:Int} (ha:In (evs p).length a) (hb:In (evs p).length b) (e:π a=π b):a=b:=by
 rw [<- I.inv a ha,<- I.inv b hb,e]
theorem In.nat {N:Nat} {n:Int} (h:In N n):n.toNat<N/\((n.toNat:Nat):Int)=n:=by
 unfold In at h;omega
theorem Dg (l:Int):od (trX (evs p).length π ρ x) l=(od x l).map π:=by
 unfold od trX;simp only [gdq,List.getElem?_map]
 cases x.2[l.toNat]? <;> rfl
theorem tO (I:Iso p q π ρ τ) {k:Int} (hk:In (evs p).length k):(trX (evs p).length π ρ x).1.getD (π k).toNat Nj=π (x.1.getD k.toNat Nj):=by
 obtain ⟨h1,h2⟩:=(I.rng k hk).nat;show (tab (evs p).length λm=>π<|x.1.getD (ρ (m:Int)).toNat Nj).getD (π k).toNat Nj=_;rw [De h1,h2,I.inv k hk]
theorem JS {L:LI} {i:Int} (h:∀ n∈L,π n=π i->n=i):(L.map π).idxOf (π i)=L.idxOf i:=by
 induction L with
 | nil=>rfl
 | cons a L ih=>
  rw [List.map_cons,List.idxOf_cons,List.idxOf_cons,ih λn hn=>h n (List.mem_cons_of_mem _ hn)];have := h a (by simp)
  by_cases e:a=i
  ·subst e;simp
  have e' : ¬ π a=π i:=λe'=>e<|this e';rw [beq_eq_false_iff_ne.2 e,beq_eq_false_iff_ne.2 e']
theorem JU {L:LI} {i:Int} (h:∀ n∈L,π n=π i->n=i):plc (L.map π) (π i)=plc L i:=by
 unfold plc;rw [JS h];have e:π i∈L.map π↔i∈L:=by
  rw [Rx];exact ⟨λ⟨n,hn,e⟩=>h n hn e ▸ hn,λhi=>⟨i,hi,rfl⟩⟩
 by_cases hi:i∈L
 ·rw [if_pos hi,if_pos (e.2 hi)]
 rw [if_neg hi,if_neg (λh'=>hi<|e.1 h')]
variable {F:LI}
theorem Cand.inO (C:Cand p x F) {l:Int} (hl:0<=l/\l<=2) {n:Int} (h:n∈od x l):In (evs p).length n:=(C.mem n).1 (((C.ods l hl).mem n).1 h).1
theorem Cand.inF (hp:PV p) (C:Cand p x F) {i:Int} (hi:In (evs p).length i) (hr:(ev p i).Reads=Nk):In (evs p).length (x.1.getD i.toNat Nj):=C.inO (uP hp hi.1 hi.2)<|C.rdc i ((C.mem i).2 hi) hr
theorem Ed (I:Iso p q π ρ τ) (C:Cand p x F) {l:Int} (hl:0<=l/\l<=2) {i:Int} (hi:In (evs p).length i):plc (od (trX (evs p).length π ρ x) l) (π i)=plc (od x l) i:=by
 rw [Dg];exact JU λn hn e=>I.inj (C.inO hl hn) hi e
theorem tP {a b:Prop} [Decidable a] [Decidable b] (h:a↔b):decide a=decide b:=decide_eq_decide.2 h
theorem KU (I:Iso p q π ρ τ) {i k:Int} (hi:In (evs p).length i) (hk:In (evs p).length k):poB q (π i) (π k)=poB p i k:=by
 unfold poB;rw [I.th i hi,I.th k hk,I.ix i hi,I.ix k hk,tP (a:=τ (ev p i).Thread=τ (ev p k).Thread) (b:=(ev p i).Thread=(ev p k).Thread) ⟨I.tinj _ _,λe=>by rw [e]⟩,
  tP (a:=0<=τ (ev p i).Thread) (b:=0<=(ev p i).Thread) (by have := I.tneg (ev p i).Thread;omega)]
theorem LV (hp:PV p) (I:Iso p q π ρ τ) (C:Cand p x F) {i k:Int} (hi:In (evs p).length i) (hk:In (evs p).length k) (nm:BA):nmR q (trX (evs p).length π ρ x) nm (π i) (π k)=nmR p x nm i k:=by
 have hli:=uP hp hi.1 hi.2;unfold nmR
 by_cases h1:nm=⟨#[112,111]⟩
 ·rw [if_pos h1,if_pos h1];exact KU I hi hk
 rw [if_neg h1,if_neg h1]
 by_cases h2:nm=⟨#[108,111,99]⟩
 ·rw [if_pos h2,if_pos h2];unfold Mt;rw [I.lc i hi,I.lc k hk]
 rw [if_neg h2,if_neg h2]
 by_cases h3:nm=⟨#[101,120,116]⟩
 ·rw [if_pos h3,if_pos h3];unfold extB;rw [I.th i hi,I.th k hk,tP (a:=τ (ev p i).Thread≠τ (ev p k).Thread) (b:=(ev p i).Thread≠(ev p k).Thread) ⟨λh e=>h (by rw [e]),λh e=>h<|I.tinj _ _ e⟩,tP (I.tneg (ev p i).Thread)]
 rw [if_neg h3,if_neg h3]
 by_cases h4:nm=⟨#[114,102]⟩
 ·rw [if_pos h4,if_pos h4];unfold rfB;rw [I.rd k hk,tO I hk]
  cases hr:(ev p k).Reads with
  | false=>rfl
  | true=>rw [tP (a:=π (x.1.getD k.toNat Nj)=π i) (b:=x.1.getD k.toNat Nj=i) ⟨I.inj (C.inF hp hk hr) hi,λe=>by rw [e]⟩]
 rw [if_neg h4,if_neg h4]
 by_cases h5:nm=⟨#[99,111]⟩
 ·rw [if_pos h5,if_pos h5];unfold coB;rw [I.wr i hi,I.wr k hk,I.lc i hi,I.lc k hk,Ed I C hli hi,Ed I C hli hk]
 rw [if_neg h5,if_neg h5]
 by_cases h6:nm=⟨#[102,114]⟩
 ·rw [if_pos h6,if_pos h6];unfold frB;rw [I.rd i hi,I.wr k hk,I.lc i hi,I.lc k hk,tO I hi,Ed I C hli hk,tP (a:=π i=π k) (b:=i=k) ⟨I.inj hi hk,λe=>by rw [e]⟩]
  cases hr:(ev p i).Reads with
  | false=>rfl
  | true=>rw [Ed I C hli (C.inF hp hi hr)]
 rw [if_neg h6,if_neg h6]
 by_cases h7:nm=⟨#[102,101,110,99,101]⟩
 ·rw [if_pos h7,if_pos h7];unfold KR;rw [KU I hi hk,I.th i hi,I.ix i hi,I.ix k hk]
  by_cases ht:(ev p i).Thread<0
  ·have : poB p i k=Nl:=by
    unfold poB;rw [decide_eq_false (show ¬ 0<=(ev p i).Thread by omega)];simp
   rw [this];rfl
  rw [I.row i hi ht]
 rw [if_neg h7,if_neg h7]
 by_cases h8:nm=⟨#[119,114]⟩
 ·rw [if_pos h8,if_pos h8];unfold nH;rw [I.rd i hi,I.rd k hk,I.wr i hi,I.wr k hk]
 rw [if_neg h8,if_neg h8]
 by_cases h9:nm=⟨#[119,119]⟩
 ·rw [if_pos h9,if_pos h9];unfold nH;rw [I.rd i hi,I.rd k hk,I.wr i hi,I.wr k hk]
 rw [if_neg h9,if_neg h9];exact tP ⟨I.inj hi hk,λe=>by rw [e]⟩
end
section
variable {N:Nat} {π ρ:Int->Int}
theorem I3 {f g:Int->Int->Bool} (hr:∀ n,In N n->In N (π n)) (h:∀ i k,In N i->In N k->f i k=Nk->g (π i) (π k)=Nk) {i k:Int} (hi:In N i) (hk:In N k) (hw:Nf f N i k=Nk):Nf g N (π i) (π k)=Nk:=by
 refine Ea (f:=f) (N:=N) (R:=λa b=>In N a->In N b->Nf g N (π a) (π b)=Nk) (λa b j hj h1 h2 ha hb=>?_) (λa b e ha hb=>Ih<|h a b ha hb e) N (Nat.le_refl N) i k hw hi hk;have hJ:In N (j:Int):=⟨by omega,by omega⟩;obtain ⟨j1,j2⟩:=(hr _ hJ).nat;have g1:=h1 ha hJ;have g2:=h2 hJ hb;rw [<- j2] at g1 g2;exact Gz j1 g1 g2
variable {base base':BA->Int->Int->Bool}
theorem KV {f g:Int->Int->Bool} (hr:∀ n,In N n->In N (π n)) (hrr:∀ n,In N n->In N (ρ n)) (hi1:∀ n,In N n->ρ (π n)=n) (hi2:∀ n,In N n->π (ρ n)=n) (h:∀ i k,In N i->In N k->g (π i) (π k)=f i k) {i k:Int} (hi:In N i) (hk:In N k):Nf g N (π i) (π k)=Nf f N i k:=by
 refine RD.2 ⟨λhw=>?_,λhw=>I3 hr (λa b ha hb e=>(h a b ha hb).trans e) hi hk hw⟩;have := I3 (π:=ρ) (f:=g) (g:=f) hrr (λa b ha hb e=>by rw [<- h _ _ (hrr a ha) (hrr b hb),hi2 a ha,hi2 b hb];exact e) (hr i hi) (hr k hk) hw;rw [hi1 i hi,hi1 k hk] at this;exact this
theorem KW {f g f' g':Int->Int->Bool} (hr:∀ n,In N n->In N (π n)) (hrr:∀ n,In N n->In N (ρ n)) (hi2:∀ n,In N n->π (ρ n)=n) (h:∀ i k,In N i->In N k->f' (π i) (π k)=f i k) (h':∀ i k,In N i->In N k->g' (π i) (π k)=g i k) {i k:Int} (hi:In N i) (hk:In N k):Bt f' g' N (π i) (π k)=Bt f g N i k:=by
 unfold Bt;rw [RD,List.any_eq_true,List.any_eq_true]
 constructor
 ·rintro ⟨m,hm,e⟩;have hM:In N (m:Int):=⟨by omega,by have := Rw.1 hm;omega⟩;obtain ⟨j1,j2⟩:=(hrr _ hM).nat;refine ⟨(ρ m).toNat,Rw.2 j1,?_⟩;rw [j2,<- h _ _ hi (hrr _ hM),<- h' _ _ (hrr _ hM) hk,hi2 _ hM];exact e
 rintro ⟨m,hm,e⟩;have hM:In N (m:Int):=⟨by omega,by have := Rw.1 hm;omega⟩;obtain ⟨j1,j2⟩:=(hr _ hM).nat;refine ⟨(π m).toNat,Rw.2 j1,?_⟩;rw [j2,h _ _ hi hM,h' _ _ hM hk];exact e
mutual
theorem GJ (hr:∀ n,In N n->In N (π n)) (hrr:∀ n,In N n->In N (ρ n)) (hi1:∀ n,In N n->ρ (π n)=n) (hi2:∀ n,In N n->π (ρ n)=n) (h:∀ nm i k,In N i->In N k->base' nm (π i) (π k)=base nm i k):∀ (t:ZTE) (i k:Int),In N i->In N k->Bf base' N t (π i) (π k)=Bf base N t i k
 | .mk op nm ks,i,k,hi,hk=>by
  have L:=GK hr hrr hi1 hi2 h ks;rw [Bf,Bf];unfold Ii
  by_cases h1:op=1
  ·rw [if_pos h1,if_pos h1];exact h nm i k hi hk
  rw [if_neg h1,if_neg h1]
  by_cases h6:op=6
  ·rw [if_pos h6,if_pos h6];exact L 0 k i hk hi
  rw [if_neg h6,if_neg h6]
  by_cases h7:op=7
  ·rw [if_pos h7,if_pos h7];exact KV hr hrr hi1 hi2 (L 0) hi hk
  rw [if_neg h7,if_neg h7]
  by_cases h2:op=2
  ·rw [if_pos h2,if_pos h2,L 0 i k hi hk,L 1 i k hi hk]
  rw [if_neg h2,if_neg h2]
  by_cases h3:op=3
  ·rw [if_pos h3,if_pos h3,L 0 i k hi hk,L 1 i k hi hk]
  rw [if_neg h3,if_neg h3]
  by_cases h4:op=4
  ·rw [if_pos h4,if_pos h4,L 0 i k hi hk,L 1 i k hi hk]
  rw [if_neg h4,if_neg h4];exact KW hr hrr hi2 (L 0) (L 1) hi hk
theorem GK (hr:∀ n,In N n->In N (π n)) (hrr:∀ n,In N n->In N (ρ n)) (hi1:∀ n,In N n->ρ (π n)=n) (hi2:∀ n,In N n->π (ρ n)=n) (h:∀ nm i k,In N i->In N k->base' nm (π i) (π k)=base nm i k):∀ (l:List ZTE) (j:Nat) (i k:Int),In N i->In N k->((xO base' N l).getD j λ_ _=>Nl) (π i) (π k)=((xO base N l).getD j λ_ _=>Nl) i k
 | [],j,i,k,_,_=>by rw [xO,xO];rfl
 | t::l,0,i,k,hi,hk=>by
  rw [xO,xO];exact GJ hr hrr hi1 hi2 h t i k hi hk
 | t::l,j+1,i,k,hi,hk=>by
  rw [xO,xO];exact GK hr hrr hi1 hi2 h l j i k hi hk
end
theorem Ee {f g:Int->Int->Bool} (hr:∀ n,In N n->In N (π n)) (h:∀ i k,In N i->In N k->g (π i) (π k)=f i k) (hl:uQ N g=Nk):uQ N f=Nk:=by
 rw [zt] at hl ⊢;intro i hi;have hI:In N (i:Int):=⟨by omega,by omega⟩;obtain ⟨j1,j2⟩:=(hr _ hI).nat;have := hl _ j1;rw [j2,h _ _ hI hI] at this;exact this
end
section
variable {N:Nat} {f g:Int->Int->Bool}
def EQ (N:Nat) (f:Int->Int->Bool):Bool:=(List.range N).all λi=>(List.range N).all λk => !f (i:Int) (k:Int)
theorem Ef:EQ N f=Nk↔∀ i:Nat,i<N->∀ k:Nat,k<N->f i k=Nl:=by
 unfold EQ;simp only [List.all_eq_true,Rw,Bool.not_eq_true']
end
theorem Cg {a b:Nat} (ha:a<4294967296) (hb:b<18446744073709551616):iC .u64 (a:Int) (b:Int)=((a&&&b:Nat):Int):=by
 have hle:(a&&&b)<=a:=Rv;show IntKind.wrap .u64 (((Rt 64 (a:Int)&&&Rt 64 (b:Int)).toNat:Nat):Int)=_;have h1:(Rt 64 (a:Int)).toNat=a:=by rw [RE,RF];omega
 have h2:(Rt 64 (b:Int)).toNat=b:=by rw [RE,RF];omega
 rw [BitVec.toNat_and,h1,h2];show ((a&&&b:Nat):Int) % 18446744073709551616=_;omega
theorem Av (a k:Nat) (hk:k<=64):kH .u64 (a:Int) (k:Int)=((a / 2 ^ k:Nat):Int):=by
 show (a:Int).fdiv (2 ^ (min (k:Int).toNat 64))=_
 grind
def pcA (x:Nat):Nat:=(x / 2&&&6148914691236517205)+(x&&&6148914691236517205)
def pcB (a:Nat):Nat:=(a / 4&&&3689348814741910323)+(a&&&3689348814741910323)
def pcC (b:Nat):Nat:=b / 16+b&&&1085102592571150095
def pcD (c:Nat):Nat:=let d:=c+c / 256;let e:=d+d / 65536;e+e / 4294967296&&&127
def pc (x:Nat):Nat:=pcD<|pcC<|pcB<|pcA x
def LW (x:Nat):Bool:=Nat.ble (pc x) 16&&((pc x==0)==(x==0))
def KX:Nat->Nat->Bool
 | 0,b=>LW b
 | n+1,b=>KX n b&&KX n (b+2 ^ n)
theorem zu:∀ (n b:Nat),KX n b=Nk->∀ x,b<=x->x<b+2 ^ n->LW x=Nk
 | 0,b,h,x,h1,h2=>by
  rw [show x=b by omega];exact h
 | n+1,b,h,x,h1,h2=>by
  rw [KX,bae] at h;rw [Nat.pow_succ] at h2
  by_cases e:x<b+2 ^ n
  ·exact zu n b h.1 x h1 e
  exact zu n _ h.2 x (by omega) (by omega)
theorem Il:KX 16 0=Nk:=by decide +kernel
theorem LX {x:Nat} (h:x<65536):pc x<=16/\(pc x=0↔x=0):=by
 have := zu 16 0 Il x (Nat.zero_le _) (by omega);unfold LW at this;rw [bae] at this;refine ⟨nlb this.1,?_⟩
 grind
theorem inU {n:Nat} (h:n<4294967296):M3 .u64 (n:Int)=Nk:=Kz ⟨by omega,by omega⟩
theorem Im {x:Nat} (h:x<65536):M9 (fB (x:Int)) (· = (pc x:Int)):=by
 unfold fB ib;refine M9.bind (P:=(· = (pc x:Int))) ?_ λv hv => .pure hv;have a1:iC .u64 (kH .u64 (x:Int) (1:Int)) (6148914691236517205:Int)+iC .u64 (x:Int) (6148914691236517205:Int)=((pcA x:Nat):Int):=by
  rw [show kH .u64 (x:Int) (1:Int)=((x / 2:Nat):Int) from Av x 1 (by omega),show (6148914691236517205:Int)=((6148914691236517205:Nat):Int) from rfl,Cg (by omega) (by omega),Cg (by omega) (by omega)]
  rfl
 have a2:pcA x<131072:=by
  have h1:(x / 2&&&6148914691236517205)<=x / 2:=Rv;have h2:(x&&&6148914691236517205)<=x:=Rv;unfold pcA;omega
 generalize hA:pcA x=A at a1 a2;have b1:iC .u64 (kH .u64 (A:Int) (2:Int)) (3689348814741910323:Int)+iC .u64 (A:Int) (3689348814741910323:Int)=((pcB A:Nat):Int):=by
  rw [show kH .u64 (A:Int) (2:Int)=((A / 4:Nat):Int) from Av A 2 (by omega),show (3689348814741910323:Int)=((3689348814741910323:Nat):Int) from rfl,Cg (by omega) (by omega),Cg (by omega) (by omega)]
  rfl
 have b2:pcB A<262144:=by
  have h1:(A / 4&&&3689348814741910323)<=A / 4:=Rv;have h2:(A&&&3689348814741910323)<=A:=Rv;unfold pcB;omega
 generalize hB:pcB A=B at b1 b2;have c1:kH .u64 (B:Int) (4:Int)+(B:Int)=((B / 16+B:Nat):Int):=by
  rw [show kH .u64 (B:Int) (4:Int)=((B / 16:Nat):Int) from Av B 4 (by omega)];omega
 have c2:iC .u64 ((B / 16+B:Nat):Int) (1085102592571150095:Int)=((pcC B:Nat):Int):=by
  rw [show (1085102592571150095:Int)=((1085102592571150095:Nat):Int) from rfl,Cg (by omega) (by omega)]
  rfl
 have c3:pcC B<524288:=by
  have h1:(B / 16+B&&&1085102592571150095)<=B / 16+B:=Rv;unfold pcC;omega
 generalize hC:pcC B=C at c2 c3;have d1:(C:Int)+kH .u64 (C:Int) (8:Int)=((C+C / 256:Nat):Int):=by
  rw [show kH .u64 (C:Int) (8:Int)=((C / 256:Nat):Int) from Av C 8 (by omega)];omega
 have hp:pc x=pcD C:=by unfold pc;simp_all
 have e0:∀ D:Nat,(D:Int)+kH .u64 (D:Int) (16:Int)=((D+D / 65536:Nat):Int):=λD=>by
  rw [show kH .u64 (D:Int) (16:Int)=((D / 65536:Nat):Int) from Av D 16 (by omega)];omega
 have e1:∀ D:Nat,(D:Int)+kH .u64 (D:Int) (32:Int)=((D+D / 4294967296:Nat):Int):=λD=>by
  rw [show kH .u64 (D:Int) (32:Int)=((D / 4294967296:Nat):Int) from Av D 32 (by omega)];omega
 rw [a1,b1,c1];refine .gdD (by omega) (.gd (inU<|by omega) (.gdD (by omega) (.gd (inU<|by omega) (.gdD (by omega) (.gd (inU<|by omega) (M9.bind (P:=(· = ((B / 16+B:Nat):Int))) (.pure rfl) λw hw=>?_))))));subst hw;rw [c2,d1,e0,e1];refine .gdD (by omega)<|.gd (inU<|by omega)<|.gdD (by omega)<|.gd (inU<|by omega)<|.gdD (by omega)<|.gd (inU<|by omega)<|.gdI (by omega)<|.pure ?_;rw [show (127:Int)=((127:Nat):Int) from rfl,D8 (by omega) (by omega),hp]
 rfl
section
variable {N:Nat} {f g:Int->Int->Bool}
theorem Io {q:Nat->Bool} {n:Nat}:Na q n=0↔∀ k,k<n->q k=Nl:=by
 constructor
 ·intro h k hk;have := nV q n k
  simp_all
 intro h;rw [pU (g:=λ_=>Nl) h,D7]
theorem JV (hN:N<=16):M9 (lV<|Nc N f) λn=>(n==0)=EQ N f:=by
 unfold lV;refine (o9 hN).bind λv hv=>?_;subst hv;refine .bif (λh=>by cases h) λ_=>?_;refine M9.bind (P:=λn:Int=>n=0↔∀ i:Nat,i<N->∀ k:Nat,k<N->f i k=Nl) ?_ λv hv => .pure (by rw [RD,Ef,beq_iff_eq];exact hv);refine M9.loop (λz=>∃ i:Nat,i<=N/\z.1=(i:Int)/\0<=z.2/\z.2<=(i:Int)*16/\(z.2=0↔∀ j:Nat,j<i->∀ k:Nat,k<N->f j k=Nl)) (λz=>((N:Int)-z.1).toNat) ⟨0,by omega,rfl,by simp,by simp,by simp⟩ λz ⟨i,h1,h2,h3,h4,h5⟩ => ?_;obtain ⟨zi,zn⟩:=z;simp only at h2 h3 h4 h5;subst h2;unfold qw J;simp only [gG,tnn];refine .bifD (λhk=>?_) λhk => .pure (show (zn=0↔_) from (show i=N by omega) ▸ h5);rw [rW (by omega)];have hlt:Na (λk=>f (i:Int) (k:Int)) N<65536:=Nat.lt_of_lt_of_le (DX _ _) (by have := Nat.pow_le_pow_right (n:=2) (by omega) hN;omega);obtain ⟨p1,p2⟩:=LX hlt;refine .gdD ⟨by omega,hk⟩<|.gd (inU<|by omega)<|(Im hlt).bind λv hv=>?_;subst hv;refine .gdI (by omega)<|.gdI (by omega)<|.pure ⟨⟨i+1,by omega,by simp,by simp only [];omega,by simp only [];omega,?_⟩,by simp only [];omega⟩;simp only [];have e:zn+(pc (Na (λk=>f (i:Int) (k:Int)) N):Int)=0↔zn=0/\Na (λk=>f (i:Int) (k:Int)) N=0:=by rw [<- p2];omega
 rw [e,h5,Io]
 grind
def okK (kind:Int) (N:Nat) (f:Int->Int->Bool):Bool:=if kind=1 then uQ N (Nf f N) else if kind=2 then uQ N f else EQ N f
theorem MK (hN:N<=16) (kind:Int):M9 (kC kind<|Nc N f) (· = okK kind N f):=by
 unfold kC okK;refine .bif (λh=>(GD hN).bind λv hv => .pure<|by simp_all) λh=>?_;rw [if_neg (λe=>by simp_all)];refine .bif (λh=>(GA hN).bind λv hv => .pure<|by simp_all) λh=>?_;rw [if_neg (λe=>by simp_all)];exact (JV hN).bind λv hv => .pure hv
end
section
variable {p:List (List M5)} {x:M6} {N:Nat} {base:BA->Int->Int->Bool}
def okM (base:BA->Int->Int->Bool) (N:Nat) (r:ai):Bool:=okK r.Kind N<|Bf base N r.Expr.inn
def KY (base:BA->Int->Int->Bool) (N:Nat) (m:List ai) (k:Int):Prop:=
 (k = -1/\∀ r∈m,okM base N r=Nk)\/∃ i:Nat,k=(i:Int)/\i<m.length/\okM base N (m.getD i Nj)=Nl/\∀ j:Nat,j<i->okM base N (m.getD j Nj)=Nk
theorem LY (hN:N<=16) (hb:∀ nm∈DR,M9 (gW p x nm) (· = Nc N (base nm))) {m:List ai} (hm:∀ r∈m,VT r.Expr.inn) (hl:m.length<=1000):M9 (ju p x m) λv=>KY base N m v.1/\(0<=v.1->v.2=Nc N (Bf base N (m.getD v.1.toNat Nj).Expr.inn)):=by
 unfold ju;refine M9.sum (PS:=λ_=>∀ r∈m,okM base N r=Nk) (PW:=λv:Int×LI=>KY base N m v.1/\(0<=v.1->v.2=Nc N (Bf base N (m.getD v.1.toNat Nj).Expr.inn))) ?_ λ_ h => .pure ⟨.inl ⟨rfl,h⟩,λh=>absurd h<|by decide⟩;refine M9.loop (λz=>∃ i:Nat,i<=m.length/\z=(i:Int)/\∀ j:Nat,j<i->okM base N (m.getD j Nj)=Nk) (λz=>((m.length:Int)-z).toNat) ⟨0,by omega,rfl,λj hj=>absurd hj<|by omega⟩ λz ⟨i,h1,h2,h3⟩ => ?_;subst h2;unfold oF J;simp only [tnn];refine .bifD (λhk=>?_) λhk => .pure λr hr=>?_
 ·refine .gdD ⟨by omega,hk⟩<|(KP hN hb (t:=(m.getD i Nj).Expr.inn)<|hm _<|getD_in<|by omega).bind λv hv=>?_;subst hv;refine (MK hN _).bind λw hw => .bif (λhf => .pure ⟨.inr ⟨i,rfl,by omega,?_,h3⟩,λ_=>by simp only [];rw [tnn]⟩) λh => .gdI (by omega) (.pure ⟨⟨i+1,by omega,rfl,λj hj=>?_⟩,by omega⟩)
  ·show okK _ _ _=Nl;rw [<- hw];simpa using hf
  by_cases e:j=i
  ·subst e;show okK _ _ _=Nk;rw [<- hw];simpa using h
  exact h3 j (by omega)
 obtain ⟨j,hj,rfl⟩:=List.getElem_of_mem hr;have := h3 j (by omega);rw [gdq,geq hj] at this;exact this
end
section
variable {p q:List (List M5)} {π ρ τ:Int->Int} {x:XS} {F:LI}
theorem Iso.insE (I:Iso p q π ρ τ) {i:Int} (hi:In (evs p).length i) (ht : ¬ (ev p i).Thread<0):Go.Proofs.YtabfkkjdfhbngaaGreatDoor.insE q (π i)=Go.Proofs.YtabfkkjdfhbngaaGreatDoor.insE p i:=by
 unfold Go.Proofs.YtabfkkjdfhbngaaGreatDoor.insE;rw [I.th i hi,I.ix i hi,I.row i hi ht]
theorem GL (I:Iso p q π ρ τ) {t idx reg a:Int} (ht : ¬ t<0) (ha:In (evs p).length a):lrC q (τ t) idx reg (ev q<|π a)=Nk↔lrC p t idx reg (ev p a)=Nk:=by
 rw [xc,xc,I.th a ha,I.ix a ha,I.rd a ha]
 constructor
 ·rintro ⟨e,h2,h3,h4⟩;have e':=I.tinj _ _ e;refine ⟨e',h2,h3,?_⟩;rw [<- e',I.row a ha (by rw [e'];exact ht)] at h4;rw [<- e'];exact h4
 rintro ⟨e,h2,h3,h4⟩;refine ⟨by rw [e],h2,h3,?_⟩;rw [<- e,I.row a ha (by rw [e];exact ht)];rw [<- e] at h4;exact h4
theorem KZ (I:Iso p q π ρ τ) {t idx reg:Int} (ht : ¬ t<0):lrd q (τ t) idx reg=π (lrd p t idx reg):=by
 have hq:=Au (p:=q) (τ t) idx reg;rw [I.len] at hq;rcases Au (p:=p) t idx reg with ⟨g1,g2⟩ | ⟨r,g1,g2,g3,g4⟩
 ·rw [g1,I.neg];rcases hq with ⟨k1,_⟩ | ⟨s,k1,_,k3,_⟩
  ·exact k1
  exfalso;have hs:In (evs p).length (s:Int):=⟨by omega,by omega⟩;obtain ⟨j1,j2⟩:=(I.rngr _ hs).nat;have := g2 _ j1;rw [j2,<- Bool.not_eq_true,<- GL I ht (I.rngr _ hs),I.inv' _ hs] at this;exact this k3
 have hr:In (evs p).length (r:Int):=⟨by omega,by omega⟩;obtain ⟨r1,r2⟩:=(I.rng _ hr).nat;have hr3:=(GL I ht hr).2 g3;rw [g2];rcases hq with ⟨_,k2⟩ | ⟨s,k1,k2,k3,k4⟩
 ·have := k2 _ r1;rw [r2,hr3] at this
  cases this
 rw [k2];have hs:In (evs p).length (s:Int):=⟨by omega,by omega⟩;obtain ⟨s1,s2⟩:=(I.rngr _ hs).nat;have hs3:lrC p t idx reg (ev p<|ρ s)=Nk:=(GL I ht<|I.rngr _ hs).1 (by rw [I.inv' _ hs];exact k3);have a1 : ¬ (r:Int)<ρ s:=λh=>by
  have := g4 _ s1 (by omega);rw [s2,hs3] at this
  cases this
 have a2 : ¬ (s:Int)<π r:=λh=>by
  have := k4 _ r1 (by omega);rw [r2,hr3] at this
  cases this
 have t1:=(xc.1 hs3).1;have t2:=(xc.1 g3).1;have a3 : ¬ ρ s<(r:Int):=λh=>by
  have := I.mono _ _ (I.rngr _ hs) hr (by rw [t1];exact ht) (by rw [t1,t2]) h;rw [I.inv' _ hs] at this;exact a2 this
 have e:ρ s=(r:Int):=by omega
 rw [<- e,I.inv' _ hs]
theorem I4 (I:Iso p q π ρ τ) {i:Int} (hi:In (evs p).length i) (ht : ¬ (ev p i).Thread<0):lrE q (π i)=π (lrE p i):=by
 unfold lrE;rw [I.insE hi ht,I.th i hi,I.ix i hi,KZ I ht]
theorem I5 (i:Int) (h : ¬ lrE p i<0):In (evs p).length (lrE p i):=by
 unfold lrE at h ⊢;rcases Au (p:=p) (ev p i).Thread (ev p i).Index (Go.Proofs.YtabfkkjdfhbngaaGreatDoor.insE p i).Reg with ⟨g1,_⟩ | ⟨r,g1,g2,_⟩
 ·omega
 rw [g2];exact ⟨by omega,by omega⟩
theorem Iso.lrn (I:Iso p q π ρ τ) {i:Int} (hi:In (evs p).length i) (ht : ¬ (ev p i).Thread<0):lrE q (π i)<0↔lrE p i<0:=by
 rw [I4 I hi ht]
 by_cases h:lrE p i<0
 ·have : lrE p i = -1:=by
   unfold lrE at h ⊢;rcases Au (p:=p) (ev p i).Thread (ev p i).Index (Go.Proofs.YtabfkkjdfhbngaaGreatDoor.insE p i).Reg with ⟨g1,_⟩ | ⟨r,g1,g2,_⟩ <;> omega
  rw [this,I.neg]
 have := (I.rng _<|I5 i h).1;exact ⟨λh'=>by omega,λh'=>absurd h' h⟩
theorem Stp.tr (hp:PV p) (I:Iso p q π ρ τ) {i j:Int} (hi:In (evs p).length i) (h:Stp p x i j):Stp q (trX (evs p).length π ρ x) (π i) (π j):=by
 obtain ⟨h1,h2,h3,h4⟩:=h;refine ⟨by rw [I.th i hi,I.tneg];exact h1,by rw [I.insE hi h1];exact h2,by rw [I.lrn hi h1];exact h3,?_⟩;rw [I4 I hi h1,tO I (I5 i h3),h4]
theorem Chn.tr (hp:PV p) (I:Iso p q π ρ τ) (C:Cand p x F) {i v:Int} (h:Chn p x i v):In (evs p).length i->Chn q (trX (evs p).length π ρ x) (π i) v:=by
 induction h with
 | ini h=>exact λhi => .ini (by rw [I.th _ hi,I.tneg];exact h)
 | val h h3=>
  intro hi;rw [<- I.insE hi h];exact .val (by rw [I.th _ hi,I.tneg];exact h) (by rw [I.insE hi h];exact h3)
 | zer h h3 hr=>exact λhi => .zer (by rw [I.th _ hi,I.tneg];exact h) (by rw [I.insE hi h];exact h3)<|(I.lrn hi h).2 hr
 | nxt h _ ih=>exact λhi => .nxt (h.tr hp I hi) (ih (h.dom hp C hi).1)
theorem Cand.tr (hp:PV p) (I:Iso p q π ρ τ) (C:Cand p x<|Gt p):Cand q (trX (evs p).length π ρ x) (Gt q):=by
 have hm:∀ n:Int,n∈Gt q↔0<=n/\n<((evs q).length:Int):=λn=>w9 n;have hin:∀ n:Int,n∈Gt q->In (evs p).length n:=λn h=>by
  have := (hm n).1 h;rw [I.len] at this;exact this
 refine ⟨hm,?_,?_,λl hl=>⟨?_,λn=>?_⟩,λl hl=>?_,λi hi hr=>?_,λi hi hr e=>?_,λi hi hr=>?_⟩
 ·rw [I.len];exact Bc
 ·show (x.2.map _).length=3;rw [llm];exact C.olen
 ·rw [Dg];exact List.pairwise_map.2<|RG (λha hb h e=>h<|I.inj (C.inO hl ha) (C.inO hl hb) e) (C.ods l hl).nd
 ·rw [Dg,Rx]
  constructor
  ·rintro ⟨a,ha,rfl⟩;have hA:=C.inO hl ha;obtain ⟨_,g2,g3⟩:=((C.ods l hl).mem a).1 ha;refine ⟨(hm _).2 ?_,by rw [I.wr a hA];exact g2,by rw [I.lc a hA];exact g3⟩;rw [I.len];exact I.rng a hA
  rintro ⟨h1,h2,h3⟩;have hN:=hin n h1;have hR:=I.rngr n hN;refine ⟨ρ n,((C.ods l hl).mem _).2 ⟨(C.mem _).2 hR,?_,?_⟩,I.inv' n hN⟩
  ·rw [<- I.wr _ hR,I.inv' n hN];exact h2
  rw [<- I.lc _ hR,I.inv' n hN];exact h3
 ·obtain ⟨t,ht⟩:=C.hd l hl;exact ⟨t.map π,by rw [Dg,ht,List.map_cons,I.ini (l:Int) ⟨by omega,by omega⟩]⟩
 ·have hI:=hin i hi;have hR:=I.rngr i hI;rw [<- I.inv' i hI] at hr ⊢;rw [I.rd _ hR] at hr;rw [tO I hR,I.lc _ hR,Dg];exact Rx.2 ⟨_,C.rdc _ ((C.mem _).2 hR) hr,rfl⟩
 ·have hI:=hin i hi;have hR:=I.rngr i hI;have e':π (x.1.getD (ρ i).toNat Nj)=π (ρ i):=by
   rw [<- tO I hR,I.inv' i hI];exact e
  rw [<- I.inv' i hI,I.rd _ hR] at hr;exact C.ne _ ((C.mem _).2 hR) hr<|I.inj (C.inF hp hR hr) hR e'
 have hI:=hin i hi;have hR:=I.rngr i hI;rw [<- I.inv' i hI] at hr ⊢;rw [I.rd _ hR] at hr;rw [tO I hR,C.frN _ ((C.mem _).2 hR) hr,I.neg]
theorem JW {N:Nat} {f g:Int->Int->Bool} (hr:∀ n,In N n->In N (π n)) (h:∀ i k,In N i->In N k->g (π i) (π k)=f i k) (hl:EQ N g=Nk):EQ N f=Nk:=by
 rw [Ef] at hl ⊢;intro i hi k hk;have hI:In N (i:Int):=⟨by omega,by omega⟩;have hK:In N (k:Int):=⟨by omega,by omega⟩;obtain ⟨j1,j2⟩:=(hr _ hI).nat;obtain ⟨l1,l2⟩:=(hr _ hK).nat;have := hl _ j1 _ l1;rw [j2,l2,h _ _ hI hK] at this;exact this
def alP (p:List<|List M5) (m:List ai) (x:XS):Prop:=
 (∀ i:Nat,i<(evs p).length->(ev p (i:Int)).cu=Nk->∃ v,Chn p x (i:Int) v)/\∀ r∈m,okM (nmR p x) (evs p).length r=Nk
theorem alP.tr (hp:PV p) (I:Iso p q π ρ τ) {m:List ai} (C:Cand p x<|Gt p) (h:alP p m x):alP q m (trX (evs p).length π ρ x):=by
 refine ⟨λi hi hw=>?_,λr hr=>?_⟩
 ·rw [I.len] at hi;have hI:In (evs p).length (i:Int):=⟨by omega,by omega⟩;have hR:=I.rngr _ hI;obtain ⟨j1,j2⟩:=hR.nat;rw [<- I.inv' _ hI] at hw ⊢;rw [I.wr _ hR,<- j2] at hw;obtain ⟨v,hv⟩:=h.1 _ j1 hw;rw [j2] at hv;exact ⟨v,hv.tr hp I C hR⟩
 have := h.2 r hr;rw [I.len];unfold okM okK at this ⊢;have key:∀ i k:Int,In (evs p).length i->In (evs p).length k->Bf (nmR q<|trX (evs p).length π ρ x) (evs p).length r.Expr.inn (π i) (π k)=Bf (nmR p x) (evs p).length r.Expr.inn i k:=
  GJ I.rng I.rngr I.inv I.inv' (λnm i k hi hk=>LV hp I C hi hk nm) _
 by_cases h1:r.Kind=1
 ·rw [if_pos h1] at this ⊢;exact Ee (π:=ρ) I.rngr (λi k hi hk=>by
   rw [<- KV I.rng I.rngr I.inv I.inv' key (I.rngr i hi) (I.rngr k hk),I.inv' i hi,I.inv' k hk]) this
 rw [if_neg h1] at this ⊢
 by_cases h2:r.Kind=2
 ·rw [if_pos h2] at this ⊢;exact Ee (π:=ρ) I.rngr (λi k hi hk=>by rw [<- key _ _ (I.rngr i hi) (I.rngr k hk),I.inv' i hi,I.inv' k hk]) this
 rw [if_neg h2] at this ⊢;exact JW (π:=ρ) I.rngr (λi k hi hk=>by rw [<- key _ _ (I.rngr i hi) (I.rngr k hk),I.inv' i hi,I.inv' k hk]) this
theorem K3 (hp:PV p) (I:Iso p q π ρ τ) {y:XS} (C:Cand p x<|Gt p) (D:Cand p y<|Gt p) (e:trX (evs p).length π ρ x=trX (evs p).length π ρ y):x=y:=by
 refine Prod.ext ?_ ?_
 ·refine RB (C.flen.trans D.flen.symm) λn h1 h2=>?_;have hn:In (evs p).length (n:Int):=⟨by omega,by rw [<- C.flen];omega⟩;have h3:π (x.1.getD n Nj)=π (y.1.getD n Nj):=by
   have a:=tO (x:=x) I hn;rw [e,tO (x:=y) I hn] at a;exact a.symm
  have h4:x.1.getD n Nj=y.1.getD n Nj:=by
   have hn':=(C.mem _).2 hn;have hn2:=(D.mem _).2 hn
   cases hr:(ev p (n:Int)).Reads with
   | true=>exact I.inj (C.inF hp hn hr) (D.inF hp hn hr) h3
   | false=>exact (C.frN _ hn' hr).trans (D.frN _ hn2 hr).symm
  rw [gdq,gdq,geq h1,geq h2] at h4;exact h4
 refine RB (C.olen.trans D.olen.symm) λn h1 h2=>?_;have hl:n<3:=by rw [<- C.olen];exact h1
 have a:=Dg (p:=p) (π:=π) (ρ:=ρ) (x:=x) (n:Int);rw [e,Dg] at a;have hx:od x (n:Int)=x.2[n]:=by
  unfold od;rw [tnn,gdq,geq h1];rfl
 have hy:od y (n:Int)=y.2[n]:=by
  unfold od;rw [tnn,gdq,geq h2];rfl
 rw [<- hx,<- hy];have hC:∀ z∈od x (n:Int),In (evs p).length z:=λz hz=>C.inO ⟨by omega,by omega⟩ hz;have hD:∀ z∈od y (n:Int),In (evs p).length z:=λz hz=>D.inO ⟨by omega,by omega⟩ hz;generalize od x (n:Int)=L at a hC;generalize od y (n:Int)=M at a hD;have b:=congrArg (List.map ρ) a;rw [List.map_map,List.map_map,show M.map (ρ ∘ π)=M from (RH (g:=id) λz hz=>I.inv z<|hD z hz).trans (List.map_id M),show L.map (ρ ∘ π)=L from (RH (g:=id) λz hz=>I.inv z<|hC z hz).trans (List.map_id L)] at b;exact b.symm
open Classical in
theorem K4 (hp:PV p) (hq:PV q) (I:Iso p q π ρ τ) (m:List ai) (hn:(kY p).Nodup):((kY p).filter λc=>Nq<|alP p m (c.From,c.Order)).length<=((kY q).filter λc=>Nq<|alP q m (c.From,c.Order)).length:=by
 have key:=List.Nodup.length_le_of_subset (l₁:=((kY p).filter λc=>Nq<|alP p m (c.From,c.Order)).map λc=>(⟨(trX (evs p).length π ρ (c.From,c.Order)).1,(trX (evs p).length π ρ (c.From,c.Order)).2⟩:M6)) (l₂:=(kY q).filter λc=>Nq<|alP q m (c.From,c.Order)) ?_ ?_
 ·rw [llm] at key;exact key
 ·refine List.pairwise_map.2<|RG (λ{a b} ha hb h e=>h ?_)<|hn.filter _;have h1:trX (evs p).length π ρ (a.From,a.Order)=trX (evs p).length π ρ (b.From,b.Order):=Prod.ext (congrArg (·.From) e) (congrArg (·.Order) e);have h2:=K3 hp I (rV hp (Ry.1 ha).1) (rV hp (Ry.1 hb).1) h1
  cases a;cases b
  injection h2 with h3 h4;simp only at h3 h4;rw [h3,h4]
 intro c hc;obtain ⟨a,ha,rfl⟩:=Rx.1 hc;obtain ⟨h1,h2⟩:=Ry.1 ha;have C:=rV hp h1;exact Ry.2 ⟨Dc hq<|C.tr hp I,decide_eq_true<|(of_decide_eq_true h2).tr hp I C⟩
end
def Le {α:Type} (a b:Option α):Prop:=∀ q,a=Nn q->b=Nn q
theorem Le.refl {α:Type} (a:Option α):Le a a:=λ_ h=>h
theorem Le.bind {α β:Type} {a b:Option α} {k l:α->Option β} (h:Le a b) (hk:∀ x,Le (k x)<|l x):Le (a.bind k) (b.bind l):=λq hq=>by
 obtain ⟨x,h1,h2⟩:=RI.1 hq;exact RI.2 ⟨x,h x h1,hk x q h2⟩
theorem Le.gd {α:Type} {a b:Option α} (c:Bool) (h:Le a b):Le (gd c a) (gd c b):=λq hq=>by
 obtain ⟨h1,h2⟩:=gdL hq;rw [qG h1];exact h q h2
theorem Le.bif {α:Type} {a b a' b':Option α} (c:Bool) (h:Le a a') (h':Le b b'):Le (bif c then a else b) (bif c then a' else b'):=by
 cases c
 ·exact h'
 exact h
theorem Le.ifc {α:Type} {a b a' b':Option α} (c:Prop) [Decidable c] (h:Le a a') (h':Le b b'):Le (if c then a else b) (if c then a' else b'):=by
 split
 ·exact h
 exact h'
theorem Le.sumK {S W:Type} {a b:Option (S ⊕ W)} {k l:S->Option W} (h:Le a b) (hk:∀ x,Le (k x)<|l x):Le (sumK a k) (sumK b l):=λq hq=>by
 cases a with
 | none=>cases hq
 | some z=>
  rw [h z rfl]
  cases z with
  | inl s=>exact hk s q hq
  | inr w=>exact hq
def nI {S E:Type} (n:Nat) (step:S->Option (S ⊕ E)) (s:S):Option E:=
 Nat.rec (motive:=λ_=>S->Option E) (λ_=>Np) (λ_ ih s=>match step s with
  | none=>Np
  | some (.inl s')=>ih s'
  | some (.inr e)=>Nn e) n s
theorem Le.loop {S E:Type} {n:Nat} {step step':S->Option (S ⊕ E)} (h:∀ s,Le (step s)<|step' s) (s:S):Le (nI n step s) (aV step' s):=by
 induction n generalizing s with
 | zero=>intro q hq;cases hq
 | succ n ih=>
  intro q hq;rw [yB]
  change (match step s with
   | none=>Np
   | some (.inl s')=>nI n step s'
   | some (.inr e)=>Nn e)=Nn q at hq
  match hs:step s with
  | none=>rw [hs] at hq;cases hq
  | some (.inl s')=>
   rw [hs] at hq;rw [h s _ hs];exact ih s' q hq
  | some (.inr e)=>
   rw [hs] at hq;rw [h s _ hs];exact hq
def LZ {α:Type} (e:Bool) (_ b:Option α):Option α:=bif e then Np else b
theorem Le.nilK {α:Type} {e:Bool} {a b a' b':Option α} (_:Le a a') (h:Le b b'):Le (LZ e a b) (nilK e a' b'):=λq hq=>by
 cases e with
 | true=>cases hq
 | false=>
  unfold Go.Proofs.YtabfkkjdfhbngaaGreatDoor.nilK;exact h q hq
def ko (code:LI):Option ah:= Rq (bif Nq ((2000:Int)<(code.length:Int)) then gd (Nq<|0<=(0:Int)/\(0:Int)<=(2000:Int)/\(2000:Int)<=(code.length:Int)) <|Nn ((code.drop (0:Int).toNat).take<|(2000:Int).toNat-(0:Int).toNat) else Nn code) λs1=>Nn (⟨s1,(0:Int)⟩:ah)
def aH (r_:ah) (n:Int):Option (ah×Int):= gd (M3 .i64<|r_.p+(1:Int)) <|Rq (bif Nq (n<(1:Int)) then Nn Nk else Nn ((r_.b.length:Int)==(0:Int))) λs2=>bif s2 then Nn ((⟨r_.b,(r_.p+(1:Int))⟩:ah),(0:Int)) else gd (M3 .i64<|(r_.p+(1:Int))-(1:Int)) <|bif Nq (((r_.p+(1:Int))-(1:Int))<(r_.b.length:Int)) then gd (Nq<|0<=((r_.p+(1:Int))-(1:Int))/\((r_.p+(1:Int))-(1:Int))<(r_.b.length:Int)) <|gd (M3 .i64<|J r_.b<|(r_.p+(1:Int))-(1:Int)) <|gd (Nq<|n≠0) <|Nn ((⟨r_.b,(r_.p+(1:Int))⟩:ah),((J r_.b<|(r_.p+(1:Int))-(1:Int)).tmod n)) else gd (Nq<|(r_.b.length:Int)≠0) <|gd (Nq<|0<=(((r_.p+(1:Int))-(1:Int)).tmod (r_.b.length:Int))/\(((r_.p+(1:Int))-(1:Int)).tmod (r_.b.length:Int))<(r_.b.length:Int)) <|gd (M3 .i64<|J r_.b<|((r_.p+(1:Int))-(1:Int)).tmod (r_.b.length:Int)) <|gd (M3 .i64<|(J r_.b<|((r_.p+(1:Int))-(1:Int)).tmod (r_.b.length:Int))*(131:Int)) <|gd (M3 .i64<|((r_.p+(1:Int))-(1:Int))*(7:Int)) <|gd (M3 .i64<|(((r_.p+(1:Int))-(1:Int))*(7:Int))+(3:Int)) <|gd (Nq<|0<=(((((r_.p+(1:Int))-(1:Int))*(7:Int))+(3:Int)).tmod (r_.b.length:Int))/\(((((r_.p+(1:Int))-(1:Int))*(7:Int))+(3:Int)).tmod (r_.b.length:Int))<(r_.b.length:Int)) <|gd (M3 .i64<|J r_.b<|((((r_.p+(1:Int))-(1:Int))*(7:Int))+(3:Int)).tmod (r_.b.length:Int)) <|gd (M3 .i64<|(J r_.b<|((((r_.p+(1:Int))-(1:Int))*(7:Int))+(3:Int)).tmod (r_.b.length:Int))*(1117:Int)) <|gd (M3 .i64<|((J r_.b<|((r_.p+(1:Int))-(1:Int)).tmod (r_.b.length:Int))*(131:Int))+((J r_.b<|((((r_.p+(1:Int))-(1:Int))*(7:Int))+(3:Int)).tmod (r_.b.length:Int))*(1117:Int))) <|gd (M3 .i64<|((r_.p+(1:Int))-(1:Int))*(29:Int)) <|gd (M3 .i64<|(((J r_.b<|((r_.p+(1:Int))-(1:Int)).tmod (r_.b.length:Int))*(131:Int))+((J r_.b<|((((r_.p+(1:Int))-(1:Int))*(7:Int))+(3:Int)).tmod (r_.b.length:Int))*(1117:Int)))+(((r_.p+(1:Int))-(1:Int))*(29:Int))) <|gd (M3 .i64<|((r_.p+(1:Int))-(1:Int)).tdiv (r_.b.length:Int)) <|gd (M3 .i64<|(((r_.p+(1:Int))-(1:Int)).tdiv (r_.b.length:Int))*(53:Int)) <|gd (M3 .i64<|((((J r_.b<|((r_.p+(1:Int))-(1:Int)).tmod (r_.b.length:Int))*(131:Int))+((J r_.b<|((((r_.p+(1:Int))-(1:Int))*(7:Int))+(3:Int)).tmod (r_.b.length:Int))*(1117:Int)))+(((r_.p+(1:Int))-(1:Int))*(29:Int)))+((((r_.p+(1:Int))-(1:Int)).tdiv (r_.b.length:Int))*(53:Int))) <|gd (Nq<|(64:Int)≠0) <|gd (M3 .i64<|(((((J r_.b<|((r_.p+(1:Int))-(1:Int)).tmod (r_.b.length:Int))*(131:Int))+((J r_.b<|((((r_.p+(1:Int))-(1:Int))*(7:Int))+(3:Int)).tmod (r_.b.length:Int))*(1117:Int)))+(((r_.p+(1:Int))-(1:Int))*(29:Int)))+((((r_.p+(1:Int))-(1:Int)).tdiv (r_.b.length:Int))*(53:Int))).tdiv (64:Int)) <|Rq (Nn<|Kw .i64 (((((J r_.b<|((r_.p+(1:Int))-(1:Int)).tmod (r_.b.length:Int))*(131:Int))+((J r_.b<|((((r_.p+(1:Int))-(1:Int))*(7:Int))+(3:Int)).tmod (r_.b.length:Int))*(1117:Int)))+(((r_.p+(1:Int))-(1:Int))*(29:Int)))+((((r_.p+(1:Int))-(1:Int)).tdiv (r_.b.length:Int))*(53:Int)))<|(((((J r_.b<|((r_.p+(1:Int))-(1:Int)).tmod (r_.b.length:Int))*(131:Int))+((J r_.b<|((((r_.p+(1:Int))-(1:Int))*(7:Int))+(3:Int)).tmod (r_.b.length:Int))*(1117:Int)))+(((r_.p+(1:Int))-(1:Int))*(29:Int)))+((((r_.p+(1:Int))-(1:Int)).tdiv (r_.b.length:Int))*(53:Int))).tdiv (64:Int)) λw27=>gd (Nq<|n≠0) <|Nn ((⟨r_.b,(r_.p+(1:Int))⟩:ah),(w27.tmod n))
def bC (r_:ah) (list:LI):Option (ah×Int):= Rq (aH (⟨r_.b,r_.p⟩:ah) (list.length:Int)) λv1=>gd (Nq<|0<=v1.2/\v1.2<(list.length:Int)) <|Nn ((⟨v1.1.b,v1.1.p⟩:ah),(J list v1.2))
def iD:Option (List BA):= Nn ([(⟨#[120,61,49,59,97,61,121,124,121,61,49,59,97,61,120]⟩:BA),(⟨#[120,61,49,59,102,101,110,99,101,59,97,61,121,124,121,61,49,59,102,101,110,99,101,59,97,61,120]⟩:BA),(⟨#[120,61,49,59,121,61,49,124,97,61,121,59,98,61,120]⟩:BA),(⟨#[120,61,49,59,121,61,49,124,97,61,121,59,102,101,110,99,101,59,98,61,120]⟩:BA),(⟨#[120,61,49,59,102,101,110,99,101,59,121,61,49,124,97,61,121,59,98,61,120]⟩:BA),(⟨#[97,61,120,59,121,61,49,124,97,61,121,59,120,61,49]⟩:BA),(⟨#[97,61,120,59,121,61,97,124,97,61,121,59,120,61,97]⟩:BA),(⟨#[120,61,49,124,120,61,50,124,97,61,120,59,98,61,120]⟩:BA),(⟨#[120,61,49,124,121,61,49,124,97,61,120,59,98,61,121,124,97,61,121,59,98,61,120]⟩:BA),(⟨#[120,61,49,124,97,61,120,59,121,61,49,124,97,61,121,59,98,61,120]⟩:BA),(⟨#[120,61,49,124,121,61,49,124,97,61,120,59,98,61,121]⟩:BA),(⟨#[97,61,120,58,49,124,97,61,120,58,50,124,120,61,51]⟩:BA),(⟨#[120,61,49,59,97,61,120,59,98,61,121,124,121,61,49,59,97,61,121,59,98,61,120]⟩:BA),(⟨#[120,61,50,59,121,61,49,124,121,61,50,59,120,61,49]⟩:BA),(⟨#[97,61,120,58,49,59,98,61,121,124,97,61,121,58,49,59,98,61,120]⟩:BA),(⟨#[120,61,49,59,120,61,50,124,97,61,120,59,98,61,120]⟩:BA),(⟨#[120,61,49,59,121,61,49,59,97,61,122,124,122,61,49,59,97,61,121,59,98,61,120]⟩:BA),(⟨#[97,61,120,58,49,124,98,61,120,58,49]⟩:BA),(⟨#[102,101,110,99,101]⟩:BA),(⟨#[]⟩:BA),(⟨#[120,61,49,59,97,61,121,124,121,61,49,59,102,101,110,99,101,59,97,61,120]⟩:BA)]:List BA)
def nW (s:BA) (c:Int):LS ((List BA)×Int×Int) (List BA):=λs5=>bif Nq (s5.2.1<=(s.size:Int)) then Rq (Rq (bif (s5.2.1==(s.size:Int)) then Nn Nk else gd (Nq<|0<=s5.2.1/\s5.2.1<(s.size:Int)) <|Nn<|((s.data.getD s5.2.1.toNat 0).toNat:Int)==c) λs10=>bif s10 then gd (Nq<|0<=s5.2.2/\s5.2.2<=s5.2.1/\s5.2.1<=(s.size:Int)) <|gd (dS (s5.1.length+1) 16) <|gd (M3 .i64<|s5.2.1+(1:Int)) <|Nn ((s5.1++[(s.extract s5.2.2.toNat s5.2.1.toNat)]),(s5.2.1+(1:Int))) else Nn (s5.1,s5.2.2)) λs9=>gd (M3 .i64<|s5.2.1+(1:Int)) <|Nn (.inl (s9.1,(s5.2.1+(1:Int)),s9.2)) else Nn (.inr s5.1)
def l8 (s:BA) (c:Int):Option (List BA):= Rq (aV (nW s c) (([]:List BA),(0:Int),(0:Int))) λs1=>Nn s1
def bQ (s:BA) (at_:Int) (from_:Int) (most:Int):Option Int:= Rq (bif Nq ((s.size:Int)<=at_) then Nn Nk else gd (Nq<|0<=at_/\at_<(s.size:Int)) <|Nn<|Nq<|((s.data.getD at_.toNat 0).toNat:Int)<from_) λs1=>Rq (bif s1 then Nn Nk else gd (Nq<|0<=at_/\at_<(s.size:Int)) <|gd (M3 .u8<|((s.data.getD at_.toNat 0).toNat:Int)-from_) <|gd (M3 .i64<|((s.data.getD at_.toNat 0).toNat:Int)-from_) <|Nn<|Nq<|most<(((s.data.getD at_.toNat 0).toNat:Int)-from_)) λs4=>bif s4 then Nn (-1:Int) else gd (Nq<|0<=at_/\at_<(s.size:Int)) <|gd (M3 .u8<|((s.data.getD at_.toNat 0).toNat:Int)-from_) <|gd (M3 .i64<|((s.data.getD at_.toNat 0).toNat:Int)-from_) <|Nn<|((s.data.getD at_.toNat 0).toNat:Int)-from_
def nu (s:BA):Option M5:= bif Nq (s=(⟨#[102,101,110,99,101]⟩:BA)) then Nn (⟨(4:Int),(0:Int),(0:Int),(0:Int)⟩:M5) else Rq (bQ s (0:Int) (97:Int) (2:Int)) λv2=>Rq (bQ s (0:Int) (120:Int) (2:Int)) λv3=>Rq (bif Nq ((0:Int)<=v2) then Nn ((s.size:Int)==(3:Int)) else Nn Nl) λs4=>bif s4 then Rq (bQ s (2:Int) (120:Int) (2:Int)) λv7=>Nn (⟨(1:Int),v7,v2,(0:Int)⟩:M5) else Rq (bif Nq ((0:Int)<=v2) then Nn ((s.size:Int)==(5:Int)) else Nn Nl) λs8=>bif s8 then Rq (bQ s (2:Int) (120:Int) (2:Int)) λv11=>Rq (bQ s (4:Int) (48:Int) (3:Int)) λv12=>Nn (⟨(5:Int),v11,v2,v12⟩:M5) else Rq (bif Nq ((0:Int)<=v3) then Rq (bQ s (2:Int) (97:Int) (2:Int)) λv15=>Nn (Nq<|(0:Int)<=v15) else Nn Nl) λs13=>bif s13 then Rq (bQ s (2:Int) (97:Int) (2:Int)) λv17=>Nn (⟨(3:Int),v3,v17,(0:Int)⟩:M5) else Rq (bQ s (2:Int) (48:Int) (3:Int)) λv18=>Nn (⟨(2:Int),v3,(0:Int),v18⟩:M5)
def jS (p:List<|List M5) (s4:Int×BA):LS (Int×BA) BA:=λs13=>gd (Nq<|0<=s4.1/\s4.1<(p.length:Int)) <|bif Nq (s13.1<((J p s4.1).length:Int)) then Rq (bif Nq ((0:Int)<s13.1) then gd (Nq<|s13.2.size+(⟨#[59]⟩:BA).size<=9223372036854775807) <|Nn (s13.2++(⟨#[59]⟩:BA)) else Nn s13.2) λs17=>gd (Nq<|0<=s13.1/\s13.1<((J p s4.1).length:Int)) <|Rq (oO<|J (J p s4.1) s13.1) λv21=>gd (Nq<|s17.size+v21.size<=9223372036854775807) <|gd (M3 .i64<|s13.1+(1:Int)) <|Nn (.inl ((s13.1+(1:Int)),(s17++v21))) else Nn (.inr s13.2)
def kR (p:List<|List M5):LS (Int×BA) BA:=λs4=>bif Nq (s4.1<(p.length:Int)) then Rq (Rq (bif Nq ((0:Int)<s4.1) then gd (Nq<|s4.2.size+(⟨#[124]⟩:BA).size<=9223372036854775807) <|Nn (s4.2++(⟨#[124]⟩:BA)) else Nn s4.2) λs8=>aV (jS p s4) ((0:Int),s8)) λs7=>gd (M3 .i64<|s4.1+(1:Int)) <|Nn (.inl ((s4.1+(1:Int)),s7)) else Nn (.inr s4.2)
def kD (p:List<|List M5):Option BA:= Rq (aV (kR p) ((0:Int),(⟨#[]⟩:BA))) λs1=>Nn s1
def ij (v1:(List BA)) (s6:(List<|List M5)×Int) (v14:(List BA)):LS ((List M5)×Int) (List M5):=λs19=>Rq (bif Nq (s19.2<(v14.length:Int)) then Nn (Nq<|s19.2<=(7:Int)) else Nn Nl) λs22=>Rq (bif s22 then Nn (!decide ((J v1 s6.2)=(⟨#[]⟩:BA))) else Nn Nl) λs24=>bif s24 then gd (Nq<|0<=s19.2/\s19.2<(v14.length:Int)) <|Rq (nu<|J v14 s19.2) λv28=>gd (dS (s19.1.length+1) 32) <|gd (M3 .i64<|s19.2+(1:Int)) <|Nn (.inl ((s19.1++[v28]),(s19.2+(1:Int)))) else Nn (.inr s19.1)
def iJ (v1:(List BA)):LS ((List<|List M5)×Int) (List<|List M5):=λs6=>Rq (bif Nq (s6.2<(v1.length:Int)) then Nn (Nq<|s6.2<=(3:Int)) else Nn Nl) λs9=>bif s9 then Rq (gd (Nq<|0<=s6.2/\s6.2<(v1.length:Int)) <|Rq (l8 (J v1 s6.2) (59:Int)) λv14=>Rq (aV (ij v1 s6 v14) (([]:List M5),(0:Int))) λs15=>gd (dS (s6.1.length+1) 24) <|Nn<|s6.1++[s15]) λs12=>gd (M3 .i64<|s6.2+(1:Int)) <|Nn (.inl (s12,(s6.2+(1:Int)))) else Nn (.inr s6.1)
def bJ (text:BA):Option ((List<|List M5)×Bool):= Rq (l8 text (124:Int)) λv1=>Rq (aV (iJ v1) (([]:List<|List M5),(0:Int))) λs2=>Rq (bU s2) λv36=>Rq (bif !v36 then Nn Nk else Rq (kD s2) λv39=>Nn<|!decide (v39=text)) λs37=>bif s37 then Nn (([]:List<|List M5),Nl) else Nn (s2,Nk)
def kr (r_:ah):Option (ah×M5):= Rq (aH (⟨r_.b,r_.p⟩:ah) (2:Int)) λv1=>Rq (aH (⟨v1.1.b,v1.1.p⟩:ah) (7:Int)) λv2=>bif (v2.2==(0:Int)) then Nn ((⟨v2.1.b,v2.1.p⟩:ah),(⟨(4:Int),(0:Int),(0:Int),(0:Int)⟩:M5)) else bif (v2.2==(1:Int)) then Rq (aH (⟨v2.1.b,v2.1.p⟩:ah) (2:Int)) λv5=>Nn ((⟨v5.1.b,v5.1.p⟩:ah),(⟨(3:Int),v1.2,v5.2,(0:Int)⟩:M5)) else bif (v2.2==(2:Int)) then Rq (aH (⟨v2.1.b,v2.1.p⟩:ah) (2:Int)) λv7=>Rq (aH (⟨v7.1.b,v7.1.p⟩:ah) (3:Int)) λv8=>gd (M3 .i64<|(1:Int)+v8.2) <|Nn ((⟨v8.1.b,v8.1.p⟩:ah),(⟨(5:Int),v1.2,v7.2,((1:Int)+v8.2)⟩:M5)) else Rq (bif (v2.2==(3:Int)) then Nn (v2.2==(3:Int)) else Nn (v2.2==(4:Int))) λs10=>bif s10 then Rq (aH (⟨v2.1.b,v2.1.p⟩:ah) (3:Int)) λv13=>gd (M3 .i64<|(1:Int)+v13.2) <|Nn ((⟨v13.1.b,v13.1.p⟩:ah),(⟨(2:Int),v1.2,(0:Int),((1:Int)+v13.2)⟩:M5)) else Rq (aH (⟨v2.1.b,v2.1.p⟩:ah) (2:Int)) λv15=>Nn ((⟨v15.1.b,v15.1.p⟩:ah),(⟨(1:Int),v1.2,v15.2,(0:Int)⟩:M5))
def mX:LS ((LI)×Int×(List M5)×Int) ((LI)×Int×(List M5)):=λs24=>bif Nq ((0:Int)<s24.2.2.2) then Rq (kr (⟨s24.1,s24.2.1⟩:ah)) λv28=>gd (dS (s24.2.2.1.length+1) 32) <|gd (M3 .i64<|s24.2.2.2-(1:Int)) <|Nn (.inl (v28.1.b,v28.1.p,(s24.2.2.1++[v28.2]),(s24.2.2.2-(1:Int)))) else Nn (.inr (s24.1,s24.2.1,s24.2.2.1))
def mY:LS ((LI)×Int×(List<|List M5)×Int) ((LI)×Int×(List<|List M5)):=λs14=>bif Nq ((0:Int)<s14.2.2.2) then Rq (Rq (Rq (bC (⟨s14.1,s14.2.1⟩:ah) ([(2:Int),(1:Int),(3:Int),(2:Int),(0:Int)]:LI)) λv20=>aV mX (v20.1.b,v20.1.p,([]:List M5),v20.2)) λs19=>gd (dS (s14.2.2.1.length+1) 24) <|Nn (s19.1,s19.2.1,(s14.2.2.1++[s19.2.2]))) λs18=>gd (M3 .i64<|s14.2.2.2-(1:Int)) <|Nn (.inl (s18.1,s18.2.1,s18.2.2,(s14.2.2.2-(1:Int)))) else Nn (.inr (s14.1,s14.2.1,s14.2.2.1))
def oP (r_:ah):Option (ah×(List<|List M5)):= Rq (iD) λv1=>sumK (Rq (aH (⟨r_.b,r_.p⟩:ah) (3:Int)) λv3=>bif Nq ((0:Int)<v3.2) then Rq (aH (⟨v3.1.b,v3.1.p⟩:ah) (v1.length:Int)) λv5=>gd (Nq<|0<=v5.2/\v5.2<(v1.length:Int)) <|Rq (bJ<|J v1 v5.2) λv7=>bif v7.2 then Nn (.inr ((⟨v5.1.b,v5.1.p⟩:ah),v7.1)) else Nn (.inl (v5.1.b,v5.1.p)) else Nn (.inl (v3.1.b,v3.1.p))) λs2=>Rq (Rq (bC (⟨s2.1,s2.2⟩:ah) ([(2:Int),(3:Int),(1:Int)]:LI)) λv10=>aV mY (v10.1.b,v10.1.p,([]:List<|List M5),v10.2)) λs9=>Rq (bU s9.2.2) λv36=>bif v36 then Nn ((⟨s9.1,s9.2.1⟩:ah),s9.2.2) else Rq (kr (⟨s9.1,s9.2.1⟩:ah)) λv38=>Nn ((⟨v38.1.b,v38.1.p⟩:ah),([([v38.2]:List M5)]:List<|List M5))
def qy (p:List<|List M5) (loc:Int) (writes:Bool) (s4:Int×Int):LS (Int×Int) Int:=λs10=>gd (Nq<|0<=s4.1/\s4.1<(p.length:Int)) <|bif Nq (s10.1<((J p s4.1).length:Int)) then Rq (gd (Nq<|0<=s10.1/\s10.1<((J p s4.1).length:Int)) <|Rq (bif (((J (J p s4.1) s10.1).Loc)==loc) then Rq (bif writes then Rq (lK (⟨(J (J p s4.1) s10.1).Op,(J (J p s4.1) s10.1).Loc,(J (J p s4.1) s10.1).Reg,(J (J p s4.1) s10.1).Val⟩:M5)) λv20=>Nn v20 else Nn Nl) λs18=>Rq (bif s18 then Nn Nk else Rq (bif !writes then Rq (m8 (⟨(J (J p s4.1) s10.1).Op,(J (J p s4.1) s10.1).Loc,(J (J p s4.1) s10.1).Reg,(J (J p s4.1) s10.1).Val⟩:M5)) λv25=>Nn v25 else Nn Nl) λs23=>Nn s23) λs21=>Nn s21 else Nn Nl) λs16=>bif s16 then gd (M3 .i64<|s10.2+(1:Int)) <|Nn (s10.2+(1:Int)) else Nn s10.2) λs14=>gd (M3 .i64<|s10.1+(1:Int)) <|Nn (.inl ((s10.1+(1:Int)),s14)) else Nn (.inr s10.2)
def rz (p:List<|List M5) (loc:Int) (writes:Bool):LS (Int×Int) Int:=λs4=>bif Nq (s4.1<(p.length:Int)) then Rq (aV (qy p loc writes s4) ((0:Int),s4.2)) λs7=>gd (M3 .i64<|s4.1+(1:Int)) <|Nn (.inl ((s4.1+(1:Int)),s7)) else Nn (.inr s4.2)
def ku (p:List<|List M5) (loc:Int) (writes:Bool):Option Int:= Rq (aV (rz p loc writes) ((0:Int),(0:Int))) λs1=>Nn s1
def qA (p:List<|List M5) (most:Int) (s4:Int×Int) (v8:Int):LS (Int×Int) Int:=λs12=>Rq (ku p s4.1 Nl) λv14=>Rq (bif Nq (s12.1<v14) then Nn (Nq<|s12.2<=most) else Nn Nl) λs15=>bif s15 then gd (M3 .i64<|v8+(1:Int)) <|gd (M3 .i64<|s12.2*(v8+(1:Int))) <|gd (M3 .i64<|s12.1+(1:Int)) <|Nn (.inl ((s12.1+(1:Int)),(s12.2*(v8+(1:Int))))) else Nn (.inr s12.2)
def qB (most:Int) (v8:Int):LS (Int×Int) Int:=λs23=>Rq (bif Nq (s23.1<=v8) then Nn (Nq<|s23.2<=most) else Nn Nl) λs25=>bif s25 then gd (M3 .i64<|s23.2*s23.1) <|gd (M3 .i64<|s23.1+(1:Int)) <|Nn (.inl ((s23.1+(1:Int)),(s23.2*s23.1))) else Nn (.inr s23.2)
def rA (p:List<|List M5) (most:Int):LS (Int×Int) Int:=λs4=>bif Nq (s4.1<=(2:Int)) then Rq (Rq (ku p s4.1 Nk) λv8=>Rq (aV (qA p most s4 v8) ((0:Int),s4.2)) λs9=>aV (qB most v8) ((2:Int),s9)) λs7=>gd (M3 .i64<|s4.1+(1:Int)) <|Nn (.inl ((s4.1+(1:Int)),s7)) else Nn (.inr s4.2)
def ny (p:List<|List M5) (most:Int):Option Int:= Rq (aV (rA p most) ((0:Int),(1:Int))) λs1=>bif Nq (most<s1) then gd (M3 .i64<|most+(1:Int)) <|Nn (most+(1:Int)) else Nn s1
def nz (r_:ah):Option (ah×(List<|List M5)):= Rq (oP (⟨r_.b,r_.p⟩:ah)) λv1=>Rq (ny v1.2 (200:Int)) λv2=>bif Nq (v2<=(200:Int)) then Nn ((⟨v1.1.b,v1.1.p⟩:ah),v1.2) else Rq (bJ (⟨#[120,61,49,59,97,61,121,124,121,61,49,59,97,61,120]⟩:BA)) λv4=>Nn ((⟨v1.1.b,v1.1.p⟩:ah),v4.1)
def oQ (n:Int):Option BA:=bif Nq (0<=n/\n<=9) then Nn (strOfNums ([((48:Int)+n)]:LI)++(⟨#[]⟩:BA)) else Np
theorem strOfNums_size (l:LI):(strOfNums l).size=l.length:=by
 simp [strOfNums,ByteArray.size]
theorem xU (n:Int):Le (oQ n) (oM n):=by
 intro v h;unfold oQ at h
 by_cases hn:0<=n/\n<=9
 ·rw [decide_eq_true hn] at h;obtain rfl:=osl h;refine wV 1 λk hk=>?_
  match k,hk with
  | k+1,_=>
   show lY (iZ k) n=_;refine M9.eq ?_;unfold lY;refine .bifD (λh=>by omega) λ_ => .bifD (λh=>by omega) λ_=>?_;refine M9.bind (P:=(· = ((⟨#[]⟩:BA),n))) ?_ λs hs=>?_
   ·refine M9.loop (λs=>s=((⟨#[]⟩:BA),n)) (λ_=>0) rfl λs hs=>?_;subst hs;unfold ru;exact .bifD (λh=>by simp only [] at h;omega) λ_ => .pure rfl
   subst hs;refine .gdI (by simp only [];omega) (.gdY (by simp only [];omega)<|.gdD ?_<|.pure rfl);rw [strOfNums_size];exact nlb rfl
 rw [decide_eq_false hn] at h
 cases h
def nX (name:BA):Option BA:=
 bif Nq (name=(⟨#[115,101,113]⟩:BA)) then
  Nn (⟨#[97,99,121,99,108,105,99,32,112,111,124,114,102,124,99,111,124,102,114]⟩:BA)
 else
  bif Nq (name=(⟨#[116,115,111]⟩:BA)) then
   Nn (⟨#[97,99,121,99,108,105,99,32,112,111,38,108,111,99,124,114,102,124,99,111,124,102,114,47,97,99,121,99,108,105,99,32,112,111,45,119,114,124,102,101,110,99,101,124,114,102,38,101,120,116,124,99,111,124,102,114,47,105,114,114,101,102,32,102,114,59,99,111]⟩:BA)
  else
   bif Nq (name=(⟨#[112,115,111]⟩:BA)) then
    Nn (⟨#[97,99,121,99,108,105,99,32,112,111,38,108,111,99,124,114,102,124,99,111,124,102,114,47,97,99,121,99,108,105,99,32,112,111,45,40,119,114,124,119,119,41,124,102,101,110,99,101,124,114,102,38,101,120,116,124,99,111,124,102,114,47,105,114,114,101,102,32,102,114,59,99,111]⟩:BA)
   else
    bif Nq (name=(⟨#[114,97]⟩:BA)) then
     Nn (⟨#[97,99,121,99,108,105,99,32,112,111,124,114,102,47,97,99,121,99,108,105,99,32,43,40,112,111,124,114,102,41,38,108,111,99,124,99,111,124,102,114,47,105,114,114,101,102,32,102,114,59,99,111]⟩:BA)
    else
     bif Nq (name=(⟨#[108,111,99]⟩:BA)) then
      Nn (⟨#[97,99,121,99,108,105,99,32,112,111,38,108,111,99,124,114,102,124,99,111,124,102,114]⟩:BA)
     else
      Nn (⟨#[]⟩:BA)
theorem vk (name:BA):Le (nX name) (kx name):=by
 unfold nX kx
 solve_by_elim (maxDepth:=9999) only [*,Le.gd,Le.bif,Le.bind,Le.sumK,Le.loop,Le.nilK,Le.ifc,Le.refl]
def cJ (s:BA) (c:Int):Option Int:=
 Nn (LP s c)
theorem kS (s:BA) (c:Int):Le (cJ s c) (bG s c):=by
 unfold cJ bG
 solve_by_elim (maxDepth:=9999) only [*,Le.gd,Le.bif,Le.bind,Le.sumK,Le.loop,Le.nilK,Le.ifc,Le.refl]
def bW (s:BA) (substr:BA):Option Int:=
 Rq (bif ((substr.size:Int)==(0:Int)) then
  Nn Nk
 else
  Nn (Nq<|substr=s)
 ) λs1=>
 bif s1 then
  Nn (0:Int)
 else
  bif ((substr.size:Int)==(1:Int)) then
   gd (Nq<|0<=(0:Int)/\(0:Int)<(substr.size:Int)) <|
   Rq (cJ s ((substr.data.getD (0:Int).toNat 0).toNat:Int)) λv6=>
   Nn v6
  else
   bif Nq ((s.size:Int)<=(substr.size:Int)) then
    Nn (-1:Int)
   else
    Np
theorem gH (s:BA) (substr:BA):Le (bW s substr) (bD s substr):=by
 unfold bW bD
 solve_by_elim (maxDepth:=9999) only [*,kS,Le.gd,Le.bif,Le.bind,Le.sumK,Le.loop,Le.nilK,Le.ifc,Le.refl]
def l9 (s:BA) (substr:BA):Option Int:=
 Rq (bW s substr) λv1=>
 Nn v1
theorem qE (s:BA) (substr:BA):Le (l9 s substr) (iW s substr):=by
 unfold l9 iW
 solve_by_elim (maxDepth:=9999) only [*,gH,Le.gd,Le.bif,Le.bind,Le.sumK,Le.loop,Le.nilK,Le.ifc,Le.refl]
def ma (substr:BA):(Int×BA)->Option ((Int×BA) ⊕ Int):=λs6=>
 Rq (l9 s6.2 substr) λv8=>
 bif (v8==(-1:Int)) then
  Nn (.inr s6.1)
 else
  gd (M3 .i64<|s6.1+(1:Int)) <|
  gd (M3 .i64<|v8+(substr.size:Int)) <|
  gd (Nq<|0<=(v8+(substr.size:Int))/\(v8+(substr.size:Int))<=(s6.2.size:Int)/\(s6.2.size:Int)<=(s6.2.size:Int)) <|
  Nn (.inl ((s6.1+(1:Int)),(s6.2.extract (v8+(substr.size:Int)).toNat (s6.2.size:Int).toNat)))
theorem tQ (substr:BA) (sQ:_):Le (ma substr sQ) (lL substr sQ):=by
 unfold ma lL
 solve_by_elim (maxDepth:=9999) only [*,qE,Le.gd,Le.bif,Le.bind,Le.sumK,Le.loop,Le.nilK,Le.ifc,Le.refl]
def pW (s:BA) (substr:BA):Option Int:=
 bif ((substr.size:Int)==(0:Int)) then
  Np
 else
  bif ((substr.size:Int)==(1:Int)) then
   gd (Nq<|0<=(0:Int)/\(0:Int)<(substr.size:Int)) <|
   Nn (LO s ((substr.data.getD (0:Int).toNat 0).toNat:Int))
  else
   nI 60 (ma substr) ((0:Int),s)
theorem ww (s:BA) (substr:BA):Le (pW s substr) (lM s substr):=by
 unfold pW lM
 solve_by_elim (maxDepth:=9999) only [*,tQ,Le.gd,Le.bif,Le.bind,Le.sumK,Le.loop,Le.nilK,Le.ifc,Le.refl]
def iK (s:BA) (sep:BA) (sepSave:Int) (s3:Int):((List BA)×Int×BA)->Option (((List BA)×Int×BA) ⊕ ((List BA)×Int×BA)):=λs14=>
 bif Nq (s14.2.1<((if ((s.size:Int)+(1:Int))<s3 then ((s.size:Int)+(1:Int)) else s3)-(1:Int))) then
  Rq (l9 s14.2.2 sep) λv18=>
  bif Nq (v18<(0:Int)) then
   Nn (.inr (s14.1,s14.2.1,s14.2.2))
  else
   gd (M3 .i64<|v18+sepSave) <|
   gd (Nq<|0<=(0:Int)/\(0:Int)<=(v18+sepSave)/\(v18+sepSave)<=(s14.2.2.size:Int)) <|
   gd (Nq<|0<=s14.2.1/\s14.2.1<(s14.1.length:Int)) <|
   gd (M3 .i64<|v18+(sep.size:Int)) <|
   gd (Nq<|0<=(v18+(sep.size:Int))/\(v18+(sep.size:Int))<=(s14.2.2.size:Int)/\(s14.2.2.size:Int)<=(s14.2.2.size:Int)) <|
   gd (M3 .i64<|s14.2.1+(1:Int)) <|
   Nn (.inl ((s14.1.set s14.2.1.toNat<|s14.2.2.extract (0:Int).toNat (v18+sepSave).toNat),(s14.2.1+(1:Int)),(s14.2.2.extract (v18+(sep.size:Int)).toNat (s14.2.2.size:Int).toNat)))
 else
  Nn (.inr (s14.1,s14.2.1,s14.2.2))
theorem qL (s:BA) (sep:BA) (sepSave:Int) (s3:Int) (sQ:_):Le (iK s sep sepSave s3 sQ) (iF s sep sepSave s3 sQ):=by
 unfold iK iF
 solve_by_elim (maxDepth:=9999) only [*,qE,Le.gd,Le.bif,Le.bind,Le.sumK,Le.loop,Le.nilK,Le.ifc,Le.refl]
def mb (s:BA) (sep:BA) (sepSave:Int) (n:Int):Option (List BA):=
 bif (n==(0:Int)) then
  Nn ([]:List BA)
 else
  bif Nq (sep=(⟨#[]⟩:BA)) then
   Np
  else
   Rq (
    bif Nq (n<(0:Int)) then
     Rq (pW s sep) λv5=>
     gd (M3 .i64<|v5+(1:Int)) <|
     Nn (v5+(1:Int))
    else
     Nn n
   ) λs3=>
   gd (M3 .i64<|(s.size:Int)+(1:Int)) <|
   gd (Nq<|0<=(if ((s.size:Int)+(1:Int))<s3 then ((s.size:Int)+(1:Int)) else s3)/\(if ((s.size:Int)+(1:Int))<s3 then ((s.size:Int)+(1:Int)) else s3)<=(if ((s.size:Int)+(1:Int))<s3 then ((s.size:Int)+(1:Int)) else s3)/\(if ((s.size:Int)+(1:Int))<s3 then ((s.size:Int)+(1:Int)) else s3)*((16:Nat):Int)<=140737488355328/\(if ((s.size:Int)+(1:Int))<s3 then ((s.size:Int)+(1:Int)) else s3)<=140737488355328) <|
   gd (M3 .i64<|(if ((s.size:Int)+(1:Int))<s3 then ((s.size:Int)+(1:Int)) else s3)-(1:Int)) <|
   Rq (
    nI 60 (iK s sep sepSave s3) ((Rs (if ((s.size:Int)+(1:Int))<s3 then ((s.size:Int)+(1:Int)) else s3).toNat (Nj:BA)),(0:Int),s)
   ) λs10=>
   gd (Nq<|0<=s10.2.1/\s10.2.1<(s10.1.length:Int)) <|
   gd (M3 .i64<|s10.2.1+(1:Int)) <|
   gd (Nq<|0<=(0:Int)/\(0:Int)<=(s10.2.1+(1:Int))/\(s10.2.1+(1:Int))<=((s10.1.set s10.2.1.toNat s10.2.2).length:Int)) <|
   Nn (((s10.1.set s10.2.1.toNat s10.2.2).drop (0:Int).toNat).take<|(s10.2.1+(1:Int)).toNat-(0:Int).toNat)
theorem tV (s:BA) (sep:BA) (sepSave:Int) (n:Int):Le (mb s sep sepSave n) (iP s sep sepSave n):=by
 unfold mb iP
 solve_by_elim (maxDepth:=9999) only [*,ww,qL,Le.gd,Le.bif,Le.bind,Le.sumK,Le.loop,Le.nilK,Le.ifc,Le.refl]
def pX (s:BA) (sep:BA):Option (List BA):=
 Rq (mb s sep (0:Int) (-1:Int)) λv1=>
 Nn v1
theorem wy (s:BA) (sep:BA):Le (pX s sep) (lN s sep):=by
 unfold pX lN
 solve_by_elim (maxDepth:=9999) only [*,tV,Le.gd,Le.bif,Le.bind,Le.sumK,Le.loop,Le.nilK,Le.ifc,Le.refl]
def eX (s:BA) (sep:BA):Option (ByteArray×ByteArray×Bool):=
 Rq (bW s sep) λv1=>
 bif Nq ((0:Int)<=v1) then
  gd (Nq<|0<=(0:Int)/\(0:Int)<=v1/\v1<=(s.size:Int)) <|
  gd (M3 .i64<|v1+(sep.size:Int)) <|
  gd (Nq<|0<=(v1+(sep.size:Int))/\(v1+(sep.size:Int))<=(s.size:Int)/\(s.size:Int)<=(s.size:Int)) <|
  Nn ((s.extract (0:Int).toNat v1.toNat),(s.extract (v1+(sep.size:Int)).toNat (s.size:Int).toNat),Nk)
 else
  Nn (s,(⟨#[]⟩:BA),Nl)
theorem nY (s:BA) (sep:BA):Le (eX s sep) (cN s sep):=by
 unfold eX cN
 solve_by_elim (maxDepth:=9999) only [*,gH,Le.gd,Le.bif,Le.bind,Le.sumK,Le.loop,Le.nilK,Le.ifc,Le.refl]
def rY (s:BA) (sep:BA):Option (ByteArray×ByteArray×Bool):=
 Rq (eX s sep) λv1=>
 Nn (v1.1,v1.2.1,v1.2.2)
theorem xV (s:BA) (sep:BA):Le (rY s sep) (oK s sep):=by
 unfold rY oK
 solve_by_elim (maxDepth:=9999) only [*,nY,Le.gd,Le.bif,Le.bind,Le.sumK,Le.loop,Le.nilK,Le.ifc,Le.refl]
def dh (s:List BA) (v:BA):Int->Option (Int ⊕ (Unit ⊕ Int)):=λs4=>
 bif Nq (s4<(s.length:Int)) then
  gd (Nq<|0<=s4/\s4<(s.length:Int)) <|
  bif Nq (v=(s.getD s4.toNat Nj)) then
   Nn (.inr<|.inr s4)
  else
   gd (M3 .i64<|s4+(1:Int)) <|
   Nn (.inl<|s4+(1:Int))
 else
  Nn (.inr<|.inl ())
theorem lm (s:List BA) (v:BA) (sQ:_):Le (dh s v sQ) (bL s v sQ):=by
 unfold dh bL J
 solve_by_elim (maxDepth:=9999) only [*,Le.gd,Le.bif,Le.bind,Le.sumK,Le.loop,Le.nilK,Le.ifc,Le.refl]
def bX (s:List BA) (v:BA):Option Int:=
 sumK (
  nI 60 (dh s v) (0:Int)
 ) λs1=>
 Nn (-1:Int)
theorem gK (s:List BA) (v:BA):Le (bX s v) (aU s v):=by
 unfold bX aU
 solve_by_elim (maxDepth:=9999) only [*,lm,Le.gd,Le.bif,Le.bind,Le.sumK,Le.loop,Le.nilK,Le.ifc,Le.refl]
def bK (r_:aa) (c:Int):Option (aa×Bool):=
 Rq (bif r_.failed then
  Nn Nk
 else
  Nn (Nq<|r_.rest=(⟨#[]⟩:BA))
 ) λs1=>
 Rq (bif s1 then
  Nn Nk
 else
  gd (Nq<|0<=(0:Int)/\(0:Int)<(r_.rest.size:Int)) <|
  Nn (((r_.rest.data.getD (0:Int).toNat 0).toNat:Int) != c)
 ) λs3=>
 bif s3 then
  Nn ((⟨r_.rest,r_.failed⟩:aa),Nl)
 else
  gd (Nq<|0<=(1:Int)/\(1:Int)<=(r_.rest.size:Int)/\(r_.rest.size:Int)<=(r_.rest.size:Int)) <|
  Nn ((⟨(r_.rest.extract (1:Int).toNat (r_.rest.size:Int).toNat),r_.failed⟩:aa),Nk)
theorem kZ (r_:aa) (c:Int):Le (bK r_ c) (bv r_ c):=by
 unfold bK bv
 solve_by_elim (maxDepth:=9999) only [*,Le.gd,Le.bif,Le.bind,Le.sumK,Le.loop,Le.nilK,Le.ifc,Le.refl]
def gL (r_:aa):Int->Option (Int ⊕ Int):=λs4=>
 Rq (bif Nq (s4<(r_.rest.size:Int)) then
  gd (Nq<|0<=s4/\s4<(r_.rest.size:Int)) <|
  Nn (Nq<|(97:Int)<=((r_.rest.data.getD s4.toNat 0).toNat:Int))
 else
  Nn Nl
 ) λs6=>
 Rq (bif s6 then
  gd (Nq<|0<=s4/\s4<(r_.rest.size:Int)) <|
  Nn (Nq<|((r_.rest.data.getD s4.toNat 0).toNat:Int)<=(122:Int))
 else
  Nn Nl
 ) λs9=>
 bif s9 then
  gd (M3 .i64<|s4+(1:Int)) <|
  Nn (.inl<|s4+(1:Int))
 else
  Nn (.inr s4)
theorem pY (r_:aa) (sQ:_):Le (gL r_ sQ) (f9 r_ sQ):=by
 unfold gL f9
 solve_by_elim (maxDepth:=9999) only [*,Le.gd,Le.bif,Le.bind,Le.sumK,Le.loop,Le.nilK,Le.ifc,Le.refl]
def jc (r_:aa):Option (aa×BA):=
 Rq (
  nI 60 (gL r_) (0:Int)
 ) λs1=>
 gd (Nq<|0<=(0:Int)/\(0:Int)<=s1/\s1<=(r_.rest.size:Int)) <|
 gd (Nq<|0<=s1/\s1<=(r_.rest.size:Int)/\(r_.rest.size:Int)<=(r_.rest.size:Int)) <|
 Nn ((⟨(r_.rest.extract s1.toNat (r_.rest.size:Int).toNat),r_.failed⟩:aa),(r_.rest.extract (0:Int).toNat s1.toNat))
theorem rB (r_:aa):Le (jc r_) (fq r_):=by
 unfold jc fq
 solve_by_elim (maxDepth:=9999) only [*,pY,Le.gd,Le.bif,Le.bind,Le.sumK,Le.loop,Le.nilK,Le.ifc,Le.refl]
def dK (dH:aa->Int->Option (aa×ae)) (rcf:aa->Option (aa×ae)) (r_:aa):Option (aa×ae):=
 Rq (bK (⟨r_.rest,r_.failed⟩:aa) (40:Int)) λv1=>
 bif v1.2 then
  Rq (dH (⟨v1.1.rest,v1.1.failed⟩:aa) (3:Int)) λv3=>
  Rq (
   Rq (bK (⟨v3.1.rest,v3.1.failed⟩:aa) (41:Int)) λv5=>
   bif !v5.2 then
    Nn (v5.1.rest,Nk)
   else
    Nn (v5.1.rest,v5.1.failed)
  ) λs4=>
  Nn ((⟨s4.1,s4.2⟩:aa),(⟨v3.2.Op,v3.2.Name,v3.2.Kids⟩:ae))
 else
  Rq (bK (⟨v1.1.rest,v1.1.failed⟩:aa) (126:Int)) λv7=>
  bif v7.2 then
   Rq (rcf (⟨v7.1.rest,v7.1.failed⟩:aa)) λv9=>
   Nn ((⟨v9.1.rest,v9.1.failed⟩:aa),(⟨(6:Int),(⟨#[]⟩:BA),([v9.2.inn]:List ZTE)⟩:ae))
  else
   Rq (bK (⟨v7.1.rest,v7.1.failed⟩:aa) (43:Int)) λv10=>
   bif v10.2 then
    Rq (rcf (⟨v10.1.rest,v10.1.failed⟩:aa)) λv12=>
    Nn ((⟨v12.1.rest,v12.1.failed⟩:aa),(⟨(7:Int),(⟨#[]⟩:BA),([v12.2.inn]:List ZTE)⟩:ae))
   else
    Rq (jc (⟨v10.1.rest,v10.1.failed⟩:aa)) λv13=>
    Rq (
     bif Nq (v13.2=(⟨#[]⟩:BA)) then
      Nn Nk
     else
      Nn v13.1.failed
    ) λs14=>
    Nn ((⟨v13.1.rest,s14⟩:aa),(⟨(1:Int),v13.2,([]:List ZTE)⟩:ae))
theorem mI (dH:aa->Int->Option (aa×ae)) (qj:aa->Int->Option (aa×ae)) (xI:∀ x0 x1,Le (dH x0 x1)<|qj x0 x1) (rcf:aa->Option (aa×ae)) (rcf':aa->Option (aa×ae)) (hrcf:∀ x0,Le (rcf x0)<|rcf' x0) (r_:aa):Le (dK dH rcf r_) (bR qj rcf' r_):=by
 unfold dK bR
 solve_by_elim (maxDepth:=9999) only [*,kZ,rB,xI,hrcf,Le.gd,Le.bif,Le.bind,Le.sumK,Le.loop,Le.nilK,Le.ifc,Le.refl]
def dL (dH:aa->Int->Option (aa×ae)):Nat->aa->Option (aa×ae)
 | 0=>λ_=>Np
 | n+1=>dK dH (dL dH n)
def jd (dH:aa->Int->Option (aa×ae)) (r_:aa):Option (aa×ae):=dL dH 40 r_
theorem fQ (dH:aa->Int->Option (aa×ae)) (qj:aa->Int->Option (aa×ae)) (xI:∀ x0 x1,Le (dH x0 x1)<|qj x0 x1):∀ (n m:Nat),n<=m->∀ x0,Le (dL dH n x0) (bB qj m x0)
 | 0,_,_=>λx0 v h=>by cases h
 | n+1,0,h=>absurd h (Rz _)
 | n+1,m+1,h=>λx0=>mI dH qj xI _ _ (fQ dH qj xI n m<|RA h) x0
theorem nJ (dH:aa->Int->Option (aa×ae)) (qj:aa->Int->Option (aa×ae)) (xI:∀ x0 x1,Le (dH x0 x1)<|qj x0 x1) (r_:aa):Le (jd dH r_) (dX qj r_):=λv h=>wV 40 λm hm=>fQ dH qj xI 40 m hm r_ v h
def je (op:Int):Option (Int×ByteArray×Int):=
 bif (op==(1:Int)) then
  Nn ((0:Int),(⟨#[]⟩:BA),(0:Int))
 else
  bif (op==(2:Int)) then
   Nn ((3:Int),(⟨#[124]⟩:BA),(2:Int))
  else
   bif (op==(3:Int)) then
    Nn ((2:Int),(⟨#[38]⟩:BA),(2:Int))
   else
    bif (op==(4:Int)) then
     Nn ((2:Int),(⟨#[45]⟩:BA),(2:Int))
    else
     bif (op==(5:Int)) then
      Nn ((1:Int),(⟨#[59]⟩:BA),(2:Int))
     else
      bif (op==(6:Int)) then
       Nn ((0:Int),(⟨#[126]⟩:BA),(1:Int))
      else
       bif (op==(7:Int)) then
        Nn ((0:Int),(⟨#[43]⟩:BA),(1:Int))
       else
        Nn ((0:Int),(⟨#[]⟩:BA),(-1:Int))
theorem mf (op:Int):Le (je op) (dz op):=by
 unfold je dz
 solve_by_elim (maxDepth:=9999) only [*,Le.gd,Le.bif,Le.bind,Le.sumK,Le.loop,Le.nilK,Le.ifc,Le.refl]
def eY (level:Int):(ByteArray×Bool×Int×Int)->Option ((ByteArray×Bool×Int×Int) ⊕ (ByteArray×Bool×Int)):=λs12=>
 bif Nq (s12.2.2.1<(([(2:Int),(3:Int),(4:Int),(5:Int)]:LI).length:Int)) then
  Rq (
   gd (Nq<|0<=s12.2.2.1/\s12.2.2.1<(([(2:Int),(3:Int),(4:Int),(5:Int)]:LI).length:Int)) <|
   Rq (je<|([(2:Int),(3:Int),(4:Int),(5:Int)]:LI).getD s12.2.2.1.toNat Nj) λv17=>
   Rq (bif (s12.2.2.2==(0:Int)) then
    Nn (v17.1==level)
   else
    Nn Nl
   ) λs18=>
   bif s18 then
    gd (Nq<|0<=(0:Int)/\(0:Int)<(v17.2.1.size:Int)) <|
    Rq (bK (⟨s12.1,s12.2.1⟩:aa) ((v17.2.1.data.getD (0:Int).toNat 0).toNat:Int)) λv22=>
    bif v22.2 then
     Nn (v22.1.rest,v22.1.failed,(([(2:Int),(3:Int),(4:Int),(5:Int)]:LI).getD s12.2.2.1.toNat Nj))
    else
     Nn (v22.1.rest,v22.1.failed,s12.2.2.2)
   else
    Nn (s12.1,s12.2.1,s12.2.2.2)
  ) λs15=>
  gd (M3 .i64<|s12.2.2.1+(1:Int)) <|
  Nn (.inl (s15.1,s15.2.1,(s12.2.2.1+(1:Int)),s15.2.2))
 else
  Nn (.inr (s12.1,s12.2.1,s12.2.2.2))
theorem nZ (level:Int) (sQ:_):Le (eY level sQ) (eT level sQ):=by
 unfold eY eT J
 solve_by_elim (maxDepth:=9999) only [*,mf,kZ,Le.gd,Le.bif,Le.bind,Le.sumK,Le.loop,Le.nilK,Le.ifc,Le.refl]
def fL (rcf:aa->Int->Option (aa×ae)) (level:Int):(ByteArray×Bool×Int×ByteArray×(List ZTE))->Option ((ByteArray×Bool×Int×ByteArray×(List ZTE)) ⊕ (aa×ae)):=λs7=>
 Rq (
  nI 60 (eY level) (s7.1,s7.2.1,(0:Int),(0:Int))
 ) λs9=>
 bif (s9.2.2==(0:Int)) then
  Nn (.inr ((⟨s9.1,s9.2.1⟩:aa),(⟨s7.2.2.1,s7.2.2.2.1,s7.2.2.2.2⟩:ae)))
 else
  Rq (rcf (⟨s9.1,s9.2.1⟩:aa)<|level-(1:Int)) λv26=>
  Nn (.inl (v26.1.rest,v26.1.failed,s9.2.2,(⟨#[]⟩:BA),([(⟨s7.2.2.1,s7.2.2.2.1,s7.2.2.2.2⟩:ae).inn,v26.2.inn]:List ZTE)))
theorem oU (rcf:aa->Int->Option (aa×ae)) (rcf':aa->Int->Option (aa×ae)) (hrcf:∀ x0 x1,Le (rcf x0 x1)<|rcf' x0 x1) (level:Int) (sQ:_):Le (fL rcf level sQ) (fI rcf' level sQ):=by
 unfold fL fI
 solve_by_elim (maxDepth:=9999) only [*,nZ,hrcf,Le.gd,Le.bif,Le.bind,Le.sumK,Le.loop,Le.nilK,Le.ifc,Le.refl]
def gM (rcf:aa->Int->Option (aa×ae)) (r_:aa) (level:Int):Option (aa×ae):=
 bif (level==(0:Int)) then
  Rq (jd rcf (⟨r_.rest,r_.failed⟩:aa)) λv2=>
  Nn ((⟨v2.1.rest,v2.1.failed⟩:aa),(⟨v2.2.Op,v2.2.Name,v2.2.Kids⟩:ae))
 else
  gd (M3 .i64<|level-(1:Int)) <|
  Rq (rcf (⟨r_.rest,r_.failed⟩:aa)<|level-(1:Int)) λv4=>
  nI 60 (fL rcf level) (v4.1.rest,v4.1.failed,v4.2.Op,v4.2.Name,v4.2.Kids)
theorem p5 (rcf:aa->Int->Option (aa×ae)) (rcf':aa->Int->Option (aa×ae)) (hrcf:∀ x0 x1,Le (rcf x0 x1)<|rcf' x0 x1) (r_:aa) (level:Int):Le (gM rcf r_ level) (dE rcf' r_ level):=by
 unfold gM dE
 solve_by_elim (maxDepth:=9999) only [*,nJ,oU,hrcf,Le.gd,Le.bif,Le.bind,Le.sumK,Le.loop,Le.nilK,Le.ifc,Le.refl]
def gP:Nat->aa->Int->Option (aa×ae)
 | 0=>λ_ _=>Np
 | n+1=>gM (gP n)
def mK (r_:aa) (level:Int):Option (aa×ae):=gP 40 r_ level
theorem jf:∀ (n m:Nat),n<=m->∀ x0 x1,Le (gP n x0 x1) (bF m x0 x1)
 | 0,_,_=>λx0 x1 v h=>by cases h
 | n+1,0,h=>absurd h (Rz _)
 | n+1,m+1,h=>λx0 x1=>p5 _ _ (jf n m<|RA h) x0 x1
theorem qM (r_:aa) (level:Int):Le (mK r_ level) (iG r_ level):=λv h=>wV 40 λm hm=>jf 40 m hm r_ level v h
def di (s:List BA) (v:BA):Option Bool:=
 Rq (bX s v) λv1=>
 Nn (Nq<|(0:Int)<=v1)
theorem lq (s:List BA) (v:BA):Le (di s v) (bh s v):=by
 unfold di bh
 solve_by_elim (maxDepth:=9999) only [*,gK,Le.gd,Le.bif,Le.bind,Le.sumK,Le.loop,Le.nilK,Le.ifc,Le.refl]
def n8 (name:BA):Option Bool:=
 Rq (di DR name) λv1=>
 Nn v1
theorem vo (name:BA):Le (n8 name) (dI name):=by
 unfold n8 dI
 solve_by_elim (maxDepth:=9999) only [*,lq,Le.gd,Le.bif,Le.bind,Le.sumK,Le.loop,Le.nilK,Le.ifc,Le.refl]
def mg (rcf:ae->Int->Option Int) (e_:ae) (most:Int):(Int×Int)->Option ((Int×Int) ⊕ Int):=λs13=>
 bif Nq (s13.1<(e_.Kids.length:Int)) then
  gd (Nq<|0<=s13.1/\s13.1<(e_.Kids.length:Int)) <|
  gd (M3 .i64<|most-(1:Int)) <|
  Rq (rcf (⟨((e_.Kids.getD s13.1.toNat Nj).out).Op,((e_.Kids.getD s13.1.toNat Nj).out).Name,((e_.Kids.getD s13.1.toNat Nj).out).Kids⟩:ae)<|most-(1:Int)) λv18=>
  gd (M3 .i64<|s13.2+v18) <|
  bif Nq ((40:Int)<(s13.2+v18)) then
   Nn (.inr<|s13.2+v18)
  else
   gd (M3 .i64<|s13.1+(1:Int)) <|
   Nn (.inl ((s13.1+(1:Int)),(s13.2+v18)))
 else
  Nn (.inr s13.2)
theorem tX (rcf:ae->Int->Option Int) (rcf':ae->Int->Option Int) (hrcf:∀ x0 x1,Le (rcf x0 x1)<|rcf' x0 x1) (e_:ae) (most:Int) (sQ:_):Le (mg rcf e_ most sQ) (iQ rcf' e_ most sQ):=by
 unfold mg iQ J
 solve_by_elim (maxDepth:=9999) only [*,hrcf,Le.gd,Le.bif,Le.bind,Le.sumK,Le.loop,Le.nilK,Le.ifc,Le.refl]
def og (rcf:ae->Int->Option Int) (e_:ae) (most:Int):Option Int:=
 Rq (je e_.Op) λv1=>
 sumK (
  Rq (
   bif (most==(0:Int)) then
    Nn Nk
   else
    bif ((e_.Kids.length:Int) != v1.2.2) then
     Nn Nk
    else
     Rq (n8 e_.Name) λv6=>
     bif (!((e_.Op==(1:Int))==v6)) then
      Nn Nk
     else
      bif (e_.Op != (1:Int)) then
       Nn (!decide (e_.Name=(⟨#[]⟩:BA)))
      else
       Nn Nl
  ) λs3=>
  bif s3 then
   Nn (.inr (41:Int))
  else
   Nn (.inl ())
 ) λs2=>
 Rq (
  nI 60 (mg rcf e_ most) ((0:Int),(1:Int))
 ) λs10=>
 Nn s10
theorem vp (rcf:ae->Int->Option Int) (rcf':ae->Int->Option Int) (hrcf:∀ x0 x1,Le (rcf x0 x1)<|rcf' x0 x1) (e_:ae) (most:Int):Le (og rcf e_ most) (fo rcf' e_ most):=by
 unfold og fo
 solve_by_elim (maxDepth:=9999) only [*,mf,vo,tX,hrcf,Le.gd,Le.bif,Le.bind,Le.sumK,Le.loop,Le.nilK,Le.ifc,Le.refl]
def oh:Nat->ae->Int->Option Int
 | 0=>λ_ _=>Np
 | n+1=>og (oh n)
def uR (e_:ae) (most:Int):Option Int:=oh 40 e_ most
theorem p6:∀ (n m:Nat),n<=m->∀ x0 x1,Le (oh n x0 x1) (dJ m x0 x1)
 | 0,_,_=>λx0 x1 v h=>by cases h
 | n+1,0,h=>absurd h (Rz _)
 | n+1,m+1,h=>λx0 x1=>vp _ _ (p6 n m<|RA h) x0 x1
theorem xd (e_:ae) (most:Int):Le (uR e_ most) (qH e_ most):=λv h=>wV 40 λm hm=>p6 40 m hm e_ most v h
def ik (e_:ae):Option Bool:=
 Rq (uR e_ (12:Int)) λv1=>
 Nn (Nq<|v1<=(40:Int))
theorem mL (e_:ae):Le (ik e_) (bV e_):=by
 unfold ik bV
 solve_by_elim (maxDepth:=9999) only [*,xd,Le.gd,Le.bif,Le.bind,Le.sumK,Le.loop,Le.nilK,Le.ifc,Le.refl]
def ol (rcf:ae->Int->Option BA) (e_:ae) (most:Int):Option BA:=
 Rq (je e_.Op) λv1=>
 Rq (
  bif (v1.2.2==(1:Int)) then
   gd (Nq<|0<=(0:Int)/\(0:Int)<(e_.Kids.length:Int)) <|
   Rq (rcf ((e_.Kids.getD (0:Int).toNat Nj).out) (0:Int)) λv5=>
   gd (Nq<|v1.2.1.size+v5.size<=9223372036854775807) <|
   Nn (v1.2.1++v5)
  else
   bif (v1.2.2==(2:Int)) then
    gd (Nq<|0<=(0:Int)/\(0:Int)<(e_.Kids.length:Int)) <|
    Rq (rcf ((e_.Kids.getD (0:Int).toNat Nj).out) v1.1) λv9=>
    gd (Nq<|v9.size+v1.2.1.size<=9223372036854775807) <|
    gd (Nq<|0<=(1:Int)/\(1:Int)<(e_.Kids.length:Int)) <|
    gd (M3 .i64<|v1.1-(1:Int)) <|
    Rq (rcf ((e_.Kids.getD (1:Int).toNat Nj).out)<|v1.1-(1:Int)) λv13=>
    gd (Nq<|(v9++v1.2.1).size+v13.size<=9223372036854775807) <|
    Nn ((v9++v1.2.1)++v13)
   else
    Nn e_.Name
 ) λs2=>
 bif Nq (most<v1.1) then
  gd (Nq<|(⟨#[40]⟩:BA).size+s2.size<=9223372036854775807) <|
  gd (Nq<|((⟨#[40]⟩:BA)++s2).size+(⟨#[41]⟩:BA).size<=9223372036854775807) <|
  Nn (((⟨#[40]⟩:BA)++s2)++(⟨#[41]⟩:BA))
 else
  Nn s2
theorem vq (rcf:ae->Int->Option BA) (rcf':ae->Int->Option BA) (hrcf:∀ x0 x1,Le (rcf x0 x1)<|rcf' x0 x1) (e_:ae) (most:Int):Le (ol rcf e_ most) (kz rcf' e_ most):=by
 unfold ol kz J
 solve_by_elim (maxDepth:=9999) only [*,mf,hrcf,Le.gd,Le.bif,Le.bind,Le.sumK,Le.loop,Le.nilK,Le.ifc,Le.refl]
def om:Nat->ae->Int->Option BA
 | 0=>λ_ _=>Np
 | n+1=>ol (om n)
def uS (e_:ae) (most:Int):Option BA:=om 40 e_ most
theorem p7:∀ (n m:Nat),n<=m->∀ x0 x1,Le (om n x0 x1) (iz m x0 x1)
 | 0,_,_=>λx0 x1 v h=>by cases h
 | n+1,0,h=>absurd h (Rz _)
 | n+1,m+1,h=>λx0 x1=>vq _ _ (p7 n m<|RA h) x0 x1
theorem xe (e_:ae) (most:Int):Le (uS e_ most) (qI e_ most):=λv h=>wV 40 λm hm=>p7 40 m hm e_ most v h
def fU (e_:ae):Option BA:=
 Rq (ik e_) λv1=>
 bif !v1 then
  Nn (⟨#[]⟩:BA)
 else
  Rq (uS e_ (3:Int)) λv3=>
  Nn v3
theorem mh (e_:ae):Le (fU e_) (dP e_):=by
 unfold fU dP
 solve_by_elim (maxDepth:=9999) only [*,mL,xe,Le.gd,Le.bif,Le.bind,Le.sumK,Le.loop,Le.nilK,Le.ifc,Le.refl]
def kT (text:BA):Option (ae×Bool):=
 bif Nq ((300:Int)<(text.size:Int)) then
  Nn ((⟨(0:Int),(⟨#[]⟩:BA),([]:List ZTE)⟩:ae),Nl)
 else
  Rq (mK (⟨text,Nl⟩:aa) (3:Int)) λv2=>
  Rq (bif v2.1.failed then
   Nn Nk
  else
   Nn (!decide (v2.1.rest=(⟨#[]⟩:BA)))
  ) λs3=>
  Rq (bif s3 then
   Nn Nk
  else
   Nn (Nq<|text=(⟨#[]⟩:BA))
  ) λs5=>
  Rq (bif s5 then
   Nn Nk
  else
   Rq (fU (⟨v2.2.Op,v2.2.Name,v2.2.Kids⟩:ae)) λv9=>
   Nn (!decide (v9=text))
  ) λs7=>
  bif s7 then
   Nn ((⟨(0:Int),(⟨#[]⟩:BA),([]:List ZTE)⟩:ae),Nl)
  else
   Nn ((⟨v2.2.Op,v2.2.Name,v2.2.Kids⟩:ae),Nk)
theorem sO (text:BA):Le (kT text) (ia text):=by
 unfold kT ia
 solve_by_elim (maxDepth:=9999) only [*,qM,mh,Le.gd,Le.bif,Le.bind,Le.sumK,Le.loop,Le.nilK,Le.ifc,Le.refl]
def jT (v2:(List BA)):((List ai)×Int)->Option (((List ai)×Int) ⊕ ((List ai) ⊕ ((List ai)×Bool))):=λs8=>
 bif Nq (s8.2<(v2.length:Int)) then
  gd (Nq<|0<=s8.2/\s8.2<(v2.length:Int)) <|
  Rq (rY (v2.getD s8.2.toNat Nj) (⟨#[32]⟩:BA)) λv15=>
  Rq (bX zR v15.1) λv16=>
  Rq (kT v15.2.1) λv17=>
  Rq (bif Nq (v16<(1:Int)) then
   Nn Nk
  else
   Nn (!v17.2)
  ) λs18=>
  bif s18 then
   Nn (.inr<|.inr (([]:List ai),Nl))
  else
   gd (dS (s8.1.length+1) 56) <|
   gd (M3 .i64<|s8.2+(1:Int)) <|
   Nn (.inl ((s8.1++[(⟨v16,(⟨v17.1.Op,v17.1.Name,v17.1.Kids⟩:ae)⟩:ai)]),(s8.2+(1:Int))))
 else
  Nn (.inr<|.inl s8.1)
theorem rZ (v2:(List BA)) (sQ:_):Le (jT v2 sQ) (jy v2 sQ):=by
 unfold jT jy J
 solve_by_elim (maxDepth:=9999) only [*,xV,gK,sO,Le.gd,Le.bif,Le.bind,Le.sumK,Le.loop,Le.nilK,Le.ifc,Le.refl]
def oZ (x:Int) (low:Int) (high:Int):Option Bool:=
 Rq (bif Nq (low<=x) then
  Nn (Nq<|x<=high)
 else
  Nn Nl
 ) λs1=>
 Nn s1
theorem sI (x:Int) (low:Int) (high:Int):Le (oZ x low high) (fu x low high):=by
 unfold oZ fu
 solve_by_elim (maxDepth:=9999) only [*,Le.gd,Le.bif,Le.bind,Le.sumK,Le.loop,Le.nilK,Le.ifc,Le.refl]
def kU (r_:ai):Option Bool:=
 Rq (oZ r_.Kind (1:Int) (3:Int)) λv1=>
 Rq (bif !v1 then
  Nn Nk
 else
  Rq (ik r_.Expr) λv4=>
  Nn (!v4)
 ) λs2=>
 Nn s2
theorem sP (r_:ai):Le (kU r_) (dY r_):=by
 unfold kU dY
 solve_by_elim (maxDepth:=9999) only [*,sI,mL,Le.gd,Le.bif,Le.bind,Le.sumK,Le.loop,Le.nilK,Le.ifc,Le.refl]
def aL (s:List ai):Int->Option (Int ⊕ (Unit ⊕ Int)):=λs4=>
 bif Nq (s4<(s.length:Int)) then
  gd (Nq<|0<=s4/\s4<(s.length:Int)) <|
  Rq (kU<|s.getD s4.toNat Nj) λv8=>
  bif v8 then
   Nn (.inr<|.inr s4)
  else
   gd (M3 .i64<|s4+(1:Int)) <|
   Nn (.inl<|s4+(1:Int))
 else
  Nn (.inr<|.inl ())
theorem cf (s:List ai) (sQ:_):Le (aL s sQ) (aA s sQ):=by
 unfold aL aA J
 solve_by_elim (maxDepth:=9999) only [*,sP,Le.gd,Le.bif,Le.bind,Le.sumK,Le.loop,Le.nilK,Le.ifc,Le.refl]
def aQ (s:List ai):Option Int:=
 sumK (
  nI 60 (aL s) (0:Int)
 ) λs1=>
 Nn (-1:Int)
theorem cW (s:List ai):Le (aQ s) (ay s):=by
 unfold aQ ay
 solve_by_elim (maxDepth:=9999) only [*,cf,Le.gd,Le.bif,Le.bind,Le.sumK,Le.loop,Le.nilK,Le.ifc,Le.refl]
def aN (s:List ai):Option Bool:=
 Rq (aQ s) λv1=>
 Nn (Nq<|(0:Int)<=v1)
theorem cg (s:List ai):Le (aN s) (ax s):=by
 unfold aN ax
 solve_by_elim (maxDepth:=9999) only [*,cW,Le.gd,Le.bif,Le.bind,Le.sumK,Le.loop,Le.nilK,Le.ifc,Le.refl]
def mZ (m:List ai):Option Bool:=
 Rq (oZ (m.length:Int) (1:Int) (5:Int)) λv1=>
 Rq (bif v1 then
  Rq (aN m) λv4=>
  Nn (!v4)
 else
  Nn Nl
 ) λs2=>
 Nn s2
theorem uC (m:List ai):Le (mZ m) (db m):=by
 unfold mZ db
 solve_by_elim (maxDepth:=9999) only [*,sI,cg,Le.gd,Le.bif,Le.bind,Le.sumK,Le.loop,Le.nilK,Le.ifc,Le.refl]
def jg (m:List ai):((List BA)×Int)->Option (((List BA)×Int) ⊕ (List BA)):=λs8=>
 bif Nq (s8.2<(m.length:Int)) then
  gd (Nq<|0<=s8.2/\s8.2<(m.length:Int)) <|
  gd (Nq<|0<=(m.getD s8.2.toNat Nj).Kind/\(m.getD s8.2.toNat Nj).Kind<4) <|
  gd (Nq<|(zR.getD ((m.getD s8.2.toNat Nj).Kind).toNat Nj).size+(⟨#[32]⟩:BA).size<=9223372036854775807) <|
  Rq (fU (⟨((m.getD s8.2.toNat Nj).Expr).Op,((m.getD s8.2.toNat Nj).Expr).Name,((m.getD s8.2.toNat Nj).Expr).Kids⟩:ae)) λv15=>
  gd (Nq<|((zR.getD ((m.getD s8.2.toNat Nj).Kind).toNat Nj)++(⟨#[32]⟩:BA)).size+v15.size<=9223372036854775807) <|
  gd (Nq<|0<=s8.2/\s8.2<(s8.1.length:Int)) <|
  gd (M3 .i64<|s8.2+(1:Int)) <|
  Nn (.inl ((s8.1.set s8.2.toNat<|((zR.getD ((m.getD s8.2.toNat Nj).Kind).toNat Nj)++(⟨#[32]⟩:BA))++v15),(s8.2+(1:Int))))
 else
  Nn (.inr s8.1)
theorem rC (m:List ai) (sQ:_):Le (jg m sQ) (iX m sQ):=by
 unfold jg iX J
 solve_by_elim (maxDepth:=9999) only [*,mh,Le.gd,Le.bif,Le.bind,Le.sumK,Le.loop,Le.nilK,Le.ifc,Le.refl]
def mi (m:List ai):Option BA:=
 Rq (mZ m) λv1=>
 bif !v1 then
  Nn (⟨#[]⟩:BA)
 else
  gd (Nq<|0<=(m.length:Int)/\(m.length:Int)<=(m.length:Int)/\(m.length:Int)*((16:Nat):Int)<=140737488355328/\(m.length:Int)<=140737488355328) <|
  Rq (
   nI 60 (jg m) ((Rs (m.length:Int).toNat (Nj:BA)),(0:Int))
  ) λs4=>
  Rq (m7 s4 (⟨#[47]⟩:BA)) λv20=>
  Nn v20
theorem tY (m:List ai):Le (mi m) (iR m):=by
 unfold mi iR
 solve_by_elim (maxDepth:=9999) only [*,uC,rC,Le.gd,Le.bif,Le.bind,Le.sumK,Le.loop,Le.nilK,Le.ifc,Le.refl]
def m5 (text:BA):Option ((List ai)×Bool):=
 sumK (
  Rq (pX text (⟨#[47]⟩:BA)) λv2=>
  nI 60 (jT v2) (([]:List ai),(0:Int))
 ) λs1=>
 Rq (mi s1) λv26=>
 bif (!decide (v26=text)) then
  Nn (([]:List ai),Nl)
 else
  Nn (s1,Nk)
theorem uD (text:BA):Le (m5 text) (jo text):=by
 unfold m5 jo
 solve_by_elim (maxDepth:=9999) only [*,wy,rZ,tY,Le.gd,Le.bif,Le.bind,Le.sumK,Le.loop,Le.nilK,Le.ifc,Le.refl]
def qN (name:BA):Option ((List ai)×Bool):=
 Rq (nX name) λv1=>
 Rq (m5 v1) λv2=>
 Nn (v2.1,v2.2)
theorem gQ (name:BA):Le (qN name) (j5 name):=by
 unfold qN j5
 solve_by_elim (maxDepth:=9999) only [*,vk,uD,Le.gd,Le.bif,Le.bind,Le.sumK,Le.loop,Le.nilK,Le.ifc,Le.refl]
def mo (from_:Int) (n:Int):Option BA:=
 gd (M3 .u8 n) <|
 gd (M3 .u8<|from_+n) <|
 Nn (strOfNums ([(from_+n)]:LI))
theorem wz (from_:Int) (n:Int):Le (mo from_ n) (i9 from_ n):=by
 unfold mo i9
 solve_by_elim (maxDepth:=9999) only [*,Le.gd,Le.bif,Le.bind,Le.sumK,Le.loop,Le.nilK,Le.ifc,Le.refl]
def r9 (x:M5):Option BA:=
 Rq (mo (120:Int) x.Loc) λv1=>
 Rq (mo (97:Int) x.Reg) λv2=>
 bif (x.Op==(1:Int)) then
  gd (Nq<|v2.size+(⟨#[61]⟩:BA).size<=9223372036854775807) <|
  gd (Nq<|(v2++(⟨#[61]⟩:BA)).size+v1.size<=9223372036854775807) <|
  Nn ((v2++(⟨#[61]⟩:BA))++v1)
 else
  bif (x.Op==(2:Int)) then
   gd (Nq<|v1.size+(⟨#[61]⟩:BA).size<=9223372036854775807) <|
   Rq (oQ x.Val) λv8=>
   gd (Nq<|(v1++(⟨#[61]⟩:BA)).size+v8.size<=9223372036854775807) <|
   Nn ((v1++(⟨#[61]⟩:BA))++v8)
  else
   bif (x.Op==(3:Int)) then
    gd (Nq<|v1.size+(⟨#[61]⟩:BA).size<=9223372036854775807) <|
    gd (Nq<|(v1++(⟨#[61]⟩:BA)).size+v2.size<=9223372036854775807) <|
    Nn ((v1++(⟨#[61]⟩:BA))++v2)
   else
    bif (x.Op==(5:Int)) then
     gd (Nq<|v2.size+(⟨#[61]⟩:BA).size<=9223372036854775807) <|
     gd (Nq<|(v2++(⟨#[61]⟩:BA)).size+v1.size<=9223372036854775807) <|
     gd (Nq<|((v2++(⟨#[61]⟩:BA))++v1).size+(⟨#[58]⟩:BA).size<=9223372036854775807) <|
     Rq (oQ x.Val) λv17=>
     gd (Nq<|(((v2++(⟨#[61]⟩:BA))++v1)++(⟨#[58]⟩:BA)).size+v17.size<=9223372036854775807) <|
     Nn ((((v2++(⟨#[61]⟩:BA))++v1)++(⟨#[58]⟩:BA))++v17)
    else
     Nn (⟨#[102,101,110,99,101]⟩:BA)
theorem xW (x:M5):Le (r9 x) (oO x):=by
 unfold r9 oO
 solve_by_elim (maxDepth:=9999) only [*,wz,xU,Le.gd,Le.bif,Le.bind,Le.sumK,Le.loop,Le.nilK,Le.ifc,Le.refl]

section
variable {α:Type} {r:Option α}
theorem mq {n:Int} {x:Option α} (h : -9223372036854775808<=n/\n<=9223372036854775807) (hx:x=r):gd (M3 .i64 n) x=r:=by rw [qG (IQ h)];exact hx
theorem wA {A:Prop} [Decidable A] {x:Option α} (h:A) (hx:x=r):gd (decide A) x=r:=by rw [qG (decide_eq_true h)];exact hx
theorem GM {b:Bool} {x y:Option α} (h:b=Nk) (hx:x=r):(bif b then x else y)=r:=by rw [h];exact hx
theorem Dh {b:Bool} {x y:Option α} (h:b=Nl) (hx:y=r):(bif b then x else y)=r:=by rw [h];exact hx
theorem xg {β:Type} {o:Option β} {k:β->Option α} {v:β} (h:o=Nn v) (hx:k v=r):o.bind k=r:=by rw [h];exact hx
end
def Bts (b:LI):Prop:=b.length<=1048576/\∀ y∈b,0<=y/\y<=255
theorem Bts.get {b:LI} (h:Bts b) (k:Nat):0<=b.getD k Nj/\b.getD k Nj<=255:=by
 rw [gdq]
 by_cases hk:k<b.length
 ·rw [geq hk];exact h.2 _<|List.getElem_mem _
 rw [gen (by omega)];exact ⟨by decide,by decide⟩
theorem Ip {m n:Int} (hm:0<=m/\m<=1000000000000) (hn:0<=n/\n<=1000000000000):0<=Kw .i64 m n:=by
 have e1:∀ x:Int,0<=x->x<=1000000000000->(Rt 64 x).toNat<2 ^ 62:=by
  intro x h1 h2;rw [BitVec.toNat_ofInt];have : x % ((2:Nat) ^ 64:Nat)=x:=by
   rw [Int.emod_eq_of_lt h1];omega
  omega
 have h3:(Rt 64 m ^^^ Rt 64 n).toNat<2 ^ 62:=by
  rw [BitVec.toNat_xor];exact Nat.xor_lt_two_pow (e1 m hm.1 hm.2)<|e1 n hn.1 hn.2
 have h4:=IntWalk.i64_in (((Rt 64 m ^^^ Rt 64 n).toNat:Nat):Int) ⟨by omega,by omega⟩;unfold Kw;rw [show IntKind.i64.bits=64 from rfl,h4];omega
theorem Iq {a n:Int} (ha:0<=a) (hn:0<n):0<=a.tmod n/\a.tmod n<n:=by
 rw [Int.tmod_eq_emod_of_nonneg ha];exact ⟨Int.emod_nonneg _ (by omega),Int.emod_lt_of_pos _ hn⟩
theorem K5 {a n:Int} (ha:0<=a) (hn:0<=n):0<=a.tdiv n/\a.tdiv n<=a:=by
 rw [Int.tdiv_eq_ediv_of_nonneg ha];exact ⟨Int.ediv_nonneg ha hn,Int.ediv_le_self _ ha⟩
theorem GN {b:LI} {p:Int} (hb:Bts b) (hp:0<=p/\p<=100000000) (n:Int):∃ v,aH ⟨b,p⟩ n=Nn (⟨b,p+1⟩,v)/\0<=v/\(v<n\/v=0):=by
 have hl:=hb.1;have e1:p+1-1=p:=by omega
 unfold aH J;simp only [e1]
 by_cases h0:n<1\/b.length=0
 ·refine ⟨0,?_,Int.le_refl _,.inr rfl⟩;refine mq (by omega) ?_;refine xg (v:=true) ?_<|GM rfl rfl
  by_cases hn:n<1
  ·exact GM (by simp [hn]) rfl
  refine Dh (by simp [hn]) ?_;have : b.length=0:=by omega
  simp [this]
 have hn:1<=n:=by omega
 have hl0:0<(b.length:Int):=by omega
 by_cases hlt:p<(b.length:Int)
 ·have hg:=hb.get p.toNat;have hv:=Iq hg.1 (show (0:Int)<n by omega);refine ⟨(b.getD p.toNat Nj).tmod n,?_,hv.1,.inl hv.2⟩;refine mq (by omega) ?_;refine xg (v:=false) (Dh (by simp;omega)<|congrArg Nn<|beq_eq_false_iff_ne.2<|by omega) (Dh rfl ?_);refine mq (by omega)<|GM (by simpa using hlt) ?_;exact wA (by omega)<|mq (by omega)<|wA (by omega) rfl
 have h1:=Iq hp.1 hl0;have h2:=K5 hp.1 (show 0<=(b.length:Int) by omega);have h3:=Iq (a:=p*7+3) (by omega) hl0;have h4:=hb.get (p.tmod (b.length:Int)).toNat;have h5:=hb.get ((p*7+3).tmod (b.length:Int)).toNat;have hx:0<=(b.getD (p.tmod (b.length:Int)).toNat Nj)*131+(b.getD ((p*7+3).tmod (b.length:Int)).toNat Nj)*1117+p*29+p.tdiv (b.length:Int)*53 /\
  (b.getD (p.tmod (b.length:Int)).toNat Nj)*131+(b.getD ((p*7+3).tmod (b.length:Int)).toNat Nj)*1117+p*29+p.tdiv (b.length:Int)*53<=1000000000000:=by omega
 have h6:=K5 hx.1 (show (0:Int)<=64 by omega);have h7:=Ip hx ⟨h6.1,Int.le_trans h6.2 hx.2⟩;have hv:=Iq h7 (show (0:Int)<n by omega);refine ⟨_,?_,hv.1,.inl hv.2⟩;refine mq (by omega) ?_;refine xg (v:=false) (Dh (by simp;omega)<|congrArg Nn<|beq_eq_false_iff_ne.2<|by omega) (Dh rfl ?_);refine mq (by omega)<|Dh (by simpa using hlt) ?_;refine wA (by omega)<|wA h1<|mq (by omega)<|mq (by omega)<|mq (by omega)<|mq (by omega)<|wA h3<|mq (by omega) ?_;refine mq (by omega)<|mq (by omega)<|mq (by omega)<|mq (by omega)<|mq (by omega)<|mq (by omega)<|mq (by omega) ?_;refine wA (by omega)<|mq (by omega)<|wA (by omega) rfl
theorem K6 {b:LI} {p:Int} (hb:Bts b) (hp:0<=p/\p<=100000000) (l:LI) (hl:l≠[]):∃ v,bC ⟨b,p⟩ l=Nn (⟨b,p+1⟩,v)/\v∈l:=by
 obtain ⟨v,h1,h2,h3⟩:=GN hb hp (l.length:Int);have hpos:0<l.length:=List.length_pos_iff.2 hl;have h4:v<(l.length:Int):=by omega
 refine ⟨l.getD v.toNat Nj,?_,?_⟩
 ·unfold bC J;exact xg h1<|wA ⟨h2,h4⟩ rfl
 rw [gdq,geq (by omega)];exact List.getElem_mem _
theorem JX {b:LI} (hb:Bts b):∃ b',ko b=Nn ⟨b',0⟩/\Bts b':=by
 unfold ko
 by_cases h:(2000:Int)<(b.length:Int)
 ·refine ⟨_,xg (GM (by simpa using h)<|wA (by omega) rfl) rfl,?_,λy hy=>?_⟩
  ·rw [List.length_take];omega
  exact hb.2 y<|List.mem_of_mem_drop<|List.mem_of_mem_take hy
 exact ⟨b,xg (Dh (by simpa using h) rfl) rfl,hb⟩
def Rd (k:Int) (r:ah):Prop:=Bts r.b/\0<=r.p/\r.p<=k
theorem Rd.mono {k k':Int} {r:ah} (h:Rd k r) (hk:k<=k'):Rd k' r:=⟨h.1,h.2.1,by have := h.2.2;omega⟩
theorem Rd.mk' {k:Int} {r:ah} (h:Rd k r):Rd k ⟨r.b,r.p⟩:=h
theorem mr {k:Int} {r:ah} (h:Rd k r) (hk:k<=100000000) (n:Int):M9 (aH r n) λv=>Rd (k+1) v.1/\0<=v.2/\(v.2<n\/v.2=0):=by
 obtain ⟨b,p⟩:=r;obtain ⟨h1,h2,h3⟩:=h;obtain ⟨v,e,h4,h5⟩:=GN h1 (p:=p) ⟨h2,by simp only at h3;omega⟩ n;exact ⟨_,e,⟨h1,by simp only at h2 ⊢;omega,by simp only at h3 ⊢;omega⟩,h4,h5⟩
theorem vu {k:Int} {r:ah} (h:Rd k r) (hk:k<=100000000) (l:LI) (hl:l≠[]):M9 (bC r l) λv=>Rd (k+1) v.1/\v.2∈l:=by
 obtain ⟨b,p⟩:=r;obtain ⟨h1,h2,h3⟩:=h;obtain ⟨v,e,h4⟩:=K6 h1 (p:=p) ⟨h2,by simp only at h3;omega⟩ l hl;exact ⟨_,e,⟨h1,by simp only at h2 ⊢;omega,by simp only at h3 ⊢;omega⟩,h4⟩
theorem Ir {b:LI} (h:Bts b):M9 (ko b) (Rd 0):=by
 obtain ⟨b',e,h'⟩:=JX h;exact ⟨_,e,h',Int.le_refl _,Int.le_refl _⟩
def oq (s:BA) (c:Int):((List BA)×Int×Int)->Option (((List BA)×Int×Int) ⊕ (List BA)):=λs5=>
 bif Nq (s5.2.1<=(s.size:Int)) then
  Rq (
   Rq (bif (s5.2.1==(s.size:Int)) then
    Nn Nk
   else
    gd (Nq<|0<=s5.2.1/\s5.2.1<(s.size:Int)) <|
    Nn (((s.data.getD s5.2.1.toNat 0).toNat:Int)==c)
   ) λs10=>
   bif s10 then
    gd (Nq<|0<=s5.2.2/\s5.2.2<=s5.2.1/\s5.2.1<=(s.size:Int)) <|
    gd (dS (s5.1.length+1) 16) <|
    gd (M3 .i64<|s5.2.1+(1:Int)) <|
    Nn ((s5.1++[(s.extract s5.2.2.toNat s5.2.1.toNat)]),(s5.2.1+(1:Int)))
   else
    Nn (s5.1,s5.2.2)
  ) λs9=>
  gd (M3 .i64<|s5.2.1+(1:Int)) <|
  Nn (.inl (s9.1,(s5.2.1+(1:Int)),s9.2))
 else
  Nn (.inr s5.1)
theorem vv (s:BA) (c:Int) (sQ:_):Le (oq s c sQ) (nW s c sQ):=by
 unfold oq nW
 solve_by_elim (maxDepth:=9999) only [*,Le.gd,Le.bif,Le.bind,Le.sumK,Le.loop,Le.nilK,Le.ifc,Le.refl]
def o5 (s:BA) (c:Int):Option (List BA):=
 Rq (
  nI 40 (oq s c) (([]:List BA),(0:Int),(0:Int))
 ) λs1=>
 Nn s1
theorem sJ (s:BA) (c:Int):Le (o5 s c) (l8 s c):=by
 unfold o5 l8
 solve_by_elim (maxDepth:=9999) only [*,vv,Le.gd,Le.bif,Le.bind,Le.sumK,Le.loop,Le.nilK,Le.ifc,Le.refl]
def bY (s:BA) (at_:Int) (from_:Int) (most:Int):Option Int:=
 Rq (bif Nq ((s.size:Int)<=at_) then
  Nn Nk
 else
  gd (Nq<|0<=at_/\at_<(s.size:Int)) <|
  Nn (Nq<|((s.data.getD at_.toNat 0).toNat:Int)<from_)
 ) λs1=>
 Rq (bif s1 then
  Nn Nk
 else
  gd (Nq<|0<=at_/\at_<(s.size:Int)) <|
  gd (M3 .u8<|((s.data.getD at_.toNat 0).toNat:Int)-from_) <|
  gd (M3 .i64<|((s.data.getD at_.toNat 0).toNat:Int)-from_) <|
  Nn (Nq<|most<(((s.data.getD at_.toNat 0).toNat:Int)-from_))
 ) λs4=>
 bif s4 then
  Nn (-1:Int)
 else
  gd (Nq<|0<=at_/\at_<(s.size:Int)) <|
  gd (M3 .u8<|((s.data.getD at_.toNat 0).toNat:Int)-from_) <|
  gd (M3 .i64<|((s.data.getD at_.toNat 0).toNat:Int)-from_) <|
  Nn (((s.data.getD at_.toNat 0).toNat:Int)-from_)
theorem xj (s:BA) (at_:Int) (from_:Int) (most:Int):Le (bY s at_ from_ most) (bQ s at_ from_ most):=by
 unfold bY bQ
 solve_by_elim (maxDepth:=9999) only [*,Le.gd,Le.bif,Le.bind,Le.sumK,Le.loop,Le.nilK,Le.ifc,Le.refl]
def qO (s:BA):Option M5:=
 bif Nq (s=(⟨#[102,101,110,99,101]⟩:BA)) then
  Nn (⟨(4:Int),(0:Int),(0:Int),(0:Int)⟩:M5)
 else
  Rq (bY s (0:Int) (97:Int) (2:Int)) λv2=>
  Rq (bY s (0:Int) (120:Int) (2:Int)) λv3=>
  Rq (bif Nq ((0:Int)<=v2) then
   Nn ((s.size:Int)==(3:Int))
  else
   Nn Nl
  ) λs4=>
  bif s4 then
   Rq (bY s (2:Int) (120:Int) (2:Int)) λv7=>
   Nn (⟨(1:Int),v7,v2,(0:Int)⟩:M5)
  else
   Rq (bif Nq ((0:Int)<=v2) then
    Nn ((s.size:Int)==(5:Int))
   else
    Nn Nl
   ) λs8=>
   bif s8 then
    Rq (bY s (2:Int) (120:Int) (2:Int)) λv11=>
    Rq (bY s (4:Int) (48:Int) (3:Int)) λv12=>
    Nn (⟨(5:Int),v11,v2,v12⟩:M5)
   else
    Rq (bif Nq ((0:Int)<=v3) then
     Rq (bY s (2:Int) (97:Int) (2:Int)) λv15=>
     Nn (Nq<|(0:Int)<=v15)
    else
     Nn Nl
    ) λs13=>
    bif s13 then
     Rq (bY s (2:Int) (97:Int) (2:Int)) λv17=>
     Nn (⟨(3:Int),v3,v17,(0:Int)⟩:M5)
    else
     Rq (bY s (2:Int) (48:Int) (3:Int)) λv18=>
     Nn (⟨(2:Int),v3,(0:Int),v18⟩:M5)
theorem xk (s:BA):Le (qO s) (nu s):=by
 unfold qO nu
 solve_by_elim (maxDepth:=9999) only [*,xj,Le.gd,Le.bif,Le.bind,Le.sumK,Le.loop,Le.nilK,Le.ifc,Le.refl]
def il (v1:(List BA)) (s6:(List<|List M5)×Int) (v14:(List BA)):((List M5)×Int)->Option (((List M5)×Int) ⊕ (List M5)):=λs19=>
 Rq (bif Nq (s19.2<(v14.length:Int)) then
  Nn (Nq<|s19.2<=(7:Int))
 else
  Nn Nl
 ) λs22=>
 Rq (bif s22 then
  Nn (!decide ((v1.getD s6.2.toNat Nj)=(⟨#[]⟩:BA)))
 else
  Nn Nl
 ) λs24=>
 bif s24 then
  gd (Nq<|0<=s19.2/\s19.2<(v14.length:Int)) <|
  Rq (qO<|v14.getD s19.2.toNat Nj) λv28=>
  gd (dS (s19.1.length+1) 32) <|
  gd (M3 .i64<|s19.2+(1:Int)) <|
  Nn (.inl ((s19.1++[v28]),(s19.2+(1:Int))))
 else
  Nn (.inr s19.1)
theorem qm (v1:(List BA)) (s6:(List<|List M5)×Int) (v14:(List BA)) (sQ:_):Le (il v1 s6 v14 sQ) (ij v1 s6 v14 sQ):=by
 unfold il ij J
 solve_by_elim (maxDepth:=9999) only [*,xk,Le.gd,Le.bif,Le.bind,Le.sumK,Le.loop,Le.nilK,Le.ifc,Le.refl]
def iL (v1:(List BA)):((List<|List M5)×Int)->Option (((List<|List M5)×Int) ⊕ (List<|List M5)):=λs6=>
 Rq (bif Nq (s6.2<(v1.length:Int)) then
  Nn (Nq<|s6.2<=(3:Int))
 else
  Nn Nl
 ) λs9=>
 bif s9 then
  Rq (
   gd (Nq<|0<=s6.2/\s6.2<(v1.length:Int)) <|
   Rq (o5 (v1.getD s6.2.toNat Nj) (59:Int)) λv14=>
   Rq (
    nI 40 (il v1 s6 v14) (([]:List M5),(0:Int))
   ) λs15=>
   gd (dS (s6.1.length+1) 24) <|
   Nn (s6.1++[s15])
  ) λs12=>
  gd (M3 .i64<|s6.2+(1:Int)) <|
  Nn (.inl (s12,(s6.2+(1:Int))))
 else
  Nn (.inr s6.1)
theorem qP (v1:(List BA)) (sQ:_):Le (iL v1 sQ) (iJ v1 sQ):=by
 unfold iL iJ J
 solve_by_elim (maxDepth:=9999) only [*,sJ,qm,Le.gd,Le.bif,Le.bind,Le.sumK,Le.loop,Le.nilK,Le.ifc,Le.refl]
def jV (p:List<|List M5) (s4:Int×BA):(Int×BA)->Option ((Int×BA) ⊕ BA):=λs13=>
 gd (Nq<|0<=s4.1/\s4.1<(p.length:Int)) <|
 bif Nq (s13.1<((p.getD s4.1.toNat Nj).length:Int)) then
  Rq (
   bif Nq ((0:Int)<s13.1) then
    gd (Nq<|s13.2.size+(⟨#[59]⟩:BA).size<=9223372036854775807) <|
    Nn (s13.2++(⟨#[59]⟩:BA))
   else
    Nn s13.2
  ) λs17=>
  gd (Nq<|0<=s13.1/\s13.1<((p.getD s4.1.toNat Nj).length:Int)) <|
  Rq (r9<|(p.getD s4.1.toNat Nj).getD s13.1.toNat Nj) λv21=>
  gd (Nq<|s17.size+v21.size<=9223372036854775807) <|
  gd (M3 .i64<|s13.1+(1:Int)) <|
  Nn (.inl ((s13.1+(1:Int)),(s17++v21)))
 else
  Nn (.inr s13.2)
theorem sj (p:List<|List M5) (s4:Int×BA) (sQ:_):Le (jV p s4 sQ) (jS p s4 sQ):=by
 unfold jV jS J
 solve_by_elim (maxDepth:=9999) only [*,xW,Le.gd,Le.bif,Le.bind,Le.sumK,Le.loop,Le.nilK,Le.ifc,Le.refl]
def kV (p:List<|List M5):(Int×BA)->Option ((Int×BA) ⊕ BA):=λs4=>
 bif Nq (s4.1<(p.length:Int)) then
  Rq (
   Rq (
    bif Nq ((0:Int)<s4.1) then
     gd (Nq<|s4.2.size+(⟨#[124]⟩:BA).size<=9223372036854775807) <|
     Nn (s4.2++(⟨#[124]⟩:BA))
    else
     Nn s4.2
   ) λs8=>
   nI 40 (jV p s4) ((0:Int),s8)
  ) λs7=>
  gd (M3 .i64<|s4.1+(1:Int)) <|
  Nn (.inl ((s4.1+(1:Int)),s7))
 else
  Nn (.inr s4.2)
theorem sS (p:List<|List M5) (sQ:_):Le (kV p sQ) (kR p sQ):=by
 unfold kV kR
 solve_by_elim (maxDepth:=9999) only [*,sj,Le.gd,Le.bif,Le.bind,Le.sumK,Le.loop,Le.nilK,Le.ifc,Le.refl]
def ou (p:List<|List M5):Option BA:=
 Rq (
  nI 40 (kV p) ((0:Int),(⟨#[]⟩:BA))
 ) λs1=>
 Nn s1
theorem vw (p:List<|List M5):Le (ou p) (kD p):=by
 unfold ou kD
 solve_by_elim (maxDepth:=9999) only [*,sS,Le.gd,Le.bif,Le.bind,Le.sumK,Le.loop,Le.nilK,Le.ifc,Le.refl]
def iq (text:BA):Option ((List<|List M5)×Bool):=
 Rq (o5 text (124:Int)) λv1=>
 Rq (
  nI 40 (iL v1) (([]:List<|List M5),(0:Int))
 ) λs2=>
 Rq (bU s2) λv36=>
 Rq (bif !v36 then
  Nn Nk
 else
  Rq (ou s2) λv39=>
  Nn (!decide (v39=text))
 ) λs37=>
 bif s37 then
  Nn (([]:List<|List M5),Nl)
 else
  Nn (s2,Nk)
theorem sU (text:BA):Le (iq text) (bJ text):=by
 unfold iq bJ
 solve_by_elim (maxDepth:=9999) only [*,sJ,qP,vw,Le.gd,Le.bif,Le.bind,Le.sumK,Le.loop,Le.nilK,Le.ifc,Le.refl]
def smI (x:M5):Bool:=Nq<|(-1<=x.Op/\x.Op<=6)/\(-1<=x.Loc/\x.Loc<=3)/\(-1<=x.Reg/\x.Reg<=3)/\(-1<=x.Val/\x.Val<=4)
def smP (p:List<|List M5):Bool:=Nq (p.length<=4)&&p.all λr=>Nq (r.length<=8)&&r.all smI
def yG (t:BA):Bool:=match iq t with
 | some v=>smP v.1
 | none=>Nl
theorem ER:∀ l,iD=Nn l->l.all yG=Nk:=by
 intro l h;obtain rfl:=osl h
 decide +kernel
theorem Aw {t:BA} (h:yG t=Nk):M9 (bJ t) λv=>smP v.1=Nk:=by
 unfold yG at h
 cases hc:iq t with
 | none=>rw [hc] at h;cases h
 | some v=>
  rw [hc] at h;exact ⟨v,sU t v hc,h⟩
theorem Iu:∀ l,iD=Nn l->∀ t∈l,M9 (bJ t) λv=>smP v.1=Nk:=
 λl h t ht=>Aw (List.all_eq_true.1 (ER l h) t ht)
def ES (p:List<|List M5):Bool:=Nq (p.length<=1048576)&&p.all λr=>Nq<|r.length<=1048576
def Hn (p:List<|List M5) (i:Nat) (x:List M5):List (List M5):=p.set i<|p.getD i []++x
def jh (r_:ah) (p:List<|List M5):Option (ah×List (List M5)):= gd (ES p) <|bif Nat.beq p.length 0 then Nn (r_,p) else Rq (aH r_ (p.length:Int)) λv1=>Rq (aH v1.1 (40:Int)) λv2=>gd (Nq<|0<=v1.2/\v1.2<(p.length:Int)) <|bif v2.2==(0:Int) then Rq (bC v2.1 ([(0:Int),(6:Int),(1:Int),(4:Int)]:LI)) λa=>Rq (bC a.1 ([(0:Int),(3:Int),(-1:Int)]:LI)) λb=>Nn (b.1,Hn p v1.2.toNat [⟨a.2,b.2,0,0⟩]) else bif v2.2==(1:Int) then Rq (bC v2.1 ([(4:Int),(-1:Int),(3:Int)]:LI)) λa=>Nn (a.1,Hn p v1.2.toNat [⟨2,0,0,a.2⟩]) else bif v2.2==(2:Int) then Nn (v2.1,p++Rs (4-p.length) []) else bif v2.2==(3:Int) then Nn (v2.1,Hn p v1.2.toNat<|Rs (8-(p.getD v1.2.toNat []).length) ⟨1,0,0,0⟩) else bif v2.2==(4:Int) then Nn (v2.1,(p.drop 1).take<|p.length-1) else Nn (v2.1,p)
end
end Go.Proofs.YtabfkkjdfhbngaaGreatDoor
