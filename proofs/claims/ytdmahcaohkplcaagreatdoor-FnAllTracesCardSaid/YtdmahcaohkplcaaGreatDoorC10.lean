/- Texts joined. No conditions. -/
import Derived.Test.YtdmahcaohkplcaaGreatDoorProg
import Derived.Test.YtdmahcaohkplcaaGreatDoorC9
namespace Go.Proofs.YtdmahcaohkplcaaGreatDoor
noncomputable section
open _root_.Inhabited renaming default -> Uo
open _root_.Bool renaming true -> Uq
open _root_.Bool renaming false -> Ur
open _root_.Option renaming some -> Us
open _root_.Option renaming none -> Ut
open _root_.Decidable renaming decide -> Uu
open _root_.Go.Proofs.Tryz
open _root_.Go.Proofs.Tryz renaming prog -> Uv
open _root_.Option renaming bind -> Zx
open _root_.List renaming replicate -> Zy, mem_map -> ZA, mem_singleton -> ZB, getElem_mem -> ZC, mem_append -> ZG, mem_cons -> ZH, not_mem_nil -> ZI, length_nil -> ZJ, eq_of_mem_replicate -> ZK, ext_getElem -> ZM, length_take -> ZN, all_eq_true -> ZO, nodup_cons -> ZP, pairwise_iff_getElem -> ZQ, getElem?_replicate -> ZR, mem_of_mem_drop -> ZT, mem_of_mem_take -> ZU, length_replicate -> ZV, filter_eq_self -> ZW, filter_cons_of_neg -> ZX
open _root_.Int renaming le_refl -> Zz, toNat_of_nonneg -> ZE
open _root_.BitVec renaming ofInt -> ZF
open _root_.Nat renaming not_lt_zero -> ZL
open Go.RowKit
set_option maxRecDepth 100000
section
variable {p:List (List TW)} {x:XS} {F:LI}
def lrC (p:List<|List TW) (t idx reg:Int) (e:TZ):Bool:=Uu (e.Thread=t)&&Uu (e.Index<idx)&&e.Reads&&(((p.getD t.toNat Uo).getD e.Index.toNat Uo).Reg==reg)
def lrN (p:List<|List TW) (t idx reg:Int):Nat->Int
 | 0 => -1
 | n+1=>if lrC p t idx reg (ev p (n:Int))=Uq then (n:Int) else lrN p t idx reg n
def lrd (p:List<|List TW) (t idx reg:Int):Int:=lrN p t idx reg (evs p).length
theorem Pw {t idx reg:Int}:∀ (n:Nat),(lrN p t idx reg n = -1/\∀ i:Nat,i<n->lrC p t idx reg (ev p (i:Int))=Ur)\/∃ r:Nat,r<n/\lrN p t idx reg n=(r:Int)/\lrC p t idx reg (ev p (r:Int))=Uq/\∀ i:Nat,i<n->r<i->lrC p t idx reg (ev p (i:Int))=Ur
 | 0 => .inl ⟨rfl,λi h=>absurd h<|ZL _⟩
 | n+1=>by
  by_cases h:lrC p t idx reg (ev p (n:Int))=Uq
  ·exact .inr ⟨n,by omega,if_pos h,h,λi h1 h2=>by omega⟩
  have e:lrN p t idx reg (n+1)=lrN p t idx reg n:=if_neg h;have hf:lrC p t idx reg (ev p (n:Int))=Ur:=by simpa using h
  rcases Pw n with ⟨h1,h2⟩ | ⟨r,h1,h2,h3,h4⟩
  ·refine .inl ⟨e.trans h1,λi hi=>?_⟩
   by_cases ei:i=n
   ·subst ei;exact hf
   exact h2 i (by omega)
  grind
theorem Px (t idx reg:Int):(lrd p t idx reg = -1/\∀ i:Nat,i<(evs p).length->lrC p t idx reg (ev p (i:Int))=Ur)\/∃ r:Nat,r<(evs p).length/\lrd p t idx reg=(r:Int)/\lrC p t idx reg (ev p (r:Int))=Uq/\∀ i:Nat,i<(evs p).length->r<i->lrC p t idx reg (ev p (i:Int))=Ur:=Pw _
theorem Nk {t idx reg:Int} {e:TZ}:lrC p t idx reg e=Uq↔e.Thread=t/\e.Index<idx/\e.Reads=Uq/\((p.getD t.toNat Uo).getD e.Index.toNat Uo).Reg=reg:=by
 unfold lrC
 grind
theorem Py (hp:PV p) {n:Int} (h0:0<=n) (h:n<((evs p).length:Int)) (ht : ¬ (ev p n).Thread<0):∃ t k:Nat,Isn p t k/\n=(base p t k:Int)/\(ev p n).Thread=(t:Int)/\(ev p n).Index=(k:Int):=by
 rcases gH h0 h with hc | ⟨t,k,hI,rfl⟩
 ·exfalso;have := (p5 (p:=p) (l:=n.toNat)<|by omega).1
  grind
 exact ⟨t,k,hI,rfl,by rw [hI.ev.1],by rw [hI.ev.1]⟩
def VB (p:List<|List TW) (x:XS) (vals:LI) (B:List Bool):aD:=⟨p,⟨x.1,x.2⟩,evs p,vals,B⟩
theorem KQ (hp:PV p) {vals:LI} {B:List Bool} {t:Nat} (ht:t<p.length) (idx reg:Int):Uc (fJ (VB p x vals B) (t:Int) idx reg) (· = (VB p x vals B,lrd p (t:Int) idx reg)):=by
 have hel:=kT hp.vs;unfold fJ;refine Uc.bind (P:=(· = lrd p (t:Int) idx reg)) ?_ λv hv => .pure (by rw [hv]);refine Uc.loop (λz=>∃ n:Nat,n<=(evs p).length/\z=((n:Int),lrN p (t:Int) idx reg n)) (λz=>(((evs p).length:Int)-z.1).toNat) ⟨0,by omega,rfl⟩ λz ⟨n,h1,h2⟩ => ?_;subst h2;unfold lW J;have en:(evs p).getD n Uo=ev p (n:Int):=by unfold ev;simp_all
 simp only [VB,tnn,en];refine .bifD (λhk=>?_) λhk => .pure (by rw [show n=(evs p).length by omega];rfl);refine Uc.bind (P:=(· = lrN p (t:Int) idx reg (n+1))) (.gdD ⟨by omega,hk⟩ (Uc.bind (P:=(· = lrC p (t:Int) idx reg (ev p (n:Int)))) (.bif (λh1 => .bifD (λh2 => .bif (λh3=>?_) λh3 => .pure ?_) λh2 => .pure ?_) λh1 => .pure ?_) λv hv => .bif (λh => .pure ?_) λh => .pure ?_)) λv hv => .gdI (by omega)<|.pure ⟨⟨n+1,by omega,by simp_all⟩,by omega⟩
 ·have h1:(ev p (n:Int)).Thread=(t:Int):=eq_of_beq h1;obtain ⟨t',k,hI,e,e1,e2⟩:=Py hp (n:=(n:Int)) (by omega) (by omega) (by omega);have : t'=t:=by omega
  subst this;have := hI.k;refine .gdD ⟨by omega,by omega⟩<|.gdD ⟨by omega,by rw [e2];omega⟩<|.pure ?_;unfold lrC
  simp_all
 ·unfold lrC;simp_all
 ·unfold lrC;grind
 ·unfold lrC
  simp_all
 ·show (n:Int)=lrN p (t:Int) idx reg (n+1);rw [lrN,if_pos (by simp_all)]
 show lrN p (t:Int) idx reg n=lrN p (t:Int) idx reg (n+1);rw [lrN,if_neg (by simp_all)]
def K7 (p:List<|List TW) (i:Int):TW:=(p.getD (ev p i).Thread.toNat Uo).getD (ev p i).Index.toNat Uo
def lrE (p:List<|List TW) (i:Int):Int:=lrd p (ev p i).Thread (ev p i).Index (K7 p i).Reg
def Stp (p:List<|List TW) (x:XS) (i j:Int):Prop := ¬ (ev p i).Thread<0/\(K7 p i).Op=3 /\ ¬ lrE p i<0/\j=x.1.getD (lrE p i).toNat Uo
inductive Chn (p:List (List TW)) (x:XS):Int->Int->Prop
 | ini {i:Int} (h:(ev p i).Thread<0):Chn p x i 0
 | val {i:Int} (h : ¬ (ev p i).Thread<0) (h3:(K7 p i).Op≠3):Chn p x i (K7 p i).Val
 | zer {i:Int} (h : ¬ (ev p i).Thread<0) (h3:(K7 p i).Op=3) (hr:lrE p i<0):Chn p x i 0
 | nxt {i j v:Int} (h:Stp p x i j) (c:Chn p x j v):Chn p x i v
inductive Rc (p:List (List TW)) (x:XS):Int->Int->Prop
 | refl (i:Int):Rc p x i i
 | step {i j k:Int} (h:Stp p x i j) (c:Rc p x j k):Rc p x i k
def Cyc (p:List<|List TW) (x:XS) (i:Int):Prop:=∃ j k,Rc p x i j/\Stp p x j k/\Rc p x k j
theorem Stp.det {i j k:Int} (h:Stp p x i j) (h':Stp p x i k):j=k:=h.2.2.2.trans h'.2.2.2.symm
theorem Chn.det {i v w:Int} (h:Chn p x i v):Chn p x i w->v=w:=by
 induction h with
 | ini h=>intro h';cases h' with
  | ini _=>rfl
  | val h1 _=>omega
  | zer h1 _ _=>omega
  | nxt h1 _=>exact absurd h h1.1
 | val h h3=>intro h';cases h' with
  | ini h1=>omega
  | val _ _=>rfl
  | zer _ h1 _=>omega
  | nxt h1 _=>exact absurd h1.2.1 h3
 | zer h h3 hr=>intro h';cases h' with
  | ini h1=>omega
  | val _ h1=>omega
  | zer _ _ _=>rfl
  | nxt h1 _=>exact absurd hr h1.2.2.1
 | nxt h c ih=>intro h';cases h' with
  | ini h1=>exact absurd h1 h.1
  | val _ h1=>exact absurd h.2.1 h1
  | zer _ _ h1=>exact absurd h1 h.2.2.1
  | nxt h1 c1=>obtain rfl:=h.det h1;simp_all
theorem Chn.not_cyc {i v:Int} (h:Chn p x i v) : ¬ Cyc p x i:=by
 have nost:∀ {i},(∀ j,¬ Stp p x i j) -> ¬ Cyc p x i:=λ{i} hn ⟨j,k,h1,h2,h3⟩=>by
  cases h1 with
  | refl _=>simp_all
  | step h _=>simp_all
 induction h with
 | ini h=>exact nost λj hj=>hj.1 h
 | val h h3=>exact nost λj hj=>h3 hj.2.1
 | zer h h3 hr=>exact nost λj hj=>hj.2.2.1 hr
 | nxt h c ih=>
  rintro ⟨j,k,h1,h2,h3⟩
  cases h1 with
  | refl _=>
   obtain rfl:=h.det h2;exact ih ⟨_,_,h3,h2,h3⟩
  | step h' c'=>
   obtain rfl:=h.det h';exact ih ⟨j,k,c',h2,h3⟩
theorem Cyc.step {i j:Int} (h:Stp p x i j) (c:Cyc p x j):Cyc p x i:=by
 obtain ⟨a,b,h1,h2,h3⟩:=c;exact ⟨a,b,.step h h1,h2,h3⟩
theorem EU {B:List Bool} {i:Nat} (hi:i<B.length) (hb:B.getD i Uo=Ur):(B.set i Uq).count Ur+1=B.count Ur:=by
 grind
theorem OM {B:List Bool} {i:Nat} (hi:i<B.length) (hb:B.getD i Uo=Ur):(B.set i Uq).set i Ur=B:=by
 rw [List.set_set];apply ZM
 ·simp
 grind
def SJ (p:List<|List TW) (x:XS) (vals:LI) (B:List Bool) (i:Int) (q:aD×Int×Bool):Prop:=
 q.1=VB p x vals B/\(q.2.2=Uq->Chn p x i q.2.1)/\(q.2.2=Ur->q.2.1=0/\((∃ j:Nat,B.getD j Uo=Uq/\Rc p x i (j:Int))\/Cyc p x i))
theorem Nl (hp:PV p) (C:Cand p x F):∀ (m:Nat) (vals:LI) (B:List Bool) (i:Nat),B.count Ur<m->B.length=(evs p).length->i<(evs p).length->Uc (bU m (VB p x vals B) (i:Int)) (SJ p x vals B (i:Int))
 | 0,_,_,_,h,_,_=>absurd h (ZL _)
 | m+1,vals,B,i,hm,hB,hi=>by
  have hel:=kT hp.vs;have ei:(evs p).getD i Uo=ev p (i:Int):=by unfold ev;simp_all
  show Uc (gF (bU m) (VB p x vals B) (i:Int)) _;unfold gF J;simp only [VB,tnn,ei];refine .gdD ⟨by omega,by omega⟩<|.bifD (λh0 => .pure ⟨rfl,λ_ => .ini h0,λe=>(by cases e)⟩) λh0=>?_;obtain ⟨t,k,hI,e,e1,e2⟩:=Py hp (n:=(i:Int)) (by omega) (by omega) h0;have hins:((p.getD (ev p (i:Int)).Thread.toNat Uo).getD (ev p (i:Int)).Index.toNat Uo)=K7 p (i:Int):=rfl;simp only [hins];have ht:=hI.t;have hk:=hI.k;refine .gdD ⟨by omega,by omega⟩<|.gdD ⟨by omega,by simp_all⟩<|.bif (λh3 => .pure ⟨rfl,λ_ => .val h0 (by simp_all),λe=>(by cases e)⟩) λh3=>?_;have h3:(K7 p (i:Int)).Op=3:=by simpa using h3
  refine .gdD ⟨by omega,by omega⟩<|.bif (λhb => .pure ⟨rfl,λe=>(by cases e),λ_=>⟨rfl,.inl ⟨i,hb,.refl _⟩⟩⟩) λhb=>?_;have hlr:=KQ (x:=x) (vals:=vals) (B:=B) hp ht (ev p (i:Int)).Index (K7 p (i:Int)).Reg;rw [<- e1] at hlr;refine hlr.bind λv8 h8=>?_;subst h8;have hlE:lrd p (ev p (i:Int)).Thread (ev p (i:Int)).Index (K7 p (i:Int)).Reg=lrE p (i:Int):=rfl;simp only [VB,hlE];refine .bifD (λhr => .pure ⟨rfl,λ_ => .zer h0 h3 hr,λe=>(by cases e)⟩) λhr=>?_;rcases Px (p:=p) (ev p (i:Int)).Thread (ev p (i:Int)).Index (K7 p (i:Int)).Reg with ⟨g1,_⟩ | ⟨r,g1,g2,g3,_⟩
  ·omega
  rw [hlE] at g2;have hrd:=(Nk.1 g3).2.2.1;have hrF:(r:Int)∈F:=(C.mem _).2 ⟨by omega,by omega⟩;have hfr:=C.rdc _ hrF hrd;rw [tnn] at hfr;obtain ⟨j0,j1⟩:=(C.mem _).1 (((C.ods _<|qG hp (n:=(r:Int)) (by omega)<|by omega).mem _).1 hfr).1;generalize hj:x.1.getD r Uo=j at hfr j0 j1;have hst:Stp p x (i:Int) j:=⟨h0,h3,hr,by simp_all⟩;refine .gdD ⟨by omega,by omega⟩<|.gdD ⟨by omega,by rw [g2,C.flen];omega⟩ ?_;rw [g2,tnn,hj];have hc:=EU (show i<B.length by omega) hb;have hrec:=Nl hp C m vals (B.set i Uq) j.toNat (by omega) (by simp_all) (by omega);rw [ZE j0] at hrec;refine hrec.bind λq ⟨q1,q2,q3⟩ => ?_;rw [q1];simp only [VB,List.length_set];refine .gdD ⟨by omega,by omega⟩<|.pure ⟨?_,λh => .nxt hst<|q2 h,λh=>?_⟩
  ·simp only [VB,OM (show i<B.length by omega) hb]
  obtain ⟨q4,q3⟩:=q3 h;refine ⟨q4,?_⟩;rcases q3 with ⟨a,a1,a2⟩ | hcy
  ·by_cases ea:a=i
   ·subst ea;exact .inr ⟨_,_,.refl _,hst,a2⟩
   refine .inl ⟨a,?_,.step hst a2⟩
   grind
  exact .inr<|.step hst hcy
theorem Nn (hp:PV p) (C:Cand p x F) (vals:LI) {i:Nat} (hi:i<(evs p).length):Uc (mO (VB p x vals<|Zy (evs p).length Ur) (i:Int)) λq=>q.1=VB p x vals (Zy (evs p).length Ur)/\(q.2.2=Uq->Chn p x (i:Int) q.2.1)/\(q.2.2=Ur->Cyc p x (i:Int)):=by
 have nob:∀ {q:aD×Int×Bool},SJ p x vals (Zy (evs p).length Ur) (i:Int) q->q.1=VB p x vals (Zy (evs p).length Ur)/\(q.2.2=Uq->Chn p x (i:Int) q.2.1)/\(q.2.2=Ur->q.2.1=0/\Cyc p x (i:Int)):=λ{q} ⟨h1,h2,h3⟩=>⟨h1,h2,λh=>⟨(h3 h).1,by
  rcases (h3 h).2 with ⟨j,hj,_⟩ | hc
  ·exfalso;rw [gdq,ZR] at hj
   split at hj <;> cases hj
  omega⟩⟩
 have key:∀ m,(evs p).length<m->Uc (bU m (VB p x vals<|Zy (evs p).length Ur) (i:Int)) (SJ p x vals (Zy (evs p).length Ur) (i:Int)):=λm hm=>Nl hp C m vals _ i (by simp_all) (by simp) hi;obtain ⟨q,hq,hP⟩:=key ((evs p).length+1) (by omega);obtain ⟨p1,p2,p3⟩:=nob hP;refine .of (yQ (v:=q) (evs p).length λm hm=>?_).eq ⟨p1,p2,λh=>(p3 h).2⟩;obtain ⟨q',hq',hP'⟩:=key m hm;obtain ⟨r1,r2,r3⟩:=nob hP';refine .of hq' ?_;obtain ⟨qa,qb,qc⟩:=q;obtain ⟨ra,rb,rc⟩:=q';simp only at p1 p2 p3 r1 r2 r3;subst p1 r1
 cases qc <;> cases rc
 ·simp_all
 ·exact absurd (p3 rfl).2 (r2 rfl).not_cyc
 ·exact absurd (r3 rfl).2 (p2 rfl).not_cyc
 rw [(p2 rfl).det (r2 rfl)]
theorem OP (hp:PV p) (C:Cand p x F):Uc (nZ p ⟨x.1,x.2⟩) λq=>(q.2=Uq->q.1.length=(evs p).length/\∀ i:Nat,i<(evs p).length->(ev p (i:Int)).bq=Uq->Chn p x (i:Int) (q.1.getD i Uo))/\(q.2=Ur->∃ i:Nat,i<(evs p).length/\(ev p (i:Int)).bq=Uq/\Cyc p x (i:Int)):=by
 have hel:=kT hp.vs;unfold nZ;refine (Gh hp.vs).bind λv1 h1=>?_;subst h1;refine .gdD ⟨by omega,by omega,by omega,by omega⟩ ?_;refine Uc.sum (PS:=λz=>z.1.length=(evs p).length/\∀ i:Nat,i<(evs p).length->(ev p (i:Int)).bq=Uq->Chn p x (i:Int) (z.1.getD i Uo)) (PW:=λq:List Int×Bool=>(q.2=Uq->q.1.length=(evs p).length/\∀ i:Nat,i<(evs p).length->(ev p (i:Int)).bq=Uq->Chn p x (i:Int) (q.1.getD i Uo))/\(q.2=Ur->∃ i:Nat,i<(evs p).length/\(ev p (i:Int)).bq=Uq/\Cyc p x (i:Int))) ?_ λz hz => .pure ⟨λ_=>hz,λe=>(by cases e)⟩;have e0:Zy ((evs p).length:Int).toNat (Uo:Bool)=Zy (evs p).length Ur:=by rw [tnn];rfl
 rw [e0];refine Uc.loop (λz=>∃ n:Nat,n<=(evs p).length/\z.2=(p,x.1,x.2,evs p,Zy (evs p).length Ur,(n:Int))/\z.1.length=n/\∀ i:Nat,i<n->(ev p (i:Int)).bq=Uq->Chn p x (i:Int) (z.1.getD i Uo)) (λz=>(((evs p).length:Int)-z.2.2.2.2.2.2).toNat) ⟨0,by omega,rfl,rfl,λi hi=>absurd hi<|by omega⟩ λz ⟨n,n1,n2,n3,n4⟩ => ?_;obtain ⟨vals,z2⟩:=z;simp only at n2 n3 n4;subst n2;unfold tj J;have en:(evs p).getD n Uo=ev p (n:Int):=by unfold ev;rw [tnn]
 simp only [tnn,en];refine .bifD (λhk => .gdD ⟨by omega,hk⟩ ?_) λhk => .pure ⟨by simp only [];omega,λi hi=>n4 i<|by omega⟩;refine Uc.sum (PS:=λs=>s.1=p/\s.2.1=x.1/\s.2.2.1=x.2/\s.2.2.2.1=evs p/\s.2.2.2.2.1=Zy (evs p).length Ur/\((ev p (n:Int)).bq=Uq->Chn p x (n:Int) s.2.2.2.2.2)) ?_ λs ⟨s1,s2,s3,s4,s5,s6⟩ => .gd (aT (by omega) rfl)<|.gdI (by omega)<|.pure ⟨⟨n+1,by omega,?_,by simp [n3],λi hi hw=>?_⟩,by simp only [];omega⟩
 ·refine .bif (λhw=>?_) λhw => .pure ⟨rfl,rfl,rfl,rfl,rfl,λh=>by rw [hw] at h;cases h⟩;refine (Nn hp C vals (i:=n)<|by omega).bind λq ⟨q1,q2,q3⟩ => .bif (λhq => .pure ?_) λhq => .pure ⟨by rw [q1];rfl,by rw [q1];rfl,by rw [q1];rfl,by rw [q1];rfl,by rw [q1];rfl,λ_=>q2<|by simpa using hq⟩;exact ⟨λe=>(by cases e),λ_=>⟨n,by omega,hw,q3<|by simpa using hq⟩⟩
 ·rw [s1,s2,s3,s4,s5]
  rfl
 grind
end
section
variable {p:List (List TW)} {x:XS} {F:LI}
def tNm (s:BA):ZTE := .mk 1 s []
def QM (op:Int) (a b:ZTE):ZTE := .mk op ⟨#[]⟩ [a,b]
def sPo:BA:=⟨#[112,111]⟩
def sRf:BA:=⟨#[114,102]⟩
def sCo:BA:=⟨#[99,111]⟩
def sFr:BA:=⟨#[102,114]⟩
def RR:ZTE:=QM 2 (QM 2 (QM 2 (tNm sPo)<|tNm sRf)<|tNm sCo)<|tNm sFr
def Pz:List aj:=[⟨1,RR.out⟩]
theorem OQ {s:BA} (h:s∈He):VT (tNm s):=by unfold tNm;rw [VT];exact .inl ⟨rfl,h⟩
theorem Np {op:Int} {a b:ZTE} (ho:op=2\/op=3\/op=4\/op=5) (ha:VT a) (hb:VT b):VT (QM op a b):=by unfold QM;rw [VT];exact .inr<|.inr ⟨ho,rfl,by rw [VL,VL,VL];exact ⟨ha,hb,trivial⟩⟩
theorem RS:VT RR:=Np (.inl rfl) (Np (.inl rfl) (Np (.inl rfl) (OQ<|by simp [He,sPo])<|OQ<|by simp [He,sRf])<|OQ<|by simp [He,sCo])<|OQ (by simp [He,sFr])
theorem Ka {base:BA->Int->Int->Bool} {N:Nat} (s:BA):FP base N (tNm s)=base s:=by unfold tNm;rw [FP,NL,if_pos rfl]
theorem Nq {base:BA->Int->Int->Bool} {N:Nat} (a b:ZTE):FP base N (QM 2 a b)=λi k=>FP base N a i k||FP base N b i k:=by
 unfold QM;rw [FP,ET,ET,ET,NL,if_neg (by decide),if_neg (by decide),if_neg (by decide),if_pos rfl];rfl
theorem QN:FP (nmR p x) (evs p).length RR=Ud p x:=by
 unfold RR;rw [Nq,Nq,Nq,Ka,Ka,Ka,Ka]
 rfl
theorem H3 (hp:PV p) (R:RunOf p x F):pu (evs p).length (Uj (Ud p x) (evs p).length)=Uq:=by
 rw [AX];intro i hi
 cases h:Uj (Ud p x) (evs p).length (i:Int) (i:Int) with
 | false=>rfl
 | true=>
  exfalso;have hR:=J7 (N:=(evs p).length) (f:=Ud p x) (R:=λi k=>i∈F->k∈F->rk F i<rk F k) (λi k j hj h1 h2 hi hk=>by
   have hjF:(j:Int)∈F:=(R.mem _).2 ⟨by omega,by omega⟩;have := h1 hi hjF;have := h2 hjF hk;omega) (λi k h hi hk=>JU hp R hi hk h) _ (Nat.le_refl _) _ _ h
  have hiF:(i:Int)∈F:=(R.mem _).2 ⟨by omega,by omega⟩;have := hR hiF hiF;omega
theorem Kb (hp:PV p) (R:RunOf p x F):∀ (n:Nat) (i:Int),i∈F->rk F i<n->∃ v,Chn p x i v
 | 0,_,_,h=>absurd h (ZL _)
 | n+1,i,hi,hn=>by
  obtain ⟨i0,i1⟩:=(R.mem i).1 hi;have C:=R.cand hp
  by_cases h0:(ev p i).Thread<0
  ·exact ⟨_,.ini h0⟩
  by_cases h3:(K7 p i).Op=3
  ·by_cases hr:lrE p i<0
   ·exact ⟨_,.zer h0 h3 hr⟩
   rcases Px (p:=p) (ev p i).Thread (ev p i).Index (K7 p i).Reg with ⟨g1,_⟩ | ⟨r,g1,g2,g3,_⟩
   ·exact absurd (show lrE p i<0 by show lrd _ _ _ _<0;omega) hr
   obtain ⟨c1,c2,c3,c4⟩:=Nk.1 g3;have hrF:(r:Int)∈F:=(R.mem _).2 ⟨by omega,by omega⟩;have hfr:=C.rdc _ hrF c3;rw [tnn] at hfr;have hjF:=(((C.ods _<|qG hp (n:=(r:Int)) (by omega)<|by omega).mem _).1 hfr).1;have b1:Ud p x (x.1.getD r Uo) (r:Int)=Uq:=by
    unfold Ud rfB;rw [c3,tnn,decide_eq_true rfl];simp
   have b2:Ud p x (r:Int) i=Uq:=by
    unfold Ud poB;rw [decide_eq_true c1,decide_eq_true (by omega:0<=(ev p (r:Int)).Thread),decide_eq_true c2]
    rfl
   have r1:=JU hp R hjF hrF b1;have r2:=JU hp R hrF hi b2;obtain ⟨v,hv⟩:=Kb hp R n _ hjF (by omega);exact ⟨v,.nxt ⟨h0,h3,hr,by show _=x.1.getD (lrd _ _ _ _).toNat Uo;rw [g2,tnn]⟩ hv⟩
  exact ⟨_,.val h0 h3⟩
theorem Je (C:Cand p x F) (hl:pu (evs p).length (Uj (Ud p x) (evs p).length)=Uq) {a:Nat->Nat} (h:∃ i,i∈F/\dn p a i=Ur):∃ n,n∈F/\dn p a n=Ur/\zu p x F a n:=by
 let U:LI:=(List.range (evs p).length).map (λ(i:Nat)=>(i:Int)) |>.filter λi => !dn p a i;have hU:∀ i,i∈U↔i∈F/\dn p a i=Ur:=λi=>by
  simp only [U,List.mem_filter,Bool.not_eq_true'];rw [C.mem];exact ⟨λ⟨a,b⟩=>⟨(wK i).1 a,b⟩,λ⟨a,b⟩=>⟨(wK i).2 a,b⟩⟩
 let pre:Int->Nat:=λm=>(U.filter λi=>Uj (Ud p x) (evs p).length i m).length;obtain ⟨n,⟨h1,h2⟩,h3⟩:=Pn pre _ h;refine ⟨n,h1,h2,λi hi hb=>?_⟩
 cases hd:dn p a i with
 | true=>rfl
 | false=>
  exfalso;have hle:=h3 i ⟨hi,hd⟩;obtain ⟨i0,i1⟩:=(C.mem i).1 hi;have hin:Uj (Ud p x) (evs p).length i n=Uq:=OJ hb;have hii:Uj (Ud p x) (evs p).length i i=Ur:=by
   have := AX.1 hl i.toNat (by omega)
   rwa [ZE i0] at this
  obtain ⟨g1,g2⟩:=wI (n:=i) (P:=λj=>Uj (Ud p x) (evs p).length j i) (Q:=λj=>Uj (Ud p x) (evs p).length j n) (l:=U) (λj hj h=>by
   have := Nf (N:=(evs p).length) (f:=Ud p x) (i:=j) (k:=n) (j:=i.toNat) (by omega) (by rw [ZE i0];exact h) (by rw [ZE i0];exact hin);exact this)
  have := g2 ((hU i).2 ⟨hi,hd⟩) hii hin;simp only [pre] at hle;omega
theorem OT (C:Cand p x F) (hl:pu (evs p).length (Uj (Ud p x) (evs p).length)=Uq) {a:Nat->Nat} (hs:StA p a) (hf : ¬ ME p a):∃ t,jy p x F a t:=by
 have hex:∃ t,t<p.length/\a t<(p.getD t Uo).length:=by
  apply Classical.byContradiction;intro hno;refine hf λt ht=>?_;have := hs t ht;have := mt (λh=>(⟨t,ht,h⟩:∃ t,t<p.length/\a t<(p.getD t Uo).length)) hno;omega
 by_cases hfe:∃ t,t<p.length/\a t<(p.getD t Uo).length/\Ei p t (a t)
 ·obtain ⟨t,h1,h2,h3⟩:=hfe;refine ⟨t,h1,h2,λn hn=>?_⟩;unfold nxt at hn;rw [if_pos h3] at hn
  cases hn
 have hev:∀ t,t<p.length->a t<(p.getD t Uo).length->Isn p t (a t):=λt h1 h2=>⟨h1,h2,λh3=>hfe ⟨t,h1,h2,h3⟩⟩;obtain ⟨t,h1,h2⟩:=hex;have hI:=hev t h1 h2;obtain ⟨n,n1,n2,n3⟩:=Je C hl (a:=a) ⟨(base p t (a t):Int),(C.mem _).2 ⟨by omega,by have := hI.ev.2;omega⟩,by
  cases hd:dn p a (base p t (a t):Int) with
  | false=>rfl
  | true=>have := (kU hI).1 hd;omega⟩
 obtain ⟨m0,m1⟩:=(C.mem n).1 n1;rcases gH m0 m1 with h3 | ⟨t',k',h3,rfl⟩
 ·rw [wJ m0 h3] at n2
  cases n2
 have hle:a t'<=k':=by
  rcases Nat.lt_or_ge k' (a t') with h | h
  ·rw [(kU h3).2 h] at n2;cases n2
  exact h
 have hI':=hev t' h3.t (by have := h3.k;omega);have : a t'=k':=by
  rcases Nat.lt_or_ge (a t') k' with h | h
  ·exfalso;have := (kU hI').1 (n3 (base p t' (a t'):Int) ((C.mem _).2 ⟨by omega,by have := hI'.ev.2;omega⟩) (by
    unfold Ud poB;rw [hI'.ev.1,h3.ev.1];simp only [decide_true,Bool.true_and,Bool.or_eq_true,dte,bae];exact .inl (.inl (.inl ⟨by omega,by omega⟩)))
    )
   omega
  omega
 refine ⟨t',h3.t,hI'.k,λm hm=>?_⟩;unfold nxt at hm;rw [if_neg (show ¬ Ei p t' (a t') from hI'.o)] at hm;injection hm with hm;rw [<- hm,this];exact n3
theorem Es (hp:PV p) (hv:bS (Uh p)=Uq) (C:Cand p x F) {l:LI} {b:Bool} (h:bv p ⟨x.1,x.2⟩=Us (l,b)):b=pu (evs p).length (Uj (Ud p x) (evs p).length):=by
 obtain ⟨l',b',e1,e2,_,_,h5,h6⟩:=yP hp hv C;rw [h] at e1;obtain ⟨rfl,rfl⟩:=Prod.mk.inj<|osl e1
 cases b with
 | true=>
  obtain ⟨g1,g2,_⟩:=h5 rfl;have R:=yh hp g1;rw [g2] at R;exact (H3 hp R).symm
 | false=>
  cases hl:pu (evs p).length (Uj (Ud p x) (evs p).length) with
  | false=>rfl
  | true=>
   exfalso;obtain ⟨v,ev,_,v2⟩:=El hp C;rw [e2] at ev;obtain rfl:=osl ev;obtain ⟨_,a,a1,a2,a3⟩:=v2 rfl;obtain ⟨t,ht⟩:=OT C hl a1 a2;exact a3 t ht
theorem KR (hp:PV p) (hv:bS (Uh p)=Uq) (C:Cand p x F):Uc (iL p ⟨x.1,x.2⟩ Pz) λv=>(v.1<0↔pu (evs p).length (Uj (Ud p x) (evs p).length)=Uq)/\(v.1<0->v.1 = -1):=by
 have hN:=RQ hv;refine (OL (N:=(evs p).length) (base:=nmR p x) (by omega) (λnm hn=>SI hp C hn) (m:=Pz) (λr hr=>?_)<|by decide).mono λv ⟨h1,h2⟩=>⟨h1.trans ?_,h2⟩
 ·obtain rfl:=ZB.1 hr;exact ⟨.inl rfl,RS⟩
 unfold Pz;simp only [ZB,forall_eq];unfold okR;rw [if_pos rfl];show pu _ (Uj (FP (nmR p x) (evs p).length RR) _)=Uq↔_;rw [QN]
theorem Jf (hp:PV p) (hv:bS (Uh p)=Uq) (C:Cand p x F):Uc (qg p ⟨x.1,x.2⟩ Pz) (· = pu (evs p).length (Uj (Ud p x) (evs p).length)):=by
 unfold qg;refine (OP hp C).bind λv ⟨v1,v2⟩ => .bif (λh => .pure ?_) λh=>(KR hp hv C).bind λw ⟨w1,_⟩ => .pure ?_
 ·obtain ⟨i,i1,i2,i3⟩:=v2 (by simpa using h)
  cases hl:pu (evs p).length (Uj (Ud p x) (evs p).length) with
  | false=>rfl
  | true=>
   exfalso;obtain ⟨l,b,e1,_,_,_,h5,_⟩:=yP hp hv C;have hb:=Es hp hv C e1;rw [hl] at hb;obtain ⟨g1,g2,_⟩:=h5 hb;have R:=yh hp g1;rw [g2] at R;obtain ⟨v,hv⟩:=Kb hp R _ (i:Int) ((R.mem _).2 ⟨by omega,by omega⟩)<|Nat.lt_succ_self _;exact hv.not_cyc i3
 show Uu (w.1<0)=_
 cases hl:pu (evs p).length (Uj (Ud p x) (evs p).length) with
 | true=>exact decide_eq_true (w1.2 hl)
 | false=>exact decide_eq_false λe=>by rw [w1.1 e] at hl;cases hl
end
theorem OU:lV ⟨#[115,101,113]⟩=Us (Pz,Uq):=BM _ _ (by kernel_rfl)
theorem OV:fg Pz=Us Uq:=rM _ _ (by kernel_rfl)
def lZ (code:LI):Option ah:= Zx (bif Uu ((2000:Int)<(code.length:Int)) then gd (Uu<|0<=(0:Int)/\(0:Int)<=(2000:Int)/\(2000:Int)<=(code.length:Int)) <|Us ((code.drop (0:Int).toNat).take<|(2000:Int).toNat-(0:Int).toNat) else Us code) λs1=>Us (⟨s1,(0:Int)⟩:ah)
def aI (r_:ah) (n:Int):Option (ah×Int):= gd (TT .i64<|r_.p+(1:Int)) <|Zx (bif Uu (n<(1:Int)) then Us Uq else Us ((r_.b.length:Int)==(0:Int))) λs2=>bif s2 then Us ((⟨r_.b,(r_.p+(1:Int))⟩:ah),(0:Int)) else gd (TT .i64<|(r_.p+(1:Int))-(1:Int)) <|bif Uu (((r_.p+(1:Int))-(1:Int))<(r_.b.length:Int)) then gd (Uu<|0<=((r_.p+(1:Int))-(1:Int))/\((r_.p+(1:Int))-(1:Int))<(r_.b.length:Int)) <|gd (TT .i64<|J r_.b<|(r_.p+(1:Int))-(1:Int)) <|gd (Uu<|n≠0) <|Us ((⟨r_.b,(r_.p+(1:Int))⟩:ah),((J r_.b<|(r_.p+(1:Int))-(1:Int)).tmod n)) else gd (Uu<|(r_.b.length:Int)≠0) <|gd (Uu<|0<=(((r_.p+(1:Int))-(1:Int)).tmod (r_.b.length:Int))/\(((r_.p+(1:Int))-(1:Int)).tmod (r_.b.length:Int))<(r_.b.length:Int)) <|gd (TT .i64<|J r_.b<|((r_.p+(1:Int))-(1:Int)).tmod (r_.b.length:Int)) <|gd (TT .i64<|(J r_.b<|((r_.p+(1:Int))-(1:Int)).tmod (r_.b.length:Int))*(131:Int)) <|gd (TT .i64<|((r_.p+(1:Int))-(1:Int))*(7:Int)) <|gd (TT .i64<|(((r_.p+(1:Int))-(1:Int))*(7:Int))+(3:Int)) <|gd (Uu<|0<=(((((r_.p+(1:Int))-(1:Int))*(7:Int))+(3:Int)).tmod (r_.b.length:Int))/\(((((r_.p+(1:Int))-(1:Int))*(7:Int))+(3:Int)).tmod (r_.b.length:Int))<(r_.b.length:Int)) <|gd (TT .i64<|J r_.b<|((((r_.p+(1:Int))-(1:Int))*(7:Int))+(3:Int)).tmod (r_.b.length:Int)) <|gd (TT .i64<|(J r_.b<|((((r_.p+(1:Int))-(1:Int))*(7:Int))+(3:Int)).tmod (r_.b.length:Int))*(1117:Int)) <|gd (TT .i64<|((J r_.b<|((r_.p+(1:Int))-(1:Int)).tmod (r_.b.length:Int))*(131:Int))+((J r_.b<|((((r_.p+(1:Int))-(1:Int))*(7:Int))+(3:Int)).tmod (r_.b.length:Int))*(1117:Int))) <|gd (TT .i64<|((r_.p+(1:Int))-(1:Int))*(29:Int)) <|gd (TT .i64<|(((J r_.b<|((r_.p+(1:Int))-(1:Int)).tmod (r_.b.length:Int))*(131:Int))+((J r_.b<|((((r_.p+(1:Int))-(1:Int))*(7:Int))+(3:Int)).tmod (r_.b.length:Int))*(1117:Int)))+(((r_.p+(1:Int))-(1:Int))*(29:Int))) <|gd (TT .i64<|((r_.p+(1:Int))-(1:Int)).tdiv (r_.b.length:Int)) <|gd (TT .i64<|(((r_.p+(1:Int))-(1:Int)).tdiv (r_.b.length:Int))*(53:Int)) <|gd (TT .i64<|((((J r_.b<|((r_.p+(1:Int))-(1:Int)).tmod (r_.b.length:Int))*(131:Int))+((J r_.b<|((((r_.p+(1:Int))-(1:Int))*(7:Int))+(3:Int)).tmod (r_.b.length:Int))*(1117:Int)))+(((r_.p+(1:Int))-(1:Int))*(29:Int)))+((((r_.p+(1:Int))-(1:Int)).tdiv (r_.b.length:Int))*(53:Int))) <|gd (Uu<|(64:Int)≠0) <|gd (TT .i64<|(((((J r_.b<|((r_.p+(1:Int))-(1:Int)).tmod (r_.b.length:Int))*(131:Int))+((J r_.b<|((((r_.p+(1:Int))-(1:Int))*(7:Int))+(3:Int)).tmod (r_.b.length:Int))*(1117:Int)))+(((r_.p+(1:Int))-(1:Int))*(29:Int)))+((((r_.p+(1:Int))-(1:Int)).tdiv (r_.b.length:Int))*(53:Int))).tdiv (64:Int)) <|Zx (Us<|Rl .i64 (((((J r_.b<|((r_.p+(1:Int))-(1:Int)).tmod (r_.b.length:Int))*(131:Int))+((J r_.b<|((((r_.p+(1:Int))-(1:Int))*(7:Int))+(3:Int)).tmod (r_.b.length:Int))*(1117:Int)))+(((r_.p+(1:Int))-(1:Int))*(29:Int)))+((((r_.p+(1:Int))-(1:Int)).tdiv (r_.b.length:Int))*(53:Int)))<|(((((J r_.b<|((r_.p+(1:Int))-(1:Int)).tmod (r_.b.length:Int))*(131:Int))+((J r_.b<|((((r_.p+(1:Int))-(1:Int))*(7:Int))+(3:Int)).tmod (r_.b.length:Int))*(1117:Int)))+(((r_.p+(1:Int))-(1:Int))*(29:Int)))+((((r_.p+(1:Int))-(1:Int)).tdiv (r_.b.length:Int))*(53:Int))).tdiv (64:Int)) λw27=>gd (Uu<|n≠0) <|Us ((⟨r_.b,(r_.p+(1:Int))⟩:ah),(w27.tmod n))
def cz (r_:ah) (list:LI):Option (ah×Int):= Zx (aI (⟨r_.b,r_.p⟩:ah) (list.length:Int)) λv1=>gd (Uu<|0<=v1.2/\v1.2<(list.length:Int)) <|Us ((⟨v1.1.b,v1.1.p⟩:ah),(J list v1.2))
section
variable {α:Type} {r:Option α}
theorem oJ {n:Int} {x:Option α} (h : -9223372036854775808<=n/\n<=9223372036854775807) (hx:x=r):gd (TT .i64 n) x=r:=by rw [qO (Pg h)];exact hx
theorem AY {A:Prop} [Decidable A] {x:Option α} (h:A) (hx:x=r):gd (decide A) x=r:=by rw [qO (decide_eq_true h)];exact hx
theorem Nr {b:Bool} {x y:Option α} (h:b=Uq) (hx:x=r):(bif b then x else y)=r:=by rw [h];exact hx
theorem Jg {b:Bool} {x y:Option α} (h:b=Ur) (hx:y=r):(bif b then x else y)=r:=by rw [h];exact hx
theorem BU {β:Type} {o:Option β} {k:β->Option α} {v:β} (h:o=Us v) (hx:k v=r):o.bind k=r:=by rw [h];exact hx
end
def Bts (b:LI):Prop:=b.length<=1048576/\∀ y∈b,0<=y/\y<=255
theorem Bts.get {b:LI} (h:Bts b) (k:Nat):0<=b.getD k Uo/\b.getD k Uo<=255:=by
 rw [gdq]
 by_cases hk:k<b.length
 ·rw [geq hk];exact h.2 _<|ZC _
 rw [gen (by omega)];exact ⟨by decide,by decide⟩
theorem OW {m n:Int} (hm:0<=m/\m<=1000000000000) (hn:0<=n/\n<=1000000000000):0<=Rl .i64 m n:=by
 have e1:∀ x:Int,0<=x->x<=1000000000000->(ZF 64 x).toNat<2 ^ 62:=by
  intro x h1 h2;rw [BitVec.toNat_ofInt];have : x % ((2:Nat) ^ 64:Nat)=x:=by
   rw [Int.emod_eq_of_lt h1];omega
  omega
 have h3:(ZF 64 m ^^^ ZF 64 n).toNat<2 ^ 62:=by
  rw [BitVec.toNat_xor];exact Nat.xor_lt_two_pow (e1 m hm.1 hm.2)<|e1 n hn.1 hn.2
 have h4:=IntWalk.i64_in (((ZF 64 m ^^^ ZF 64 n).toNat:Nat):Int) ⟨by omega,by omega⟩;unfold Rl;rw [show IntKind.i64.bits=64 from rfl,h4];omega
theorem OX {a n:Int} (ha:0<=a) (hn:0<n):0<=a.tmod n/\a.tmod n<n:=by
 rw [Int.tmod_eq_emod_of_nonneg ha];exact ⟨Int.emod_nonneg _ (by omega),Int.emod_lt_of_pos _ hn⟩
theorem RU {a n:Int} (ha:0<=a) (hn:0<=n):0<=a.tdiv n/\a.tdiv n<=a:=by
 rw [Int.tdiv_eq_ediv_of_nonneg ha];exact ⟨Int.ediv_nonneg ha hn,Int.ediv_le_self _ ha⟩
theorem Ns {b:LI} {p:Int} (hb:Bts b) (hp:0<=p/\p<=100000000) (n:Int):∃ v,aI ⟨b,p⟩ n=Us (⟨b,p+1⟩,v)/\0<=v/\(v<n\/v=0):=by
 have hl:=hb.1;have e1:p+1-1=p:=by omega
 unfold aI J;simp only [e1]
 by_cases h0:n<1\/b.length=0
 ·refine ⟨0,?_,Zz _,.inr rfl⟩;refine oJ (by omega) ?_;refine BU (v:=true) ?_<|Nr rfl rfl
  by_cases hn:n<1
  ·exact Nr (by simp [hn]) rfl
  refine Jg (by simp [hn]) ?_;have : b.length=0:=by omega
  simp [this]
 have hn:1<=n:=by omega
 have hl0:0<(b.length:Int):=by omega
 by_cases hlt:p<(b.length:Int)
 ·have hg:=hb.get p.toNat;have hv:=OX hg.1 (show (0:Int)<n by omega);refine ⟨(b.getD p.toNat Uo).tmod n,?_,hv.1,.inl hv.2⟩;refine oJ (by omega) ?_;refine BU (v:=false) (Jg (by simp;omega)<|congrArg Us<|beq_eq_false_iff_ne.2<|by omega) (Jg rfl ?_);refine oJ (by omega)<|Nr (by simpa using hlt) ?_;exact AY (by omega)<|oJ (by omega)<|AY (by omega) rfl
 have h1:=OX hp.1 hl0;have h2:=RU hp.1 (show 0<=(b.length:Int) by omega);have h3:=OX (a:=p*7+3) (by omega) hl0;have h4:=hb.get (p.tmod (b.length:Int)).toNat;have h5:=hb.get ((p*7+3).tmod (b.length:Int)).toNat;have hx:0<=(b.getD (p.tmod (b.length:Int)).toNat Uo)*131+(b.getD ((p*7+3).tmod (b.length:Int)).toNat Uo)*1117+p*29+p.tdiv (b.length:Int)*53 /\
  (b.getD (p.tmod (b.length:Int)).toNat Uo)*131+(b.getD ((p*7+3).tmod (b.length:Int)).toNat Uo)*1117+p*29+p.tdiv (b.length:Int)*53<=1000000000000:=by omega
 have h6:=RU hx.1 (show (0:Int)<=64 by omega);have h7:=OW hx ⟨h6.1,Int.le_trans h6.2 hx.2⟩;have hv:=OX h7 (show (0:Int)<n by omega);refine ⟨_,?_,hv.1,.inl hv.2⟩;refine oJ (by omega) ?_;refine BU (v:=false) (Jg (by simp;omega)<|congrArg Us<|beq_eq_false_iff_ne.2<|by omega) (Jg rfl ?_);refine oJ (by omega)<|Jg (by simpa using hlt) ?_;refine AY (by omega)<|AY h1<|oJ (by omega)<|oJ (by omega)<|oJ (by omega)<|oJ (by omega)<|AY h3<|oJ (by omega) ?_;refine oJ (by omega)<|oJ (by omega)<|oJ (by omega)<|oJ (by omega)<|oJ (by omega)<|oJ (by omega)<|oJ (by omega) ?_;refine AY (by omega)<|oJ (by omega)<|AY (by omega) rfl
theorem RX {b:LI} {p:Int} (hb:Bts b) (hp:0<=p/\p<=100000000) (l:LI) (hl:l≠[]):∃ v,cz ⟨b,p⟩ l=Us (⟨b,p+1⟩,v)/\v∈l:=by
 obtain ⟨v,h1,h2,h3⟩:=Ns hb hp (l.length:Int);have hpos:0<l.length:=List.length_pos_iff.2 hl;have h4:v<(l.length:Int):=by omega
 refine ⟨l.getD v.toNat Uo,?_,?_⟩
 ·unfold cz J;exact BU h1<|AY ⟨h2,h4⟩ rfl
 rw [gdq,geq (by omega)];exact ZC _
theorem QO {b:LI} (hb:Bts b):∃ b',lZ b=Us ⟨b',0⟩/\Bts b':=by
 unfold lZ
 by_cases h:(2000:Int)<(b.length:Int)
 ·refine ⟨_,BU (Nr (by simpa using h)<|AY (by omega) rfl) rfl,?_,λy hy=>?_⟩
  ·rw [ZN];omega
  exact hb.2 y<|ZT<|ZU hy
 exact ⟨b,BU (Jg (by simpa using h) rfl) rfl,hb⟩
def Rd (k:Int) (r:ah):Prop:=Bts r.b/\0<=r.p/\r.p<=k
theorem Rd.mono {k k':Int} {r:ah} (h:Rd k r) (hk:k<=k'):Rd k' r:=⟨h.1,h.2.1,by have := h.2.2;omega⟩
theorem Rd.mk' {k:Int} {r:ah} (h:Rd k r):Rd k ⟨r.b,r.p⟩:=h
theorem oK {k:Int} {r:ah} (h:Rd k r) (hk:k<=100000000) (n:Int):Uc (aI r n) λv=>Rd (k+1) v.1/\0<=v.2/\(v.2<n\/v.2=0):=by
 obtain ⟨b,p⟩:=r;obtain ⟨h1,h2,h3⟩:=h;obtain ⟨v,e,h4,h5⟩:=Ns h1 (p:=p) ⟨h2,by simp only at h3;omega⟩ n;exact ⟨_,e,⟨h1,by simp only at h2 ⊢;omega,by simp only at h3 ⊢;omega⟩,h4,h5⟩
theorem Et {k:Int} {r:ah} (h:Rd k r) (hk:k<=100000000) (l:LI) (hl:l≠[]):Uc (cz r l) λv=>Rd (k+1) v.1/\v.2∈l:=by
 obtain ⟨b,p⟩:=r;obtain ⟨h1,h2,h3⟩:=h;obtain ⟨v,e,h4⟩:=RX h1 (p:=p) ⟨h2,by simp only at h3;omega⟩ l hl;exact ⟨_,e,⟨h1,by simp only at h2 ⊢;omega,by simp only at h3 ⊢;omega⟩,h4⟩
theorem OY {b:LI} (h:Bts b):Uc (lZ b) (Rd 0):=by
 obtain ⟨b',e,h'⟩:=QO h;exact ⟨_,e,h',Zz _,Zz _⟩
def jS:Option (List BA):= Us ([(⟨#[120,61,49,59,97,61,121,124,121,61,49,59,97,61,120]⟩:BA),(⟨#[120,61,49,59,102,101,110,99,101,59,97,61,121,124,121,61,49,59,102,101,110,99,101,59,97,61,120]⟩:BA),(⟨#[120,61,49,59,121,61,49,124,97,61,121,59,98,61,120]⟩:BA),(⟨#[120,61,49,59,121,61,49,124,97,61,121,59,102,101,110,99,101,59,98,61,120]⟩:BA),(⟨#[120,61,49,59,102,101,110,99,101,59,121,61,49,124,97,61,121,59,98,61,120]⟩:BA),(⟨#[97,61,120,59,121,61,49,124,97,61,121,59,120,61,49]⟩:BA),(⟨#[97,61,120,59,121,61,97,124,97,61,121,59,120,61,97]⟩:BA),(⟨#[120,61,49,124,120,61,50,124,97,61,120,59,98,61,120]⟩:BA),(⟨#[120,61,49,124,121,61,49,124,97,61,120,59,98,61,121,124,97,61,121,59,98,61,120]⟩:BA),(⟨#[120,61,49,124,97,61,120,59,121,61,49,124,97,61,121,59,98,61,120]⟩:BA),(⟨#[120,61,49,124,121,61,49,124,97,61,120,59,98,61,121]⟩:BA),(⟨#[97,61,120,58,49,124,97,61,120,58,50,124,120,61,51]⟩:BA),(⟨#[120,61,49,59,97,61,120,59,98,61,121,124,121,61,49,59,97,61,121,59,98,61,120]⟩:BA),(⟨#[120,61,50,59,121,61,49,124,121,61,50,59,120,61,49]⟩:BA),(⟨#[97,61,120,58,49,59,98,61,121,124,97,61,121,58,49,59,98,61,120]⟩:BA),(⟨#[120,61,49,59,120,61,50,124,97,61,120,59,98,61,120]⟩:BA),(⟨#[120,61,49,59,121,61,49,59,97,61,122,124,122,61,49,59,97,61,121,59,98,61,120]⟩:BA),(⟨#[97,61,120,58,49,124,98,61,120,58,49]⟩:BA),(⟨#[102,101,110,99,101]⟩:BA),(⟨#[]⟩:BA),(⟨#[120,61,49,59,97,61,121,124,121,61,49,59,102,101,110,99,101,59,97,61,120]⟩:BA)]:List BA)
def rC (s:BA) (c:Int):LS ((List BA)×Int×Int) (List BA):=λs5=>bif Uu (s5.2.1<=(s.size:Int)) then Zx (Zx (bif (s5.2.1==(s.size:Int)) then Us Uq else gd (Uu<|0<=s5.2.1/\s5.2.1<(s.size:Int)) <|Us<|((s.data.getD s5.2.1.toNat 0).toNat:Int)==c) λs10=>bif s10 then gd (Uu<|0<=s5.2.2/\s5.2.2<=s5.2.1/\s5.2.1<=(s.size:Int)) <|gd (bw (s5.1.length+1) 16) <|gd (TT .i64<|s5.2.1+(1:Int)) <|Us ((s5.1++[(s.extract s5.2.2.toNat s5.2.1.toNat)]),(s5.2.1+(1:Int))) else Us (s5.1,s5.2.2)) λs9=>gd (TT .i64<|s5.2.1+(1:Int)) <|Us (.inl (s9.1,(s5.2.1+(1:Int)),s9.2)) else Us (.inr s5.1)
def oL (s:BA) (c:Int):Option (List BA):= Zx (loopO (rC s c) (([]:List BA),(0:Int),(0:Int))) λs1=>Us s1
def cn (s:BA) (at_:Int) (from_:Int) (most:Int):Option Int:= Zx (bif Uu ((s.size:Int)<=at_) then Us Uq else gd (Uu<|0<=at_/\at_<(s.size:Int)) <|Us<|Uu<|((s.data.getD at_.toNat 0).toNat:Int)<from_) λs1=>Zx (bif s1 then Us Uq else gd (Uu<|0<=at_/\at_<(s.size:Int)) <|gd (TT .u8<|((s.data.getD at_.toNat 0).toNat:Int)-from_) <|gd (TT .i64<|((s.data.getD at_.toNat 0).toNat:Int)-from_) <|Us<|Uu<|most<(((s.data.getD at_.toNat 0).toNat:Int)-from_)) λs4=>bif s4 then Us (-1:Int) else gd (Uu<|0<=at_/\at_<(s.size:Int)) <|gd (TT .u8<|((s.data.getD at_.toNat 0).toNat:Int)-from_) <|gd (TT .i64<|((s.data.getD at_.toNat 0).toNat:Int)-from_) <|Us<|((s.data.getD at_.toNat 0).toNat:Int)-from_
def qi (s:BA):Option TW:= bif Uu (s=(⟨#[102,101,110,99,101]⟩:BA)) then Us (⟨(4:Int),(0:Int),(0:Int),(0:Int)⟩:TW) else Zx (cn s (0:Int) (97:Int) (2:Int)) λv2=>Zx (cn s (0:Int) (120:Int) (2:Int)) λv3=>Zx (bif Uu ((0:Int)<=v2) then Us ((s.size:Int)==(3:Int)) else Us Ur) λs4=>bif s4 then Zx (cn s (2:Int) (120:Int) (2:Int)) λv7=>Us (⟨(1:Int),v7,v2,(0:Int)⟩:TW) else Zx (bif Uu ((0:Int)<=v2) then Us ((s.size:Int)==(5:Int)) else Us Ur) λs8=>bif s8 then Zx (cn s (2:Int) (120:Int) (2:Int)) λv11=>Zx (cn s (4:Int) (48:Int) (3:Int)) λv12=>Us (⟨(5:Int),v11,v2,v12⟩:TW) else Zx (bif Uu ((0:Int)<=v3) then Zx (cn s (2:Int) (97:Int) (2:Int)) λv15=>Us (Uu<|(0:Int)<=v15) else Us Ur) λs13=>bif s13 then Zx (cn s (2:Int) (97:Int) (2:Int)) λv17=>Us (⟨(3:Int),v3,v17,(0:Int)⟩:TW) else Zx (cn s (2:Int) (48:Int) (3:Int)) λv18=>Us (⟨(2:Int),v3,(0:Int),v18⟩:TW)
def kV (from_:Int) (n:Int):Option BA:= gd (TT .u8 n) <|gd (TT .u8<|from_+n) <|Us<|strOfNums ([(from_+n)]:LI)
def vO:LS (ByteArray×Int) (ByteArray×Int):=λs9=>bif Uu ((9:Int)<s9.2) then gd (Uu<|(10:Int)≠0) <|gd (TT .i64<|(48:Int)+(s9.2.tmod (10:Int))) <|gd (TT .u8<|(48:Int)+(s9.2.tmod (10:Int))) <|gd (Uu<|(strOfNums ([((48:Int)+(s9.2.tmod (10:Int)))]:LI)).size+s9.1.size<=9223372036854775807) <|gd (TT .i64<|s9.2.tdiv (10:Int)) <|Us (.inl (((strOfNums ([((48:Int)+(s9.2.tmod (10:Int)))]:LI))++s9.1),(s9.2.tdiv (10:Int)))) else Us (.inr (s9.1,s9.2))
def oM (rcf:Int->Option BA) (n:Int):Option BA:= bif Uu (n<(-9223372036854775807:Int)) then Us (⟨#[45,57,50,50,51,51,55,50,48,51,54,56,53,52,55,55,53,56,48,56]⟩:BA) else bif Uu (n<(0:Int)) then gd (TT .i64<|0-n) <|Zx (rcf<|0-n) λv4=>gd (Uu<|(⟨#[45]⟩:BA).size+v4.size<=9223372036854775807) <|Us ((⟨#[45]⟩:BA)++v4) else Zx (loopO vO ((⟨#[]⟩:BA),n)) λs6=>gd (TT .i64<|(48:Int)+s6.2) <|gd (TT .u8<|(48:Int)+s6.2) <|gd (Uu<|(strOfNums ([((48:Int)+s6.2)]:LI)).size+s6.1.size<=9223372036854775807) <|Us<|(strOfNums ([((48:Int)+s6.2)]:LI))++s6.1
def kW:Nat->Int->Option BA
 | 0=>λ_=>Ut
 | n+1=>oM (kW n)
def rX (n:Int):Option BA:=G8 λnf=>kW nf n
def rY (x:TW):Option BA:= Zx (kV (120:Int) x.Loc) λv1=>Zx (kV (97:Int) x.Reg) λv2=>bif (x.Op==(1:Int)) then gd (Uu<|v2.size+(⟨#[61]⟩:BA).size<=9223372036854775807) <|gd (Uu<|(v2++(⟨#[61]⟩:BA)).size+v1.size<=9223372036854775807) <|Us ((v2++(⟨#[61]⟩:BA))++v1) else bif (x.Op==(2:Int)) then gd (Uu<|v1.size+(⟨#[61]⟩:BA).size<=9223372036854775807) <|Zx (rX x.Val) λv8=>gd (Uu<|(v1++(⟨#[61]⟩:BA)).size+v8.size<=9223372036854775807) <|Us ((v1++(⟨#[61]⟩:BA))++v8) else bif (x.Op==(3:Int)) then gd (Uu<|v1.size+(⟨#[61]⟩:BA).size<=9223372036854775807) <|gd (Uu<|(v1++(⟨#[61]⟩:BA)).size+v2.size<=9223372036854775807) <|Us ((v1++(⟨#[61]⟩:BA))++v2) else bif (x.Op==(5:Int)) then gd (Uu<|v2.size+(⟨#[61]⟩:BA).size<=9223372036854775807) <|gd (Uu<|(v2++(⟨#[61]⟩:BA)).size+v1.size<=9223372036854775807) <|gd (Uu<|((v2++(⟨#[61]⟩:BA))++v1).size+(⟨#[58]⟩:BA).size<=9223372036854775807) <|Zx (rX x.Val) λv17=>gd (Uu<|(((v2++(⟨#[61]⟩:BA))++v1)++(⟨#[58]⟩:BA)).size+v17.size<=9223372036854775807) <|Us ((((v2++(⟨#[61]⟩:BA))++v1)++(⟨#[58]⟩:BA))++v17) else Us (⟨#[102,101,110,99,101]⟩:BA)
def lH (p:List<|List TW) (s4:Int×BA):LS (Int×BA) BA:=λs13=>gd (Uu<|0<=s4.1/\s4.1<(p.length:Int)) <|bif Uu (s13.1<((J p s4.1).length:Int)) then Zx (bif Uu ((0:Int)<s13.1) then gd (Uu<|s13.2.size+(⟨#[59]⟩:BA).size<=9223372036854775807) <|Us (s13.2++(⟨#[59]⟩:BA)) else Us s13.2) λs17=>gd (Uu<|0<=s13.1/\s13.1<((J p s4.1).length:Int)) <|Zx (rY<|J (J p s4.1) s13.1) λv21=>gd (Uu<|s17.size+v21.size<=9223372036854775807) <|gd (TT .i64<|s13.1+(1:Int)) <|Us (.inl ((s13.1+(1:Int)),(s17++v21))) else Us (.inr s13.2)
def mW (p:List<|List TW):LS (Int×BA) BA:=λs4=>bif Uu (s4.1<(p.length:Int)) then Zx (Zx (bif Uu ((0:Int)<s4.1) then gd (Uu<|s4.2.size+(⟨#[124]⟩:BA).size<=9223372036854775807) <|Us (s4.2++(⟨#[124]⟩:BA)) else Us s4.2) λs8=>loopO (lH p s4) ((0:Int),s8)) λs7=>gd (TT .i64<|s4.1+(1:Int)) <|Us (.inl ((s4.1+(1:Int)),s7)) else Us (.inr s4.2)
def mG (p:List<|List TW):Option BA:= Zx (loopO (mW p) ((0:Int),(⟨#[]⟩:BA))) λs1=>Us s1
def jl (v1:(List BA)) (s6:(List<|List TW)×Int) (v14:(List BA)):LS ((List TW)×Int) (List TW):=λs19=>Zx (bif Uu (s19.2<(v14.length:Int)) then Us (Uu<|s19.2<=(7:Int)) else Us Ur) λs22=>Zx (bif s22 then Us (!decide ((J v1 s6.2)=(⟨#[]⟩:BA))) else Us Ur) λs24=>bif s24 then gd (Uu<|0<=s19.2/\s19.2<(v14.length:Int)) <|Zx (qi<|J v14 s19.2) λv28=>gd (bw (s19.1.length+1) 32) <|gd (TT .i64<|s19.2+(1:Int)) <|Us (.inl ((s19.1++[v28]),(s19.2+(1:Int)))) else Us (.inr s19.1)
def j5 (v1:(List BA)):LS ((List<|List TW)×Int) (List<|List TW):=λs6=>Zx (bif Uu (s6.2<(v1.length:Int)) then Us (Uu<|s6.2<=(3:Int)) else Us Ur) λs9=>bif s9 then Zx (gd (Uu<|0<=s6.2/\s6.2<(v1.length:Int)) <|Zx (oL (J v1 s6.2) (59:Int)) λv14=>Zx (loopO (jl v1 s6 v14) (([]:List TW),(0:Int))) λs15=>gd (bw (s6.1.length+1) 24) <|Us<|s6.1++[s15]) λs12=>gd (TT .i64<|s6.2+(1:Int)) <|Us (.inl (s12,(s6.2+(1:Int)))) else Us (.inr s6.1)
def bX (text:BA):Option ((List<|List TW)×Bool):= Zx (oL text (124:Int)) λv1=>Zx (loopO (j5 v1) (([]:List<|List TW),(0:Int))) λs2=>Zx (bT s2) λv36=>Zx (bif !v36 then Us Uq else Zx (mG s2) λv39=>Us<|!decide (v39=text)) λs37=>bif s37 then Us (([]:List<|List TW),Ur) else Us (s2,Uq)
def l4 (r_:ah):Option (ah×TW):= Zx (aI (⟨r_.b,r_.p⟩:ah) (2:Int)) λv1=>Zx (aI (⟨v1.1.b,v1.1.p⟩:ah) (7:Int)) λv2=>bif (v2.2==(0:Int)) then Us ((⟨v2.1.b,v2.1.p⟩:ah),(⟨(4:Int),(0:Int),(0:Int),(0:Int)⟩:TW)) else bif (v2.2==(1:Int)) then Zx (aI (⟨v2.1.b,v2.1.p⟩:ah) (2:Int)) λv5=>Us ((⟨v5.1.b,v5.1.p⟩:ah),(⟨(3:Int),v1.2,v5.2,(0:Int)⟩:TW)) else bif (v2.2==(2:Int)) then Zx (aI (⟨v2.1.b,v2.1.p⟩:ah) (2:Int)) λv7=>Zx (aI (⟨v7.1.b,v7.1.p⟩:ah) (3:Int)) λv8=>gd (TT .i64<|(1:Int)+v8.2) <|Us ((⟨v8.1.b,v8.1.p⟩:ah),(⟨(5:Int),v1.2,v7.2,((1:Int)+v8.2)⟩:TW)) else Zx (bif (v2.2==(3:Int)) then Us (v2.2==(3:Int)) else Us (v2.2==(4:Int))) λs10=>bif s10 then Zx (aI (⟨v2.1.b,v2.1.p⟩:ah) (3:Int)) λv13=>gd (TT .i64<|(1:Int)+v13.2) <|Us ((⟨v13.1.b,v13.1.p⟩:ah),(⟨(2:Int),v1.2,(0:Int),((1:Int)+v13.2)⟩:TW)) else Zx (aI (⟨v2.1.b,v2.1.p⟩:ah) (2:Int)) λv15=>Us ((⟨v15.1.b,v15.1.p⟩:ah),(⟨(1:Int),v1.2,v15.2,(0:Int)⟩:TW))
def p6:LS ((LI)×Int×(List TW)×Int) ((LI)×Int×(List TW)):=λs24=>bif Uu ((0:Int)<s24.2.2.2) then Zx (l4 (⟨s24.1,s24.2.1⟩:ah)) λv28=>gd (bw (s24.2.2.1.length+1) 32) <|gd (TT .i64<|s24.2.2.2-(1:Int)) <|Us (.inl (v28.1.b,v28.1.p,(s24.2.2.1++[v28.2]),(s24.2.2.2-(1:Int)))) else Us (.inr (s24.1,s24.2.1,s24.2.2.1))
def p7:LS ((LI)×Int×(List<|List TW)×Int) ((LI)×Int×(List<|List TW)):=λs14=>bif Uu ((0:Int)<s14.2.2.2) then Zx (Zx (Zx (cz (⟨s14.1,s14.2.1⟩:ah) ([(2:Int),(1:Int),(3:Int),(2:Int),(0:Int)]:LI)) λv20=>loopO p6 (v20.1.b,v20.1.p,([]:List TW),v20.2)) λs19=>gd (bw (s14.2.2.1.length+1) 24) <|Us (s19.1,s19.2.1,(s14.2.2.1++[s19.2.2]))) λs18=>gd (TT .i64<|s14.2.2.2-(1:Int)) <|Us (.inl (s18.1,s18.2.1,s18.2.2,(s14.2.2.2-(1:Int)))) else Us (.inr (s14.1,s14.2.1,s14.2.2.1))
def rZ (r_:ah):Option (ah×(List<|List TW)):= Zx (jS) λv1=>sumK (Zx (aI (⟨r_.b,r_.p⟩:ah) (3:Int)) λv3=>bif Uu ((0:Int)<v3.2) then Zx (aI (⟨v3.1.b,v3.1.p⟩:ah) (v1.length:Int)) λv5=>gd (Uu<|0<=v5.2/\v5.2<(v1.length:Int)) <|Zx (bX<|J v1 v5.2) λv7=>bif v7.2 then Us (.inr ((⟨v5.1.b,v5.1.p⟩:ah),v7.1)) else Us (.inl (v5.1.b,v5.1.p)) else Us (.inl (v3.1.b,v3.1.p))) λs2=>Zx (Zx (cz (⟨s2.1,s2.2⟩:ah) ([(2:Int),(3:Int),(1:Int)]:LI)) λv10=>loopO p7 (v10.1.b,v10.1.p,([]:List<|List TW),v10.2)) λs9=>Zx (bT s9.2.2) λv36=>bif v36 then Us ((⟨s9.1,s9.2.1⟩:ah),s9.2.2) else Zx (l4 (⟨s9.1,s9.2.1⟩:ah)) λv38=>Us ((⟨v38.1.b,v38.1.p⟩:ah),([([v38.2]:List TW)]:List<|List TW))
def uH (p:List<|List TW) (loc:Int) (writes:Bool) (s4:Int×Int):LS (Int×Int) Int:=λs10=>gd (Uu<|0<=s4.1/\s4.1<(p.length:Int)) <|bif Uu (s10.1<((J p s4.1).length:Int)) then Zx (gd (Uu<|0<=s10.1/\s10.1<((J p s4.1).length:Int)) <|Zx (bif (((J (J p s4.1) s10.1).Loc)==loc) then Zx (bif writes then Zx (fB (⟨(J (J p s4.1) s10.1).Op,(J (J p s4.1) s10.1).Loc,(J (J p s4.1) s10.1).Reg,(J (J p s4.1) s10.1).Val⟩:TW)) λv20=>Us v20 else Us Ur) λs18=>Zx (bif s18 then Us Uq else Zx (bif !writes then Zx (gQ (⟨(J (J p s4.1) s10.1).Op,(J (J p s4.1) s10.1).Loc,(J (J p s4.1) s10.1).Reg,(J (J p s4.1) s10.1).Val⟩:TW)) λv25=>Us v25 else Us Ur) λs23=>Us s23) λs21=>Us s21 else Us Ur) λs16=>bif s16 then gd (TT .i64<|s10.2+(1:Int)) <|Us (s10.2+(1:Int)) else Us s10.2) λs14=>gd (TT .i64<|s10.1+(1:Int)) <|Us (.inl ((s10.1+(1:Int)),s14)) else Us (.inr s10.2)
def vP (p:List<|List TW) (loc:Int) (writes:Bool):LS (Int×Int) Int:=λs4=>bif Uu (s4.1<(p.length:Int)) then Zx (loopO (uH p loc writes s4) ((0:Int),s4.2)) λs7=>gd (TT .i64<|s4.1+(1:Int)) <|Us (.inl ((s4.1+(1:Int)),s7)) else Us (.inr s4.2)
def l5 (p:List<|List TW) (loc:Int) (writes:Bool):Option Int:= Zx (loopO (vP p loc writes) ((0:Int),(0:Int))) λs1=>Us s1
def uI (p:List<|List TW) (most:Int) (s4:Int×Int) (v8:Int):LS (Int×Int) Int:=λs12=>Zx (l5 p s4.1 Ur) λv14=>Zx (bif Uu (s12.1<v14) then Us (Uu<|s12.2<=most) else Us Ur) λs15=>bif s15 then gd (TT .i64<|v8+(1:Int)) <|gd (TT .i64<|s12.2*(v8+(1:Int))) <|gd (TT .i64<|s12.1+(1:Int)) <|Us (.inl ((s12.1+(1:Int)),(s12.2*(v8+(1:Int))))) else Us (.inr s12.2)
def uJ (most:Int) (v8:Int):LS (Int×Int) Int:=λs23=>Zx (bif Uu (s23.1<=v8) then Us (Uu<|s23.2<=most) else Us Ur) λs25=>bif s25 then gd (TT .i64<|s23.2*s23.1) <|gd (TT .i64<|s23.1+(1:Int)) <|Us (.inl ((s23.1+(1:Int)),(s23.2*s23.1))) else Us (.inr s23.2)
def vQ (p:List<|List TW) (most:Int):LS (Int×Int) Int:=λs4=>bif Uu (s4.1<=(2:Int)) then Zx (Zx (l5 p s4.1 Uq) λv8=>Zx (loopO (uI p most s4 v8) ((0:Int),s4.2)) λs9=>loopO (uJ most v8) ((2:Int),s9)) λs7=>gd (TT .i64<|s4.1+(1:Int)) <|Us (.inl ((s4.1+(1:Int)),s7)) else Us (.inr s4.2)
def qj (p:List<|List TW) (most:Int):Option Int:= Zx (loopO (vQ p most) ((0:Int),(1:Int))) λs1=>bif Uu (most<s1) then gd (TT .i64<|most+(1:Int)) <|Us (most+(1:Int)) else Us s1
def ql (r_:ah):Option (ah×(List<|List TW)):= Zx (rZ (⟨r_.b,r_.p⟩:ah)) λv1=>Zx (qj v1.2 (200:Int)) λv2=>bif Uu (v2<=(200:Int)) then Us ((⟨v1.1.b,v1.1.p⟩:ah),v1.2) else Zx (bX (⟨#[120,61,49,59,97,61,121,124,121,61,49,59,97,61,120]⟩:BA)) λv4=>Us ((⟨v1.1.b,v1.1.p⟩:ah),v4.1)
def r9 (n:Int):Option BA:=bif Uu (0<=n/\n<=9) then Us (strOfNums ([((48:Int)+n)]:LI)++(⟨#[]⟩:BA)) else Ut
theorem strOfNums_size (l:LI):(strOfNums l).size=l.length:=by
 simp [strOfNums,ByteArray.size]
theorem CQ (n:Int):Le (r9 n) (rX n):=by
 intro v h;unfold r9 at h
 by_cases hn:0<=n/\n<=9
 ·rw [decide_eq_true hn] at h;obtain rfl:=osl h;refine xL 1 λk hk=>?_
  match k,hk with
  | k+1,_=>
   show oM (kW k) n=_;refine Uc.eq ?_;unfold oM;refine .bifD (λh=>by omega) λ_ => .bifD (λh=>by omega) λ_=>?_;refine Uc.bind (P:=(· = ((⟨#[]⟩:BA),n))) ?_ λs hs=>?_
   ·refine Uc.loop (λs=>s=((⟨#[]⟩:BA),n)) (λ_=>0) rfl λs hs=>?_;subst hs;unfold vO;exact .bifD (λh=>by simp only [] at h;omega) λ_ => .pure rfl
   subst hs;refine .gdI (by simp only [];omega) (.gdY (by simp only [];omega)<|.gdD ?_<|.pure rfl);rw [strOfNums_size];exact nlb rfl
 rw [decide_eq_false hn] at h
 cases h
def rD (s:BA) (c:Int):((List BA)×Int×Int)->Option (((List BA)×Int×Int) ⊕ (List BA)):=λs5=>
 bif Uu (s5.2.1<=(s.size:Int)) then
  Zx (
   Zx (bif (s5.2.1==(s.size:Int)) then
    Us Uq
   else
    gd (Uu<|0<=s5.2.1/\s5.2.1<(s.size:Int)) <|
    Us (((s.data.getD s5.2.1.toNat 0).toNat:Int)==c)
   ) λs10=>
   bif s10 then
    gd (Uu<|0<=s5.2.2/\s5.2.2<=s5.2.1/\s5.2.1<=(s.size:Int)) <|
    gd (bw (s5.1.length+1) 16) <|
    gd (TT .i64<|s5.2.1+(1:Int)) <|
    Us ((s5.1++[(s.extract s5.2.2.toNat s5.2.1.toNat)]),(s5.2.1+(1:Int)))
   else
    Us (s5.1,s5.2.2)
  ) λs9=>
  gd (TT .i64<|s5.2.1+(1:Int)) <|
  Us (.inl (s9.1,(s5.2.1+(1:Int)),s9.2))
 else
  Us (.inr s5.1)
theorem zM (s:BA) (c:Int) (sQ:_):Le (rD s c sQ) (rC s c sQ):=by
 unfold rD rC
 solve_by_elim (maxDepth:=9999) only [*,Le.gd,Le.bif,Le.bind,Le.sumK,Le.loop,Le.nilK,Le.ifc,Le.refl]
def sj (s:BA) (c:Int):Option (List BA):=
 Zx (
  qF 40 (rD s c) (([]:List BA),(0:Int),(0:Int))
 ) λs1=>
 Us s1
theorem xd (s:BA) (c:Int):Le (sj s c) (oL s c):=by
 unfold sj oL
 solve_by_elim (maxDepth:=9999) only [*,zM,Le.gd,Le.bif,Le.bind,Le.sumK,Le.loop,Le.nilK,Le.ifc,Le.refl]
def cK (s:BA) (at_:Int) (from_:Int) (most:Int):Option Int:=
 Zx (bif Uu ((s.size:Int)<=at_) then
  Us Uq
 else
  gd (Uu<|0<=at_/\at_<(s.size:Int)) <|
  Us (Uu<|((s.data.getD at_.toNat 0).toNat:Int)<from_)
 ) λs1=>
 Zx (bif s1 then
  Us Uq
 else
  gd (Uu<|0<=at_/\at_<(s.size:Int)) <|
  gd (TT .u8<|((s.data.getD at_.toNat 0).toNat:Int)-from_) <|
  gd (TT .i64<|((s.data.getD at_.toNat 0).toNat:Int)-from_) <|
  Us (Uu<|most<(((s.data.getD at_.toNat 0).toNat:Int)-from_))
 ) λs4=>
 bif s4 then
  Us (-1:Int)
 else
  gd (Uu<|0<=at_/\at_<(s.size:Int)) <|
  gd (TT .u8<|((s.data.getD at_.toNat 0).toNat:Int)-from_) <|
  gd (TT .i64<|((s.data.getD at_.toNat 0).toNat:Int)-from_) <|
  Us (((s.data.getD at_.toNat 0).toNat:Int)-from_)
theorem BV (s:BA) (at_:Int) (from_:Int) (most:Int):Le (cK s at_ from_ most) (cn s at_ from_ most):=by
 unfold cK cn
 solve_by_elim (maxDepth:=9999) only [*,Le.gd,Le.bif,Le.bind,Le.sumK,Le.loop,Le.nilK,Le.ifc,Le.refl]
def uY (s:BA):Option TW:=
 bif Uu (s=(⟨#[102,101,110,99,101]⟩:BA)) then
  Us (⟨(4:Int),(0:Int),(0:Int),(0:Int)⟩:TW)
 else
  Zx (cK s (0:Int) (97:Int) (2:Int)) λv2=>
  Zx (cK s (0:Int) (120:Int) (2:Int)) λv3=>
  Zx (bif Uu ((0:Int)<=v2) then
   Us ((s.size:Int)==(3:Int))
  else
   Us Ur
  ) λs4=>
  bif s4 then
   Zx (cK s (2:Int) (120:Int) (2:Int)) λv7=>
   Us (⟨(1:Int),v7,v2,(0:Int)⟩:TW)
  else
   Zx (bif Uu ((0:Int)<=v2) then
    Us ((s.size:Int)==(5:Int))
   else
    Us Ur
   ) λs8=>
   bif s8 then
    Zx (cK s (2:Int) (120:Int) (2:Int)) λv11=>
    Zx (cK s (4:Int) (48:Int) (3:Int)) λv12=>
    Us (⟨(5:Int),v11,v2,v12⟩:TW)
   else
    Zx (bif Uu ((0:Int)<=v3) then
     Zx (cK s (2:Int) (97:Int) (2:Int)) λv15=>
     Us (Uu<|(0:Int)<=v15)
    else
     Us Ur
    ) λs13=>
    bif s13 then
     Zx (cK s (2:Int) (97:Int) (2:Int)) λv17=>
     Us (⟨(3:Int),v3,v17,(0:Int)⟩:TW)
    else
     Zx (cK s (2:Int) (48:Int) (3:Int)) λv18=>
     Us (⟨(2:Int),v3,(0:Int),v18⟩:TW)
theorem BW (s:BA):Le (uY s) (qi s):=by
 unfold uY qi
 solve_by_elim (maxDepth:=9999) only [*,BV,Le.gd,Le.bif,Le.bind,Le.sumK,Le.loop,Le.nilK,Le.ifc,Le.refl]
def jm (v1:(List BA)) (s6:(List<|List TW)×Int) (v14:(List BA)):((List TW)×Int)->Option (((List TW)×Int) ⊕ (List TW)):=λs19=>
 Zx (bif Uu (s19.2<(v14.length:Int)) then
  Us (Uu<|s19.2<=(7:Int))
 else
  Us Ur
 ) λs22=>
 Zx (bif s22 then
  Us (!decide ((v1.getD s6.2.toNat Uo)=(⟨#[]⟩:BA)))
 else
  Us Ur
 ) λs24=>
 bif s24 then
  gd (Uu<|0<=s19.2/\s19.2<(v14.length:Int)) <|
  Zx (uY<|v14.getD s19.2.toNat Uo) λv28=>
  gd (bw (s19.1.length+1) 32) <|
  gd (TT .i64<|s19.2+(1:Int)) <|
  Us (.inl ((s19.1++[v28]),(s19.2+(1:Int))))
 else
  Us (.inr s19.1)
theorem uh (v1:(List BA)) (s6:(List<|List TW)×Int) (v14:(List BA)) (sQ:_):Le (jm v1 s6 v14 sQ) (jl v1 s6 v14 sQ):=by
 unfold jm jl J
 solve_by_elim (maxDepth:=9999) only [*,BW,Le.gd,Le.bif,Le.bind,Le.sumK,Le.loop,Le.nilK,Le.ifc,Le.refl]
def j6 (v1:(List BA)):((List<|List TW)×Int)->Option (((List<|List TW)×Int) ⊕ (List<|List TW)):=λs6=>
 Zx (bif Uu (s6.2<(v1.length:Int)) then
  Us (Uu<|s6.2<=(3:Int))
 else
  Us Ur
 ) λs9=>
 bif s9 then
  Zx (
   gd (Uu<|0<=s6.2/\s6.2<(v1.length:Int)) <|
   Zx (sj (v1.getD s6.2.toNat Uo) (59:Int)) λv14=>
   Zx (
    qF 40 (jm v1 s6 v14) (([]:List TW),(0:Int))
   ) λs15=>
   gd (bw (s6.1.length+1) 24) <|
   Us (s6.1++[s15])
  ) λs12=>
  gd (TT .i64<|s6.2+(1:Int)) <|
  Us (.inl (s12,(s6.2+(1:Int))))
 else
  Us (.inr s6.1)
theorem uZ (v1:(List BA)) (sQ:_):Le (j6 v1 sQ) (j5 v1 sQ):=by
 unfold j6 j5 J
 solve_by_elim (maxDepth:=9999) only [*,xd,uh,Le.gd,Le.bif,Le.bind,Le.sumK,Le.loop,Le.nilK,Le.ifc,Le.refl]
def oO (from_:Int) (n:Int):Option BA:=
 gd (TT .u8 n) <|
 gd (TT .u8<|from_+n) <|
 Us (strOfNums ([(from_+n)]:LI))
theorem AZ (from_:Int) (n:Int):Le (oO from_ n) (kV from_ n):=by
 unfold oO kV
 solve_by_elim (maxDepth:=9999) only [*,Le.gd,Le.bif,Le.bind,Le.sumK,Le.loop,Le.nilK,Le.ifc,Le.refl]
def wP (x:TW):Option BA:=
 Zx (oO (120:Int) x.Loc) λv1=>
 Zx (oO (97:Int) x.Reg) λv2=>
 bif (x.Op==(1:Int)) then
  gd (Uu<|v2.size+(⟨#[61]⟩:BA).size<=9223372036854775807) <|
  gd (Uu<|(v2++(⟨#[61]⟩:BA)).size+v1.size<=9223372036854775807) <|
  Us ((v2++(⟨#[61]⟩:BA))++v1)
 else
  bif (x.Op==(2:Int)) then
   gd (Uu<|v1.size+(⟨#[61]⟩:BA).size<=9223372036854775807) <|
   Zx (r9 x.Val) λv8=>
   gd (Uu<|(v1++(⟨#[61]⟩:BA)).size+v8.size<=9223372036854775807) <|
   Us ((v1++(⟨#[61]⟩:BA))++v8)
  else
   bif (x.Op==(3:Int)) then
    gd (Uu<|v1.size+(⟨#[61]⟩:BA).size<=9223372036854775807) <|
    gd (Uu<|(v1++(⟨#[61]⟩:BA)).size+v2.size<=9223372036854775807) <|
    Us ((v1++(⟨#[61]⟩:BA))++v2)
   else
    bif (x.Op==(5:Int)) then
     gd (Uu<|v2.size+(⟨#[61]⟩:BA).size<=9223372036854775807) <|
     gd (Uu<|(v2++(⟨#[61]⟩:BA)).size+v1.size<=9223372036854775807) <|
     gd (Uu<|((v2++(⟨#[61]⟩:BA))++v1).size+(⟨#[58]⟩:BA).size<=9223372036854775807) <|
     Zx (r9 x.Val) λv17=>
     gd (Uu<|(((v2++(⟨#[61]⟩:BA))++v1)++(⟨#[58]⟩:BA)).size+v17.size<=9223372036854775807) <|
     Us ((((v2++(⟨#[61]⟩:BA))++v1)++(⟨#[58]⟩:BA))++v17)
    else
     Us (⟨#[102,101,110,99,101]⟩:BA)
theorem CS (x:TW):Le (wP x) (rY x):=by
 unfold wP rY
 solve_by_elim (maxDepth:=9999) only [*,AZ,CQ,Le.gd,Le.bif,Le.bind,Le.sumK,Le.loop,Le.nilK,Le.ifc,Le.refl]
def lI (p:List<|List TW) (s4:Int×BA):(Int×BA)->Option ((Int×BA) ⊕ BA):=λs13=>
 gd (Uu<|0<=s4.1/\s4.1<(p.length:Int)) <|
 bif Uu (s13.1<((p.getD s4.1.toNat Uo).length:Int)) then
  Zx (
   bif Uu ((0:Int)<s13.1) then
    gd (Uu<|s13.2.size+(⟨#[59]⟩:BA).size<=9223372036854775807) <|
    Us (s13.2++(⟨#[59]⟩:BA))
   else
    Us s13.2
  ) λs17=>
  gd (Uu<|0<=s13.1/\s13.1<((p.getD s4.1.toNat Uo).length:Int)) <|
  Zx (wP<|(p.getD s4.1.toNat Uo).getD s13.1.toNat Uo) λv21=>
  gd (Uu<|s17.size+v21.size<=9223372036854775807) <|
  gd (TT .i64<|s13.1+(1:Int)) <|
  Us (.inl ((s13.1+(1:Int)),(s17++v21)))
 else
  Us (.inr s13.2)
theorem wQ (p:List<|List TW) (s4:Int×BA) (sQ:_):Le (lI p s4 sQ) (lH p s4 sQ):=by
 unfold lI lH J
 solve_by_elim (maxDepth:=9999) only [*,CS,Le.gd,Le.bif,Le.bind,Le.sumK,Le.loop,Le.nilK,Le.ifc,Le.refl]
def mX (p:List<|List TW):(Int×BA)->Option ((Int×BA) ⊕ BA):=λs4=>
 bif Uu (s4.1<(p.length:Int)) then
  Zx (
   Zx (
    bif Uu ((0:Int)<s4.1) then
     gd (Uu<|s4.2.size+(⟨#[124]⟩:BA).size<=9223372036854775807) <|
     Us (s4.2++(⟨#[124]⟩:BA))
    else
     Us s4.2
   ) λs8=>
   qF 40 (lI p s4) ((0:Int),s8)
  ) λs7=>
  gd (TT .i64<|s4.1+(1:Int)) <|
  Us (.inl ((s4.1+(1:Int)),s7))
 else
  Us (.inr s4.2)
theorem xw (p:List<|List TW) (sQ:_):Le (mX p sQ) (mW p sQ):=by
 unfold mX mW
 solve_by_elim (maxDepth:=9999) only [*,wQ,Le.gd,Le.bif,Le.bind,Le.sumK,Le.loop,Le.nilK,Le.ifc,Le.refl]
def rE (p:List<|List TW):Option BA:=
 Zx (
  qF 40 (mX p) ((0:Int),(⟨#[]⟩:BA))
 ) λs1=>
 Us s1
theorem zN (p:List<|List TW):Le (rE p) (mG p):=by
 unfold rE mG
 solve_by_elim (maxDepth:=9999) only [*,xw,Le.gd,Le.bif,Le.bind,Le.sumK,Le.loop,Le.nilK,Le.ifc,Le.refl]
def jo (text:BA):Option ((List<|List TW)×Bool):=
 Zx (sj text (124:Int)) λv1=>
 Zx (
  qF 40 (j6 v1) (([]:List<|List TW),(0:Int))
 ) λs2=>
 Zx (bT s2) λv36=>
 Zx (bif !v36 then
  Us Uq
 else
  Zx (rE s2) λv39=>
  Us (!decide (v39=text))
 ) λs37=>
 bif s37 then
  Us (([]:List<|List TW),Ur)
 else
  Us (s2,Uq)
theorem xx (text:BA):Le (jo text) (bX text):=by
 unfold jo bX
 solve_by_elim (maxDepth:=9999) only [*,xd,uZ,zN,Le.gd,Le.bif,Le.bind,Le.sumK,Le.loop,Le.nilK,Le.ifc,Le.refl]
def smI (x:TW):Bool:=Uu<|(-1<=x.Op/\x.Op<=6)/\(-1<=x.Loc/\x.Loc<=3)/\(-1<=x.Reg/\x.Reg<=3)/\(-1<=x.Val/\x.Val<=4)
def smP (p:List<|List TW):Bool:=Uu (p.length<=4)&&p.all λr=>Uu (r.length<=8)&&r.all smI
def Dw (t:BA):Bool:=match jo t with
 | some v=>smP v.1
 | none=>Ur
theorem KS:∀ l,jS=Us l->l.all Dw=Uq:=by
 intro l h;obtain rfl:=osl h
 decide +kernel
theorem FQ {t:BA} (h:Dw t=Uq):Uc (bX t) λv=>smP v.1=Uq:=by
 unfold Dw at h
 cases hc:jo t with
 | none=>rw [hc] at h;cases h
 | some v=>
  rw [hc] at h;exact ⟨v,xx t v hc,h⟩
theorem OZ:∀ l,jS=Us l->∀ t∈l,Uc (bX t) λv=>smP v.1=Uq:=
 λl h t ht=>FQ (ZO.1 (KS l h) t ht)
def KT (p:List<|List TW):Bool:=Uu (p.length<=1048576)&&p.all λr=>Uu<|r.length<=1048576
def NM (p:List<|List TW) (i:Nat) (x:List TW):List (List TW):=p.set i<|p.getD i []++x
def kX (r_:ah) (p:List<|List TW):Option (ah×List (List TW)):= gd (KT p) <|bif Nat.beq p.length 0 then Us (r_,p) else Zx (aI r_ (p.length:Int)) λv1=>Zx (aI v1.1 (40:Int)) λv2=>gd (Uu<|0<=v1.2/\v1.2<(p.length:Int)) <|bif v2.2==(0:Int) then Zx (cz v2.1 ([(0:Int),(6:Int),(1:Int),(4:Int)]:LI)) λa=>Zx (cz a.1 ([(0:Int),(3:Int),(-1:Int)]:LI)) λb=>Us (b.1,NM p v1.2.toNat [⟨a.2,b.2,0,0⟩]) else bif v2.2==(1:Int) then Zx (cz v2.1 ([(4:Int),(-1:Int),(3:Int)]:LI)) λa=>Us (a.1,NM p v1.2.toNat [⟨2,0,0,a.2⟩]) else bif v2.2==(2:Int) then Us (v2.1,p++Zy (4-p.length) []) else bif v2.2==(3:Int) then Us (v2.1,NM p v1.2.toNat<|Zy (8-(p.getD v1.2.toNat []).length) ⟨1,0,0,0⟩) else bif v2.2==(4:Int) then Us (v2.1,(p.drop 1).take<|p.length-1) else Us (v2.1,p)
theorem zO {p:List (List TW)}:smP p=Uq↔p.length<=4/\∀ r∈p,r.length<=8/\∀ x∈r,smI x=Uq:=by
 simp only [smP,bae,dte,ZO]
theorem O0 {p:List (List TW)} (h:smP p=Uq):KT p=Uq:=by
 rw [zO] at h;simp only [KT,bae,dte,ZO];exact ⟨by omega,λr hr=>by have := (h.2 r hr).1;omega⟩
theorem Gx {α:Type} {m:Nat}:∀ {p:List (List α)},(∀ r∈p,r.length<=m)->total p<=p.length*m
 | [],_=>by simp [total]
 | r::p,h=>by
  have h1:=Gx (p:=p) λx hx=>h x<|List.mem_cons_of_mem _ hx;have h2:=h r<|List.mem_cons_self;simp only [total,List.map_cons,List.sum_cons,llc,Nat.add_mul,Nat.one_mul] at h1 ⊢;omega
theorem RY {p:List (List TW)} (h:smP p=Uq):p.length<=1048576/\total p<=1048576:=by
 rw [zO] at h;have h1:=Gx (m:=8) λr hr=>(h.2 r hr).1;have h2:p.length*8<=32:=by omega
 exact ⟨by omega,by omega⟩
theorem Eu {k:Int} {r:ah} (h:Rd k r) (hk:k<=10000000):Uc (l4 r) λv=>Rd (k+4) v.1/\smI v.2=Uq:=by
 unfold l4;refine (oK h.mk' (by omega) 2).bind λv1 ⟨a1,a2,a3⟩=>(oK a1.mk' (by omega) 7).bind λv2 ⟨b1,b2,b3⟩ => ?_;refine .bif (λ_ => .pure ⟨b1.mono (by omega),by simp only [smI];exact decide_eq_true<|by omega⟩) λ_=>?_;refine .bif (λ_=>(oK b1.mk' (by omega) 2).bind λv3 ⟨c1,c2,c3⟩ => .pure ⟨c1.mono (by omega),decide_eq_true<|by simp only [];omega⟩) λ_=>?_;refine .bif (λ_=>(oK b1.mk' (by omega) 2).bind λv3 ⟨c1,c2,c3⟩=>(oK c1.mk' (by omega) 3).bind λv4 ⟨d1,d2,d3⟩ => .gdI (by omega)<|.pure ⟨d1.mono (by omega),decide_eq_true<|by simp only [];omega⟩) λ_=>?_;refine Uc.bind (P:=λ_=>True) (.bif (λ_ => .pure trivial) λ_ => .pure trivial) λs _=>?_;refine .bif (λ_=>(oK b1.mk' (by omega) 3).bind λv3 ⟨c1,c2,c3⟩ => .gdI (by omega)<|.pure ⟨c1.mono (by omega),decide_eq_true<|by simp only [];omega⟩) λ_=>?_;exact (oK b1.mk' (by omega) 2).bind λv3 ⟨c1,c2,c3⟩ => .pure ⟨c1.mono (by omega),decide_eq_true<|by simp only [];omega⟩
theorem KU {k:Int} {b:LI} {p n:Int} (h:Rd k ⟨b,p⟩) (hk:k<=1000000) (hn:0<=n/\n<=3):Uc (loopO p6 (b,p,([]:List TW),n)) λv=>Rd (k+12) ⟨v.1,v.2.1⟩/\v.2.2.length<=3/\∀ x∈v.2.2,smI x=Uq:=by
 refine Uc.loop (λs=>Rd (k+4*(3-s.2.2.2)) ⟨s.1,s.2.1⟩/\(0<=s.2.2.2/\s.2.2.2+(s.2.2.1.length:Int)<=3)/\∀ x∈s.2.2.1,smI x=Uq) (λs=>s.2.2.2.toNat) ⟨h.mono (by simp only [];omega),by simp;omega,by simp⟩ λs ⟨h1,h2,h3⟩ => ?_;unfold p6;refine .bifD (λh0=>?_) λh0 => .pure ⟨h1.mono (by omega),by simp only [];omega,h3⟩;refine (Eu h1<|by omega).bind λv ⟨a1,a2⟩ => .gdC (by omega) rfl<|.gdI (by omega)<|.pure ⟨⟨a1.mk'.mono (by simp only [];omega),by simp only [lla,llc,ZJ];omega,λx hx=>?_⟩,by simp only [];omega⟩;rcases ZG.1 hx with hx | hx
 ·exact h3 x hx
 rw [ZB.1 hx];exact a2
theorem Jh {k:Int} {b:LI} {p n:Int} (h:Rd k ⟨b,p⟩) (hk:k<=100000) (hn:0<=n/\n<=3):Uc (loopO p7 (b,p,([]:List<|List TW),n)) λv=>Rd (k+39) ⟨v.1,v.2.1⟩/\smP v.2.2=Uq:=by
 refine Uc.loop (λs=>Rd (k+13*(3-s.2.2.2)) ⟨s.1,s.2.1⟩/\(0<=s.2.2.2/\s.2.2.2+(s.2.2.1.length:Int)<=3)/\∀ r∈s.2.2.1,r.length<=8/\∀ x∈r,smI x=Uq) (λs=>s.2.2.2.toNat) ⟨h.mono (by simp only [];omega),by simp;omega,by simp⟩ λs ⟨h1,h2,h3⟩ => ?_;unfold p7;refine .bifD (λh0=>?_) λh0 => .pure ⟨h1.mono (by omega),zO.2 ⟨by simp only [];omega,h3⟩⟩;refine Uc.bind (P:=λv=>Rd (k+13*(3-s.2.2.2)+13) ⟨v.1,v.2.1⟩/\∃ t:List TW,v.2.2=s.2.2.1++[t]/\t.length<=8/\∀ x∈t,smI x=Uq) ?_ λv ⟨a1,t,a2,a3,a4⟩ => ?_
 ·refine Uc.bind (P:=λv=>Rd (k+13*(3-s.2.2.2)+13) ⟨v.1,v.2.1⟩/\v.2.2.length<=3/\∀ x∈v.2.2,smI x=Uq) ?_ λv ⟨a1,a2,a3⟩ => .gdC (by omega) rfl<|.pure ⟨a1,v.2.2,rfl,by omega,a3⟩;refine (Et h1 (by omega) _<|by simp).bind λv ⟨b1,b2⟩=>(KU (n:=v.2) b1.mk' (by omega)<|by simp only [ZH,ZI,or_false] at b2;omega).mono λu ⟨c1,c2,c3⟩=>⟨c1.mono (by omega),c2,c3⟩
 refine .gdI (by omega)<|.pure ⟨⟨a1.mono (by simp only [];omega),by simp only [a2,lla,llc,ZJ];omega,λr hr=>?_⟩,by simp only [];omega⟩;simp only [a2] at hr;rcases ZG.1 hr with hr | hr
 ·exact h3 r hr
 rw [ZB.1 hr];exact ⟨a3,a4⟩
theorem KV {k:Int} {r:ah} (h:Rd k r) (hk:k<=10000) (hp:∀ l,jS=Us l->∀ t∈l,Uc (bX t) λv=>smP v.1=Uq):Uc (rZ r) λv=>Rd (k+46) v.1/\smP v.2=Uq:=by
 unfold rZ J;have e1:∃ l,jS=Us l/\0<l.length/\l.length<=100:=⟨_,rfl,by decide,by decide⟩;obtain ⟨l,e1,e2,e3⟩:=e1;have hp':=hp l e1;refine (Uc.of (P:=λv=>v=l) e1 rfl).bind λv1 hv=>?_;subst hv;refine Uc.sum (PS:=λs=>Rd (k+2) ⟨s.1,s.2⟩) (PW:=λv:ah×List (List TW)=>Rd (k+46) v.1/\smP v.2=Uq) ?_ λs hs=>?_
 ·refine (oK h.mk' (by omega) 3).bind λv3 ⟨a1,a2,a3⟩ => .bif (λ_=>?_) λ_ => .pure<|a1.mk'.mono (by omega);refine (oK a1.mk' (by omega) _).bind λv5 ⟨b1,b2,b3⟩ => .gdD ⟨b2,by omega⟩ ?_;have hlt:v5.2.toNat<v1.length:=by omega
  refine Uc.bind (hp' (v1.getD v5.2.toNat Uo)<|by rw [gdq,geq hlt];exact ZC _) λv7 h7=>?_;exact .bif (λ_ => .pure ⟨b1.mk'.mono (by omega),h7⟩) λ_ => .pure<|b1.mk'.mono (by omega)
 refine Uc.bind (P:=λv=>Rd (k+42) ⟨v.1,v.2.1⟩/\smP v.2.2=Uq) ?_ λv ⟨a1,a2⟩ => ?_
 ·exact (Et hs (by omega) _<|by simp).bind λv ⟨b1,b2⟩=>(Jh (n:=v.2) b1.mk' (by omega)<|by simp only [ZH,ZI,or_false] at b2;omega).mono λu ⟨c1,c2⟩=>⟨c1.mono (by omega),c2⟩
 have hv:Uc (bT v.2.2) λ_=>True := .gdD (RY a2)<|.pure trivial;refine hv.bind λb _ => .bif (λ_ => .pure ⟨a1.mono (by omega),a2⟩) λ_=>?_;exact (Eu a1<|by omega).bind λu ⟨c1,c2⟩ => .pure ⟨c1.mk'.mono (by omega),zO.2 ⟨by simp,by simp [c2]⟩⟩
theorem QP {p:List (List TW)} (h:smP p=Uq) {i:Nat} (hi:i<p.length) {l:List TW} (hl:(p.getD i []).length+l.length<=9) (hx:∀ x∈l,smI x=Uq):(NM p i l).length<=4/\∀ r∈NM p i l,r.length<=9/\∀ x∈r,smI x=Uq:=by
 rw [zO] at h;unfold NM;refine ⟨by rw [List.length_set];exact h.1,λr hr=>?_⟩;rcases List.mem_or_eq_of_mem_set hr with hr | rfl
 ·exact ⟨by have := (h.2 r hr).1;omega,(h.2 r hr).2⟩
 have hg:p.getD i []=p[i]:=by simp [hi]
 refine ⟨by rw [lla];omega,λx hxx=>?_⟩;rcases ZG.1 hxx with hxx | hxx
 ·rw [hg] at hxx;exact (h.2 _<|ZC hi).2 x hxx
 exact hx x hxx
def Sm (p:List<|List TW):Prop:=p.length<=9/\∀ r∈p,r.length<=9/\∀ x∈r,smI x=Uq
theorem Kc {p:List (List TW)} (h:smP p=Uq):Sm p:=by
 rw [zO] at h;exact ⟨by omega,λr hr=>⟨by have := (h.2 r hr).1;omega,(h.2 r hr).2⟩⟩
theorem Sm.sz {p:List (List TW)} (h:Sm p):p.length<=1048576/\total p<=1048576:=by
 have h1:=Gx (m:=9) λr hr=>(h.2 r hr).1;have h2:p.length*9<=81:=by have := h.1;omega
 exact ⟨by have := h.1;omega,by omega⟩
theorem H4 {k:Int} {r:ah} (h:Rd k r) (hk:k<=100000) {p:List (List TW)} (hp:smP p=Uq):Uc (kX r p) λv=>Rd (k+4) v.1/\Sm v.2:=by
 unfold kX;have hp0:=zO.1 hp;have hg:∀ i,(p.getD i []).length<=8:=λi=>by
  by_cases hi:i<p.length
  ·have : p.getD i []=p[i]:=by simp [hi]
   rw [this];exact (hp0.2 _<|ZC hi).1
  simp [List.getD,gen (Nat.le_of_not_lt hi)]
 refine .gd (O0 hp)<|.bif (λ_ => .pure ⟨h.mono (by omega),Kc hp⟩) λh0=>?_;have hpos:0<p.length:=by
  cases hc:p.length with
  | zero=>rw [hc] at h0;cases h0
  | succ n=>omega
 refine (oK h (by omega) _).bind λv1 ⟨a1,a2,a3⟩=>(oK a1 (by omega) _).bind λv2 ⟨b1,b2,b3⟩ => .gdD ⟨a2,by omega⟩ ?_;have hi:v1.2.toNat<p.length:=by omega
 have put:∀ {l:List TW},(p.getD v1.2.toNat []).length+l.length<=9->(∀ x∈l,smI x=Uq)->Sm (NM p v1.2.toNat l):=λ{l} hl hx=>by
  obtain ⟨g1,g2⟩:=QP hp hi hl hx;exact ⟨by omega,g2⟩
 refine .bif (λ_=>(Et b1 (by omega) _<|by simp).bind λa ⟨c1,c2⟩=>(Et c1 (by omega) _<|by simp).bind λb ⟨d1,d2⟩ => .pure ⟨d1.mono (by omega),put (by have := hg v1.2.toNat;simp only [llc,ZJ];omega) λx hx=>?_⟩) λ_=>?_
 ·rw [ZB.1 hx];simp only [ZH,ZI,or_false] at c2 d2;exact decide_eq_true (by simp only [];omega)
 refine .bif (λ_=>(Et b1 (by omega) _<|by simp).bind λa ⟨c1,c2⟩ => .pure ⟨c1.mono (by omega),put (by have := hg v1.2.toNat;simp only [llc,ZJ];omega) λx hx=>?_⟩) λ_=>?_
 ·rw [ZB.1 hx];simp only [ZH,ZI,or_false] at c2;exact decide_eq_true (by simp only [];omega)
 refine .bif (λ_ => .pure ⟨b1.mono (by omega),by simp only [lla,ZV];omega,λr hr=>?_⟩) λ_=>?_
 ·rcases ZG.1 hr with hr | hr
  ·exact ⟨by have := (hp0.2 r hr).1;omega,(hp0.2 r hr).2⟩
  rw [ZK hr];exact ⟨by simp,by simp⟩
 refine .bif (λ_ => .pure ⟨b1.mono (by omega),put (by have := hg v1.2.toNat;rw [ZV];omega) λx hx=>?_⟩) λ_=>?_
 ·rw [ZK hx]
  rfl
 refine .bif (λ_ => .pure ⟨b1.mono (by omega),?_⟩) λ_ => .pure ⟨b1.mono (by omega),Kc hp⟩;exact ⟨by simp only [ZN,List.length_drop];omega,λr hr=>(Kc hp).2 r<|ZT<|ZU hr⟩
def iq (code:LI):Option (List<|List TW):= Zx (lZ code) λv1=>Zx (ql (⟨v1.b,v1.p⟩:ah)) λv2=>Zx (kX (⟨v2.1.b,v2.1.p⟩:ah) v2.2) λv3=>Us v3.2
def xe (a:LI) (b:LI):LS Int (Unit ⊕ Bool):=λs5=>bif Uu (s5<(a.length:Int)) then gd (Uu<|0<=s5/\s5<(a.length:Int)) <|gd (Uu<|0<=s5/\s5<(b.length:Int)) <|bif ((J a s5) != (J b s5)) then Us (.inr<|.inr Ur) else gd (TT .i64<|s5+(1:Int)) <|Us (.inl<|s5+(1:Int)) else Us (.inr<|.inl ())
def oP (a:LI) (b:LI):Option Bool:= bif ((a.length:Int) != (b.length:Int)) then Us Ur else sumK (loopO (xe a b) (0:Int)) λs2=>Us Uq
def vR (a:LL) (b:LL):LS Int (Unit ⊕ Bool):=λs5=>bif Uu (s5<(a.length:Int)) then gd (Uu<|0<=s5/\s5<(a.length:Int)) <|gd (Uu<|0<=s5/\s5<(b.length:Int)) <|Zx (oP (J a s5)<|J b s5) λv10=>bif !v10 then Us (.inr<|.inr Ur) else gd (TT .i64<|s5+(1:Int)) <|Us (.inl<|s5+(1:Int)) else Us (.inr<|.inl ())
def qm (a:LL) (b:LL):Option Bool:= bif ((a.length:Int) != (b.length:Int)) then Us Ur else sumK (loopO (vR a b) (0:Int)) λs2=>Us Uq
def tO (list:LL) (s4:Int):LS Int Int:=λs11=>sumK (Zx (gd (Uu<|0<=s4/\s4<(list.length:Int)) <|bif Uu (s11<((J list s4).length:Int)) then gd (TT .i64<|s4-(1:Int)) <|gd (Uu<|0<=(s4-(1:Int))/\(s4-(1:Int))<(list.length:Int)) <|gd (Uu<|0<=s11/\s11<((J list<|s4-(1:Int)).length:Int)) <|gd (Uu<|0<=s11/\s11<((J list s4).length:Int)) <|Us ((J (J list<|s4-(1:Int)) s11)==(J (J list s4) s11)) else Us Ur) λs14=>bif s14 then Us (.inl ()) else Us (.inr<|.inr s11)) λs13=>gd (TT .i64<|s11+(1:Int)) <|Us<|.inl<|s11+(1:Int)
def uK (list:LL):LS Int (Unit ⊕ Bool):=λs4=>bif Uu (s4<(list.length:Int)) then sumK (Zx (loopO (tO list s4) (0:Int)) λs8=>Zx (gd (Uu<|0<=s4/\s4<(list.length:Int)) <|bif (s8==((J list s4).length:Int)) then Us Uq else gd (TT .i64<|s4-(1:Int)) <|gd (Uu<|0<=(s4-(1:Int))/\(s4-(1:Int))<(list.length:Int)) <|gd (Uu<|0<=s8/\s8<((J list<|s4-(1:Int)).length:Int)) <|gd (Uu<|0<=s8/\s8<((J list s4).length:Int)) <|Us<|Uu<|(J (J list s4) s8)<(J (J list<|s4-(1:Int)) s8)) λs23=>bif s23 then Us (.inr<|.inr<|.inr Ur) else Us (.inl ())) λs7=>gd (TT .i64<|s4+(1:Int)) <|Us (.inl<|s4+(1:Int)) else Us (.inr<|.inl ())
def oQ (list:LL):Option Bool:= sumK (loopO (uK list) (1:Int)) λs1=>Us Uq
def pz (v2:(List<|List TW)) (v3:(LL)):LS Int (Unit ⊕ Bool):=λs13=>bif Uu (s13<(v3.length:Int)) then gd (Uu<|0<=s13/\s13<(v3.length:Int)) <|Zx (ik v2<|J v3 s13) λv17=>Zx (bif !v17.2 then Us Uq else Zx (oP v17.1<|J v3 s13) λv20=>Us<|!v20) λs18=>bif s18 then Us (.inr<|.inr Ur) else gd (TT .i64<|s13+(1:Int)) <|Us (.inl<|s13+(1:Int)) else Us (.inr<|.inl ())
def gI (code:LI):Option Bool:= bif Uu ((1048576:Int)<(code.length:Int)) then Us Uq else Zx (iq code) λv2=>Zx (f7 v2) λv3=>Zx (lV (⟨#[115,101,113]⟩:BA)) λv4=>Zx (gm v2) λv5=>Zx (qm v3 v5) λv6=>Zx (bif !v6 then Us Uq else Us (!v4.2)) λs7=>bif s7 then Us Ur else sumK (loopO (pz v2 v3) (0:Int)) λs10=>Zx (oQ v3) λv23=>Zx (bif v23 then Zx (fF v2 v4.1) λv26=>Us ((v3.length:Int)==(v26.length:Int)) else Us Ur) λs24=>Us s24
section
variable {p:List (List TW)} {s:LI} {k:Nat}
variable (hk:k+1<s.length) (hne:s.getD k Uo≠s.getD (k+1) Uo)
include hk
include hne
end

section
variable {p:List (List TW)} {u:T9} {z:ZSt}
theorem QQ (hp:PV p):Rel p (u0 p) ⟨Zy p.length Uo,Zy (p.length*3) Uo,Zy 3 Uo,[]⟩:=by
 have hl:=hp.vs.1;have z3:∀ i:Int,Z3b.get ⟨0,0,0⟩ i=0:=λi=>by
  simp only [Z3b.get]
  split <;> (try split) <;> rfl
 have z33:∀ i:Int,Z33.get ⟨⟨0,0,0⟩,⟨0,0,0⟩,⟨0,0,0⟩⟩ i=⟨0,0,0⟩:=λi=>by
  simp only [Z33.get]
  split <;> (try split) <;> rfl
 have zr:∀ n i:Nat,(Zy n (Uo:Int)).getD i Uo=0:=λn i=>by
  rw [gdq,ZR]
  split <;> rfl
 refine ⟨rfl,by simp,λi hi=>?_,λi hi=>?_,by simp;omega,λt g ht hg=>?_,λv hv=>?_,by simp,λl hl=>?_,λv hv=>?_,by simp⟩
 ·simp only [zr,u0,z3]
 ·simp only [zr];omega
 ·simp only [zr,u0,z33,z3]
 ·rw [ZK hv];decide
 ·simp only [zr,u0,z3]
 rw [ZK hv];decide
theorem RZ (hp:PV p) {s:LI} {i:Nat} (hs:s.length<=1048576) (hi:i<s.length) (h:Rel p u z)
  (hok:(0<=s.getD i Uo/\s.getD i Uo<(p.length:Int))/\z.at_.getD (s.getD i Uo).toNat Uo<((p.getD (s.getD i Uo).toNat Uo).length:Int)) :
  ∃ u' z',bC s ((i:Int),⟨u⟩)=Us (.inl (((i+1:Nat):Int),⟨u'⟩))/\Rel p u' z'/\z'.at_=z.at_.set (s.getD i Uo).toNat (z.at_.getD (s.getD i Uo).toNat Uo+1):=by
 have hc:(i:Int)<(s.length:Int):=by omega
 generalize hm:s.getD i Uo=m at hok ⊢;have hx:=hp.ins m.toNat (z.at_.getD m.toNat Uo).toNat (by omega) (by have := h.al1 m.toNat (by omega);omega);refine ⟨_,_,Uc.eq ?_,h.after hp hok.1 hok.2 hx,rfl⟩;unfold bC J;simp only [tnn,hm];refine .bifD (λ_ => .gdD ⟨by omega,hc⟩<|(Ml hp h).bind λl ⟨hll,hl'⟩ => ?_) λhn=>absurd hc hn;refine (Hn l m<|by omega).bind λb hb' => ?_;subst hb';refine .bif (λhn=>?_) λ_=>(Mm hp h hok.1 hok.2).bind λv hv => .gdI (by omega)<|.pure (by rw [hv];rfl);have := (hl' m).2 hok;simp [this] at hn
theorem SK (hp:PV p) {s:LI} (hs:s.length<=1048576) (hg:Good p s s.length):∀ (n i:Nat) (u:T9) (z:ZSt),i+n=s.length->Rel p u z->(∀ t:Nat,t<p.length->z.at_.getD t Uo=((s.take i).count (t:Int):Int)) ->
  ∃ u' z',loopO (bC s) ((i:Int),⟨u⟩)=Us (.inl ⟨u'⟩)/\Rel p u' z'/\(∀ t:Nat,t<p.length->z'.at_.getD t Uo=(s.count (t:Int):Int)):=by
 intro n
 induction n with
 | zero=>
  intro i u z hi h hc;have e:i=s.length:=by omega
  subst e;refine ⟨u,z,?_,h,by simpa using hc⟩;rw [ul];unfold bC J;simp only [decide_eq_false (Int.lt_irrefl (s.length:Int))]
  rfl
 | succ n ih=>
  intro i u z hi h hc;have hi':i<s.length:=by omega
  obtain ⟨q1,q2⟩:=hg i hi';have hn:(s.getD i Uo).toNat<p.length:=by omega
  have key:=hc _ hn;have em:(((s.getD i Uo).toNat:Nat):Int)=s.getD i Uo:=ZE q1.1;rw [em] at key;obtain ⟨u',z',e1,h',ha⟩:=RZ hp hs hi' h ⟨q1,by rw [key];omega⟩;rw [ul,e1];refine ih (i+1) u' z' (by omega) h' λt ht=>?_;rw [ha,kS (by rw [h.al];exact hn),BN hi',key]
  by_cases e:t=(s.getD i Uo).toNat
  ·have e':s.getD i Uo=(t:Int):=by omega
   rw [if_pos e,if_pos e',e'];omega
  have e' : ¬ s.getD i Uo=(t:Int):=by omega
  rw [if_neg e,if_neg e',hc t ht]
  rfl
theorem KW (hsz:p.length<=1048576/\total p<=1048576) {s:LI} (hs:s.length<=1048576) (hw:Whole p s):rR p s=Us (Tm p s Uq,Uq):=by
 have hp:=PV.of hw.1;have hI:aU p=Us Uq:=hw.1 ▸ qO (decide_eq_true hsz);have h0:=QQ hp;obtain ⟨u',z',g1,g2,g3⟩:=SK hp hs hw.2.1 s.length 0 _ _ (by omega) h0 λt ht=>by
  rw [h0.a t ht];simp only [u0,Z3b.get,List.take_zero,List.count_nil]
  split <;> (try split) <;> rfl
 obtain ⟨d,d1,d2⟩:=Mo hp g2;obtain rfl:d=Uq:=d2.2 λ⟨t,ht,hlt⟩=>by
  have h2:=g3 t ht;have h3:=hw.2.2 t ht;omega
 refine Uc.eq ?_;unfold rR;refine (Qj hI g1 d1 (Hp hp g2).eq).bind λv hv=>?_;subst hv;exact .bif (λh=>by cases h) λ_=>(Mt hp hs hw.2.1).bind λv hv => .pure (by rw [hv];rfl)
end
theorem O1 {p:List (List TW)} {m:List aj} {good:TY->Bool} (v:List TY) (hl:v.length<=1000000) (heq:∀ a∈v,Uc (dR a p m) (· = !good a)):Uc (aA v p m) (· = v.filter good):=by
 unfold aA;refine Uc.bind (P:=λr:Int=>(r = -1/\∀ n∈v,good n=Uq)\/(0<=r/\r<(v.length:Int)/\good (v.getD r.toNat Uo)=Ur/\∀ n∈v.take r.toNat,good n=Uq)) ?_ λr hr=>?_
 ·unfold aQ;refine Uc.sum (PS:=λ_=>∀ n∈v,good n=Uq) (PW:=λr:Int=>(r = -1/\∀ n∈v,good n=Uq)\/(0<=r/\r<(v.length:Int)/\good (v.getD r.toNat Uo)=Ur/\∀ n∈v.take r.toNat,good n=Uq)) ?_ λ_ h => .pure<|.inl ⟨rfl,h⟩;refine Uc.loop (λz=>∃ k:Nat,k<=v.length/\z=(k:Int)/\∀ n∈v.take k,good n=Uq) (λz=>((v.length:Int)-z).toNat) ⟨0,by omega,rfl,by simp⟩ λz ⟨k,h1,h2,h3⟩ => ?_;subst h2;unfold bg J;simp only [tnn];refine .bifD (λhk => .gdD ⟨by omega,hk⟩<|(heq _<|getD_in<|by omega).bind λb hb=>?_) λhk => .pure ?_
  ·subst hb;refine .bif (λhe => .pure<|.inr ⟨by omega,hk,by rw [tnn];simpa using he,by rw [tnn];exact h3⟩) λhe => .gdI (by omega)<|.pure ⟨⟨k+1,by omega,rfl,λn hn=>?_⟩,by omega⟩;rw [fo (by omega),ZG,ZB] at hn;rcases hn with hn | rfl
   ·exact h3 n hn
   simpa using he
  rwa [show k=v.length by omega,List.take_length] at h3
 rcases hr with ⟨rfl,h⟩ | ⟨r0,r1,r2,r3⟩
 ·refine .bif (λ_ => .pure ?_) λh=>by cases h
  rw [ZW.2 λn hn=>h n hn]
 refine .bif (λh=>by have := eq_of_beq h;omega) λ_=>?_;refine Uc.bind (P:=λz=>z.1.length=v.length/\(0<=z.2/\z.2<=(v.length:Int))/\z.1.take z.2.toNat=v.filter (good)) (.gdI (by omega) ?_) λz ⟨z1,⟨z2,z3⟩,z4⟩ => ?_
 ·refine Uc.loop (λz=>∃ j k:Nat,j<=v.length/\k<=j/\z.2.1=(j:Int)/\z.2.2=(k:Int)/\z.1.length=v.length/\(∀ q:Nat,j<=q->z.1[q]? = v[q]?)/\z.1.take k=(v.take j).filter (good)) (λz=>((v.length:Int)-z.2.1).toNat) ⟨r.toNat+1,r.toNat,by omega,by omega,by simp only [];omega,by simp only [];omega,rfl,λ_ _=>rfl,?_⟩ λz ⟨j,k,h1,h2,h3,h4,h5,h6,h7⟩ => ?_
  ·simp only [];rw [fo (by omega),List.filter_append,ZW.2 λn hn=>r3 n hn,ZX (by rw [r2];decide)];simp
  obtain ⟨s,z1,z2⟩:=z;simp only at h3 h4 h5 h6 h7;subst h3 h4;unfold bf J;simp only [tnn,h5];refine .bifD (λhk=>?_) λhk => .pure ⟨h5,⟨by simp only [];omega,by simp only [];omega⟩,?_⟩
  ·have hj:j<v.length:=by omega
   have e1:s.getD j Uo=v.getD j Uo:=by rw [gdq,gdq,h6 j (Nat.le_refl _)]
   rw [e1];refine Uc.bind (P:=λz:List TY×Int=>∃ k:Nat,k<=j+1/\z.2=(k:Int)/\z.1.length=v.length/\(∀ q:Nat,j+1<=q->z.1[q]? = v[q]?)/\z.1.take k=(v.take<|j+1).filter (good)) (.gdD ⟨by omega,hk⟩<|(heq _<|getD_in hj).bind λb hb=>?_) λz ⟨k',g1,g2,g3,g4,g5⟩ => .gdI (by omega)<|.pure ⟨⟨j+1,k',by omega,g1,rfl,g2,g3,g4,g5⟩,by simp only [];omega⟩;subst hb;rw [fo hj,List.filter_append];refine .bif (λhn=>?_) λhn=>?_
   ·refine .gdD ⟨by omega,by omega⟩<|.gdI (by omega)<|.pure ⟨k+1,by omega,rfl,by simp [h5],λq hq=>?_,?_⟩
    ·simp only [];rw [List.getElem?_set_ne (by omega)];exact h6 q (by omega)
    simp only [];have hks:k<s.length:=by omega
    rw [List.take_add_one,List.getElem?_set_self hks,List.take_set_of_le (Nat.le_refl _),h7]
    congr 1
    rw [List.filter_cons_of_pos (show good (v.getD j Uo)=Uq by simpa using hn)]
    rfl
   refine .pure ⟨k,by omega,rfl,h5,λq hq=>h6 q (by omega),?_⟩;simp only [];rw [h7,ZX (show ¬ good (v.getD j Uo)=Uq by simpa using hn)];simp
  simp only [];rw [tnn,h7,show j=v.length by omega,List.take_length]
 refine .gdD ⟨by omega,by omega⟩<|.gdD ⟨z2,by omega,by omega⟩<|.gdD ⟨by omega,z2,by omega⟩<|.pure ?_;rw [<- z4];simp only [cpy,Nat.zero_add,show (0:Int).toNat=0 from rfl,List.drop_zero,Nat.sub_zero]
 split
 ·rw [List.append_assoc,List.take_append_of_le_length (by rw [ZN];omega),List.take_take,Nat.min_self]
 rfl
section
variable {α β:Type}
theorem Ji {l:List α} {f:α->List β} (h1:∀ a∈l,(f a).Nodup) (hn:l.Nodup) (h2:∀ a∈l,∀ b∈l,∀ y,y∈f a->y∈f b->a=b):(l.flatMap f).Nodup:=by
 induction l with
 | nil=>exact .nil
 | cons a l ih=>
  rw [List.flatMap_cons];obtain ⟨n1,n2⟩:=ZP.1 hn;refine List.nodup_append.2 ⟨h1 a (by simp),ih (λb hb=>h1 b<|by simp [hb]) n2 λb hb c hc=>h2 b (by simp [hb]) c (by simp [hc]),λy hy z hz e=>?_⟩;subst e;obtain ⟨b,hb,hyb⟩:=List.mem_flatMap.1 hz;have := h2 a (by simp) b (by simp [hb]) y hy hyb;subst this;exact n1 hb
theorem H5 {l:List α} {f:α->β} (hn:l.Nodup) (h:∀ a∈l,∀ b∈l,f a=f b->a=b):(l.map f).Nodup:=by
 induction l with
 | nil=>exact .nil
 | cons a l ih=>
  obtain ⟨n1,n2⟩:=ZP.1 hn;rw [List.map_cons];refine ZP.2 ⟨λhm=>?_,ih n2 λb hb c hc=>h b (by simp [hb]) c<|by simp [hc]⟩;obtain ⟨b,hb,e⟩:=ZA.1 hm;have := h a (by simp) b (by simp [hb]) e.symm;subst this;exact n1 hb
end
theorem Jj {α:Type}:∀ {cs:List (List α)},(∀ c∈cs,c.Nodup)->(rB cs).Nodup
 | [],_=>by simp [rB]
 | c::cs,h=>by
  have ih:=Jj (cs:=cs) λd hd=>h d (by simp [hd]);unfold rB;refine Ji (λa _=>H5 ih λx _ y _ e=>by simpa using e) (h c<|by simp) λa _ b _ y hy hz=>?_;obtain ⟨u,_,rfl⟩:=ZA.1 hy;obtain ⟨v,_,e⟩:=ZA.1 hz;simpa using (List.cons.inj e).1.symm
theorem PD:∀ (n:Nat) (l:LI),l.Nodup->(prm n l).Nodup
 | 0,l,_=>by simp [prm]
 | n+1,l,h=>by
  unfold prm;have hsub:∀ i,(l.take i++l.drop (i+1)).Nodup:=λi=>by
   rw [<- List.eraseIdx_eq_take_drop_succ];exact h.sublist<|List.eraseIdx_sublist l i
  refine Ji (λa _=>H5 (PD n _<|hsub a) λx _ y _ e=>by simpa using e) List.nodup_range λa ha b hb y hy hz=>?_;obtain ⟨u,_,rfl⟩:=ZA.1 hy;obtain ⟨v,_,e⟩:=ZA.1 hz;have e:=(List.cons.inj e).1;have ha:=List.mem_range.1 ha;have hb:=List.mem_range.1 hb;rw [gdq,gdq,geq ha,geq hb] at e;have e:l[a]=l[b]:=e.symm;rcases Nat.lt_trichotomy a b with h1 | h1 | h1
  ·exact absurd e<|ZQ.1 h a b ha hb h1
  ·exact h1
  exact absurd e.symm<|ZQ.1 h b a hb ha h1
section
variable {p:List (List TW)}
theorem O2:(eZ p).Nodup:=by
 unfold eZ;have hF:∀ c∈chF p,c.Nodup:=λc hc=>by
  unfold chF at hc;obtain ⟨i,_,rfl⟩:=ZA.1 hc;unfold chE
  split
  ·exact (J4 _).filter _
  simp
 have hL:∀ l,(chL p l).Nodup:=λl=>by
  unfold chL;exact H5 (PD _ _<|(J4 (p:=p) (l:Int)).sublist<|List.tail_sublist _) λx _ y _ e=>by simpa using e
 have hO:∀ c∈Ug p,c.Nodup:=λc hc=>by
  unfold Ug at hc;simp only [ZH,ZI,or_false] at hc;rcases hc with rfl | rfl | rfl <;> exact hL _
 refine Ji (λf _=>H5 (Jj hO) λa _ b _ e=>by injection e) (Jj hF) λf _ g _ y hy hz=>?_;obtain ⟨u,_,rfl⟩:=ZA.1 hy;obtain ⟨v,_,e⟩:=ZA.1 hz;injection e with e1 _;exact e1.symm
def seqB (p:List<|List TW) (c:TY):Bool:=pu (evs p).length<|Uj (Ud p (c.From,c.Order)) (evs p).length
theorem EW (hv:bS (Uh p)=Uq) (hsz:p.length<=1048576/\total p<=1048576):Uc (fF p Pz) (· = (eZ p).filter (seqB p)):=by
 have hp:=PV.of hv;have hV:aU p=Us Uq:=by rw [show aU p=Us (bS<|Uh p) from qO (decide_eq_true hsz),hv]
 unfold fF;refine (Uc.of (P:=(· = Uq)) hV rfl).bind λv1 h1=>?_;subst h1;refine Uc.bind (P:=(· = Ur)) (.bif (λh=>by cases h) λ_=>(Uc.of (P:=(· = Uq)) OV rfl).bind λv hv => .pure<|by rw [hv];rfl) λv hv2=>?_;subst hv2;refine .bif (λh=>by cases h) λ_=>(Hy hv).bind λv6 h6=>?_;subst h6;have hle:(eZ p).length<=3000:=by
  have := (few hv).all;unfold eZ;rw [dS (m:=(rB<|Ug p).length) λa _=>by simp];exact this
 refine Uc.bind (P:=(· = (eZ p).filter (seqB p))) (O1 (eZ p) (by omega) λc hc=>?_) λv hv => .pure hv;unfold dR;exact (Jf hp hv<|wN hp hc).bind λb hb => .pure (by rw [hb];rfl)
theorem H6 (hv:bS (Uh p)=Uq) {q:LL} (hn:q.Nodup) (hq:∀ o,o∈q↔TrL p o):q.length=((eZ p).filter<|seqB p).length:=by
 have hp:=PV.of hv;let f:LI->TY:=λo=>⟨(vJ p<|qM p o o.length).1,(vJ p<|qM p o o.length).2⟩;have hin:∀ a∈q,∀ b∈q,f a=f b->a=b:=λa ha b hb e=>by
  have h1:=((hq a).1 ha).2;have h2:=((hq b).1 hb).2;have e':vJ p (qM p a a.length)=vJ p (qM p b b.length):=by
   injection e with e1 e2;exact Prod.ext e1 e2
  rw [e'] at h1;exact h1.uniq h2
 have hper:(q.map f).Perm ((eZ p).filter<|seqB p):=by
  refine (List.perm_ext_iff_of_nodup (H5 hn hin)<|O2.filter _).2 λc=>?_;rw [ZA,List.mem_filter]
  constructor
  ·rintro ⟨o,ho,rfl⟩;have hw:=((hq o).1 ho).1;exact ⟨Er hp<|BS hw,H3 hp<|yh hp hw⟩
  rintro ⟨hc,hs⟩;obtain ⟨l,b,e1,_,_,h4,_⟩:=ym hv hc;have hb:=Es (x:=(c.From,c.Order)) hp hv (wN hp hc) e1;obtain ⟨g1,g2⟩:=h4<|hb.trans hs;refine ⟨l,(hq l).2 g1,?_⟩;show (⟨(vJ p<|qM p l l.length).1,(vJ p<|qM p l l.length).2⟩:TY)=c;rw [g2]
 rw [<- hper.length_eq,llm]
theorem KX (hsz:p.length<=1048576/\total p<=1048576) {o:LI} (h:TrL p o) (hl:o.length<=1048576):Uc (ik p o) (· = (o,Uq)):=by
 have hw:=h.1;have hv:=hw.1;have hp:=PV.of hv;have x1:=KW hsz hl hw;unfold ik;refine (Uc.of (P:=(· = (Tm p o Uq,Uq))) x1 rfl).bind λv hv1=>?_;subst hv1;refine .bif (λh=>by cases h) λ_=>?_;obtain ⟨l,b,e1,_,_,_,h5,h6⟩:=yP hp hv<|BS hw;obtain rfl:=h6 o hw rfl;have hu:=(h5 rfl).2.2.uniq h.2;refine (Uc.of (P:=(· = (l,Uq))) e1 rfl).bind λw hw => .pure ?_;rw [hw,hu]
end
theorem H7 (x:TW):Uc (fB x) λ_=>True:=by
 unfold fB;exact Uc.bind (P:=λ_=>True) (.bif (λ_ => .pure trivial) λ_ => .pure trivial) λ_ _=>Uc.bind (P:=λ_=>True) (.bif (λ_ => .pure trivial) λ_ => .pure trivial) λ_ _ => .pure trivial
theorem Jk (x:TW):Uc (gQ x) λ_=>True:=by
 unfold gQ;exact Uc.bind (P:=λ_=>True) (.bif (λ_ => .pure trivial) λ_ => .pure trivial) λ_ _ => .pure trivial
theorem Sm.row {p:List (List TW)} (h:Sm p) (i:Nat):(p.getD i Uo).length<=9:=by
 by_cases hi:i<p.length
 ·have : p.getD i Uo=p[i]:=by simp [hi]
  rw [this];exact (h.2 _<|ZC hi).1
 rw [gdq,gen (Nat.le_of_not_lt hi)];exact Nat.zero_le _
theorem Ev {p:List (List TW)} (hp:Sm p) (loc:Int) (wr:Bool):Uc (l5 p loc wr) λv=>0<=v/\v<=81:=by
 unfold l5;have hpl:=hp.1;refine Uc.bind (P:=λv:Int=>0<=v/\v<=81) ?_ λv hv => .pure hv;refine Uc.loop (λs=>0<=s.1/\s.1<=(p.length:Int)/\0<=s.2/\s.2<=9*s.1) (λs=>((p.length:Int)-s.1).toNat) ⟨Zz _,by simp only [];omega,Zz _,Zz _⟩ λs ⟨h1,h2,h3,h4⟩ => ?_;unfold vP;refine .bifD (λh0=>?_) λh0 => .pure ⟨h3,by omega⟩;have hrow:=hp.row s.1.toNat;refine Uc.bind (P:=λv:Int=>0<=v/\v<=9*s.1+9) ?_ λv ⟨g1,g2⟩ => .gdI (by omega)<|.pure ⟨⟨by simp only [];omega,by simp only [];omega,g1,by simp only [];omega⟩,by simp only [];omega⟩;refine Uc.loop (λt=>0<=t.1/\t.1<=((p.getD s.1.toNat Uo).length:Int)/\0<=t.2/\t.2<=9*s.1+t.1) (λt=>(((p.getD s.1.toNat Uo).length:Int)-t.1).toNat) ⟨Zz _,by simp only [];omega,h3,by simp only [];omega⟩ λt ⟨k1,k2,k3,k4⟩ => ?_;unfold uH J;refine .gdD ⟨h1,h0⟩<|.bifD (λhk=>?_) λhk => .pure ⟨k3,by omega⟩;refine Uc.bind (P:=λv:Int=>0<=v/\v<=t.2+1) ?_ λv ⟨g1,g2⟩ => .gdI (by omega)<|.pure ⟨⟨by simp only [];omega,by simp only [];omega,g1,by simp only [];omega⟩,by simp only [];omega⟩;refine .gdD ⟨k1,hk⟩<|Uc.bind (P:=λ_=>True) ?_ λb _ => .bif (λ_ => .gdI (by omega)<|.pure ⟨by omega,by omega⟩) λ_ => .pure ⟨k3,by omega⟩;refine .bif (λ_=>?_) λ_ => .pure trivial;refine Uc.bind (P:=λ_=>True) (.bif (λ_=>(H7 _).bind λ_ _ => .pure trivial) λ_ => .pure trivial) λ_ _=>?_;refine Uc.bind (P:=λ_=>True) (.bif (λ_ => .pure trivial) λ_=>?_) λ_ _ => .pure trivial;exact Uc.bind (P:=λ_=>True) (.bif (λ_=>(Jk _).bind λ_ _ => .pure trivial) λ_ => .pure trivial) λ_ _ => .pure trivial
theorem Jl {p:List (List TW)} (hp:Sm p) {most:Int} (hm:0<=most/\most<=10000):Uc (qj p most) λ_=>True:=by
 unfold qj;refine Uc.bind (P:=λv:Int=>0<=v/\v<=1000000000) ?_ λv ⟨h1,h2⟩ => .bifD (λ_ => .gdI (by omega)<|.pure trivial) λ_ => .pure trivial;refine Uc.loop (λs=>0<=s.1/\s.1<=3/\0<=s.2/\s.2<=1000000000) (λs=>(3-s.1).toNat) ⟨Zz _,by decide,by decide,by decide⟩ λs ⟨h1,h2,h3,h4⟩ => ?_;unfold vQ;refine .bifD (λh0=>?_) λh0 => .pure ⟨h3,h4⟩;refine Uc.bind (P:=λv:Int=>0<=v/\v<=1000000000) ?_ λv ⟨g1,g2⟩ => .gdI (by omega)<|.pure ⟨⟨by simp only [];omega,by simp only [];omega,g1,g2⟩,by simp only [];omega⟩;refine (Ev hp _ _).bind λw ⟨w1,w2⟩=>Uc.bind (P:=λv:Int=>0<=v/\v<=1000000000) ?_ λv ⟨g1,g2⟩ => ?_
 ·refine Uc.loop (λt=>0<=t.1/\t.1<=81/\0<=t.2/\t.2<=1000000000) (λt=>(81-t.1).toNat) ⟨Zz _,by simp only [];omega,h3,h4⟩ λt ⟨k1,k2,k3,k4⟩ => ?_;unfold uI;refine (Ev hp _ _).bind λc ⟨c1,c2⟩=>Uc.bind (P:=λb=>b=(Uu (t.1<c)&&Uu (t.2<=most))) (.bifD (λh => .pure<|by simp [h]) λh => .pure<|by simp [h]) λb hb => .bif (λht=>?_) λ_ => .pure ⟨k3,k4⟩;rw [hb] at ht;simp only [bae,dte] at ht;have e1:0<=t.2*(w+1)/\t.2*(w+1)<=10000*82:=⟨Int.mul_nonneg k3 (by omega),Int.mul_le_mul (by omega) (by omega) (by omega)<|by omega⟩;exact .gdI (by omega)<|.gdI (by omega)<|.gdI (by omega)<|.pure ⟨⟨by simp only [];omega,by simp only [];omega,e1.1,by simp only [];omega⟩,by simp only [];omega⟩
 refine Uc.loop (λt=>2<=t.1/\t.1<=82/\0<=t.2/\t.2<=1000000000) (λt=>(82-t.1).toNat) ⟨Zz _,by simp only [];omega,g1,g2⟩ λt ⟨k1,k2,k3,k4⟩ => ?_;unfold uJ;refine Uc.bind (P:=λb=>b=(Uu (t.1<=w)&&Uu (t.2<=most))) (.bifD (λh => .pure<|by simp [h]) λh => .pure<|by simp [h]) λb hb => .bif (λht=>?_) λ_ => .pure ⟨k3,k4⟩;rw [hb] at ht;simp only [bae,dte] at ht;have e1:0<=t.2*t.1/\t.2*t.1<=10000*82:=⟨Int.mul_nonneg k3 (by omega),Int.mul_le_mul (by omega) (by omega) (by omega)<|by omega⟩;exact .gdI (by omega)<|.gdI (by omega)<|.pure ⟨⟨by simp only [];omega,by simp only [];omega,e1.1,by simp only [];omega⟩,by simp only [];omega⟩
theorem SL:Dw (⟨#[120,61,49,59,97,61,121,124,121,61,49,59,97,61,120]⟩:BA)=Uq:=by decide +kernel
theorem Jm {k:Int} {r:ah} (h:Rd k r) (hk:k<=10000):Uc (ql r) λv=>Rd (k+46) v.1/\smP v.2=Uq:=by
 unfold ql;refine (KV h.mk' hk OZ).bind λv ⟨a1,a2⟩=>(Jl (Kc a2)<|by decide).bind λn _ => .bifD (λ_ => .pure ⟨a1.mk',a2⟩) λ_=>?_;exact (FQ SL).bind λu hu => .pure ⟨a1.mk',hu⟩
theorem R3 {b:LI} (hb:Bts b):Uc (iq b) Sm:=by
 unfold iq;exact (OY hb).bind λr h=>(Jm h.mk'<|by omega).bind λv ⟨a1,a2⟩=>(H4 a1.mk' (by omega) a2).bind λu ⟨b1,b2⟩ => .pure b2
theorem FR {a b:LI} (ha:a.length<=1048576):Uc (oP a b) (· = Uu (a=b)):=by
 unfold oP;refine .bif (λh => .pure ?_) λh=>?_
 ·have h : ¬ ((a.length:Int)=(b.length:Int)):=by simpa using h
  exact (decide_eq_false λe=>h<|by rw [e]).symm
 have h:(a.length:Int)=(b.length:Int):=by simpa using h
 refine Uc.sum (PS:=λ_=>a=b) (PW:=(· = Uu (a=b))) ?_ λ_ hn => .pure (decide_eq_true hn).symm;refine Uc.loop (λi=>∃ k:Nat,k<=a.length/\i=(k:Int)/\∀ j:Nat,j<k->a.getD j Uo=b.getD j Uo) (λi=>((a.length:Int)-i).toNat) ⟨0,by omega,rfl,λj hj=>absurd hj<|by omega⟩ λi ⟨k,h1,h2,h3⟩ => ?_;subst h2;unfold xe J;simp only [tnn];refine .bifD (λhk => .gdD ⟨by omega,hk⟩<|.gdD ⟨by omega,by omega⟩<|.bif (λhne => .pure ?_) λhe => .gdI (by omega)<|.pure ⟨⟨k+1,by omega,rfl,λj hj=>?_⟩,by omega⟩) λhk => .pure ?_
 ·have hne : ¬ a.getD k Uo=b.getD k Uo:=by simpa using hne
  exact (decide_eq_false λe=>hne<|by rw [e]).symm
 ·have he:a.getD k Uo=b.getD k Uo:=by simpa using he
  by_cases e:j=k
  ·rw [e];exact he
  exact h3 j (by omega)
 refine ZM (by omega) λj g1 g2=>?_;have := h3 j (by omega);rw [gdq,gdq,geq g1,geq g2] at this;exact this
theorem Jn {a b:LL} (ha:a.length<=1048576) (hr:∀ r∈a,r.length<=1048576):Uc (qm a b) (· = Uu (a=b)):=by
 unfold qm;refine .bif (λh => .pure ?_) λh=>?_
 ·have h : ¬ ((a.length:Int)=(b.length:Int)):=by simpa using h
  exact (decide_eq_false λe=>h<|by rw [e]).symm
 have h:(a.length:Int)=(b.length:Int):=by simpa using h
 refine Uc.sum (PS:=λ_=>a=b) (PW:=(· = Uu (a=b))) ?_ λ_ hn => .pure (decide_eq_true hn).symm;refine Uc.loop (λi=>∃ k:Nat,k<=a.length/\i=(k:Int)/\∀ j:Nat,j<k->a.getD j Uo=b.getD j Uo) (λi=>((a.length:Int)-i).toNat) ⟨0,by omega,rfl,λj hj=>absurd hj<|by omega⟩ λi ⟨k,h1,h2,h3⟩ => ?_;subst h2;unfold vR J;simp only [tnn];refine .bifD (λhk => .gdD ⟨by omega,hk⟩<|.gdD ⟨by omega,by omega⟩<|(FR<|hr _<|getD_in<|by omega).bind λv hv => .bif (λhne => .pure ?_) λhe => .gdI (by omega)<|.pure ⟨⟨k+1,by omega,rfl,λj hj=>?_⟩,by omega⟩) λhk => .pure ?_
 ·subst hv;have hne : ¬ a.getD k Uo=b.getD k Uo:=by simpa using hne
  exact (decide_eq_false λe=>hne<|by rw [e]).symm
 ·subst hv;have he:a.getD k Uo=b.getD k Uo:=by simpa using he
  by_cases e:j=k
  ·rw [e];exact he
  exact h3 j (by omega)
 refine ZM (by omega) λj g1 g2=>?_;have := h3 j (by omega);rw [gdq,gdq,geq g1,geq g2] at this;exact this
theorem FT:∀ {a b:LI},a.length=b.length->ltL a b->∃ k,k<a.length/\(∀ j,j<k->a.getD j Uo=b.getD j Uo)/\a.getD k Uo<b.getD k Uo
 | [],[],_,h=>by simp [ltL,cmpL] at h
 | x::a,y::b,hl,h=>by
  unfold ltL cmpL at h
  split at h
  ·exact ⟨0,by simp,λj hj=>by omega,by assumption⟩
  split at h
  ·exact absurd h (by decide)
  obtain ⟨k,h1,h2,h3⟩:=FT (a:=a) (b:=b) (by simpa using hl) h;refine ⟨k+1,by simp;omega,λj hj=>?_,h3⟩
  cases j with
  | zero=>show x=y;omega
  | succ j=>exact h2 j (by omega)
theorem H8 {q:LL} (hq:q.Pairwise ltL) (hn:q.length<=1048576) (hr:∀ a∈q,∀ b∈q,a.length=b.length) (hs:∀ a∈q,a.length<=1048576):Uc (oQ q) (· = Uq):=by
 unfold oQ;refine Uc.sum (PS:=λ_=>True) (PW:=(· = Uq)) ?_ λ_ _ => .pure rfl;refine Uc.loop (λz=>∃ i:Nat,1<=i/\z=(i:Int)) (λz=>((q.length:Int)-z).toNat) ⟨1,by omega,rfl⟩ λz ⟨i,h1,h2⟩ => ?_;subst h2;unfold uK J;refine .bifD (λhk=>?_) λhk => .pure trivial;have hi:i<q.length:=by omega
 have e1:((i:Int)-1).toNat=i-1:=by omega
 simp only [tnn,e1];have ma:=getD_in (l:=q) (i:=i-1) (by omega);have mb:=getD_in (l:=q) (i:=i) hi;have hlt:ltL (q.getD (i-1) Uo) (q.getD i Uo):=by
  have := ZQ.1 hq (i-1) i (by omega) hi (by omega);rw [gdq,gdq,geq hi,geq (show i-1<q.length by omega)];exact this
 have hlen:=hr _ ma _ mb;have hsa:=hs _ ma;obtain ⟨k,k1,k2,k3⟩:=FT hlen hlt;refine Uc.sum (PS:=λ_=>True) ?_ λ_ _ => .gdI (by omega)<|.pure ⟨⟨i+1,by omega,rfl⟩,by omega⟩;refine Uc.bind (P:=(· = (k:Int))) ?_ λv hv=>?_
 ·refine Uc.loop (λz=>∃ j:Nat,j<=k/\z=(j:Int)) (λz=>((k:Int)-z).toNat) ⟨0,by omega,rfl⟩ λz ⟨j,j1,j2⟩ => ?_;subst j2;unfold tO J;simp only [tnn,e1];refine Uc.sum (PS:=λ_=>j<k) ?_ λ_ hj => .gdI (by omega)<|.pure ⟨⟨j+1,by omega,rfl⟩,by omega⟩;refine Uc.bind (P:=λb:Bool=>b=Uu (j<k)) (.gdD ⟨by omega,hk⟩<|.bifD (λhj => .gdI (by omega)<|.gdD ⟨by omega,by omega⟩<|.gdD ⟨by omega,by omega⟩<|.gdD ⟨by omega,by omega⟩<|.pure ?_) λhj=>absurd (show (j:Int)<((q.getD i Uo).length:Int) by omega) hj) λb hb => .bif (λh => .pure ?_) λh => .pure ?_
  ·by_cases ej:j<k
   ·rw [decide_eq_true ej];exact beq_iff_eq.2<|k2 j ej
   rw [decide_eq_false ej];have : j=k:=by omega
   subst this;exact beq_eq_false_iff_ne.2 (by omega)
  ·rw [hb] at h;exact of_decide_eq_true h
  rw [hb] at h;have := of_decide_eq_false h;show (j:Int)=k;omega
 subst hv;simp only [tnn];refine Uc.bind (P:=(· = Ur)) (.gdD ⟨by omega,hk⟩<|.bif (λh=>?_) λh => .gdI (by omega)<|.gdD ⟨by omega,by omega⟩<|.gdD ⟨by omega,by omega⟩<|.gdD ⟨by omega,by omega⟩<|.pure<|decide_eq_false<|by omega) λv hv => .bif (λh=>by rw [hv] at h;cases h) λ_ => .pure trivial;have := eq_of_beq h;omega
theorem SN {b:LI} (hb:Bts b):gI b=Us Uq:=by
 refine Uc.eq ?_;unfold gI;refine .bifD (λ_ => .pure rfl) λ_=>(R3 hb).bind λp hp=>?_;have hsz:=hp.sz;obtain ⟨q,e1,e2,q0,q1⟩:=KO hsz;refine (Uc.of (P:=(· = q)) e1 rfl).bind λv3 h3=>(Uc.of (P:=(· = (Pz,Uq))) OU rfl).bind λv4 h4=>(Uc.of (P:=(· = q)) e2 rfl).bind λv5 h5=>?_;subst v3 v4 v5;have hfacts:q.Pairwise ltL/\q.length<=3000/\(∀ a∈q,∀ b∈q,a.length=b.length)/\(∀ a∈q,a.length<=1048576/\TrL p a)/\(bS (Uh p)=Ur->q=[]):=by
  cases hv:bS (Uh p) with
  | false=>
   obtain rfl:=q0 hv;exact ⟨.nil,by simp,by simp,by simp,λ_=>rfl⟩
  | true=>
   obtain ⟨g1,g2,g3⟩:=q1 hv;have hlen:∀ a∈q,a.length=mu p λ_=>0:=λa ha=>M4<|(g2 a).1 ha;have hm:=ML (PV.of hv) λ_=>0;exact ⟨g1,g3,λa ha b hb=>(hlen a ha).trans (hlen b hb).symm,λa ha=>⟨by rw [hlen a ha];omega,(g2 a).1 ha⟩,nofun⟩
 obtain ⟨g1,g2,g3,g4,g5⟩:=hfacts;refine (Jn (a:=q) (b:=q) (by omega) λr hr=>(g4 r hr).1).bind λv6 h6=>?_;rw [decide_eq_true rfl] at h6;subst h6;refine Uc.bind (P:=(· = Ur)) (.bif (λh=>by cases h) λ_ => .pure rfl) λv7 h7 => .bif (λh=>by rw [h7] at h;cases h) λ_=>?_;refine Uc.sum (PS:=λ_=>True) (PW:=(· = Uq)) ?_ λ_ _=>(H8 g1 (by omega) g3 λa ha=>(g4 a ha).1).bind λv23 h23=>?_
 ·refine Uc.loop (λz=>∃ i:Nat,i<=q.length/\z=(i:Int)) (λz=>((q.length:Int)-z).toNat) ⟨0,by omega,rfl⟩ λz ⟨i,h1,h2⟩ => ?_;subst h2;unfold pz J;simp only [tnn];refine .bifD (λhk=>?_) λhk => .pure trivial;obtain ⟨a1,a2⟩:=g4 _<|getD_in (l:=q) (i:=i) (by omega);refine .gdD ⟨by omega,hk⟩<|(KX hsz a2 a1).bind λv17 h17=>?_;subst h17;refine Uc.bind (P:=(· = Ur)) (.bif (λh=>by cases h) λ_=>(FR a1).bind λv hv => .pure<|by rw [hv,decide_eq_true rfl];rfl) λv hv => .bif (λh=>by rw [hv] at h;cases h) λ_ => .gdI (by omega) (.pure ⟨⟨i+1,by omega,rfl⟩,by omega⟩)
 subst h23;refine Uc.bind (P:=(· = Uq)) (.bif (λ_=>?_) λh=>by cases h) λv hv => .pure hv
 cases hv:bS (Uh p) with
 | false=>
  obtain rfl:=g5 hv;have hV:aU p=Us Ur:=by rw [show aU p=Us (bS<|Uh p) from qO (decide_eq_true hsz),hv]
  refine Uc.bind (P:=(· = [])) ?_ λv hv => .pure (by rw [hv];rfl);unfold fF;refine (Uc.of (P:=(· = Ur)) hV rfl).bind λv1 h1=>?_;subst h1;exact Uc.bind (P:=(· = Uq)) (.bif (λ_ => .pure rfl) λh=>by cases h) λv hv => .bif (λ_ => .pure rfl) λh=>by rw [hv] at h;cases h
 | true=>
  obtain ⟨_,k2,_⟩:=q1 hv;refine (EW hv hsz).bind λv26 h26 => .pure ?_;rw [h26,H6 hv (g1.imp λh=>Mh h) k2];exact beq_self_eq_true _
theorem Uk:TyF Uv 3 Ur 1:=⟨by kernel_rfl,by kernel_rfl,by kernel_rfl,by kernel_rfl⟩
theorem zs3:TyZ Uv 3 [I (0:Int)]:=⟨by kernel_rfl,by kernel_rfl⟩
theorem ty4:TyF Uv 4 Ur 1:=⟨by kernel_rfl,by kernel_rfl,by kernel_rfl,by kernel_rfl⟩
theorem zs4:TyZ Uv 4 [Bo Ur]:=⟨by kernel_rfl,by kernel_rfl⟩
theorem bt4:zz Uv 4=Uq:=by kernel_rfl
theorem ty5:TyF Uv 5 Ur 1:=⟨by kernel_rfl,by kernel_rfl,by kernel_rfl,by kernel_rfl⟩
theorem zs5:TyZ Uv 5 [Y (0:Int)]:=⟨by kernel_rfl,by kernel_rfl⟩
theorem ty9:TyF Uv 9 Ur 1:=⟨by kernel_rfl,by kernel_rfl,by kernel_rfl,by kernel_rfl⟩
theorem zs9:TyZ Uv 9 [St (⟨#[]⟩:BA)]:=⟨by kernel_rfl,by kernel_rfl⟩
theorem PE:TyF Uv 22 Ur 1:=⟨by kernel_rfl,by kernel_rfl,by kernel_rfl,by kernel_rfl⟩
theorem SR:TyF Uv 23 Ur 1:=⟨by kernel_rfl,by kernel_rfl,by kernel_rfl,by kernel_rfl⟩
theorem QR:TyF Uv 25 Ur 1:=⟨by kernel_rfl,by kernel_rfl,by kernel_rfl,by kernel_rfl⟩
theorem TA:TyZ Uv 25 [.nil]:=⟨by kernel_rfl,by kernel_rfl⟩
theorem CH:TyF Uv 31 Ur 1:=⟨by kernel_rfl,by kernel_rfl,by kernel_rfl,by kernel_rfl⟩
theorem TB:TyZ Uv 31 [.nil]:=⟨by kernel_rfl,by kernel_rfl⟩
theorem KY:TyF Uv 46 Uq 2:=⟨by kernel_rfl,by kernel_rfl,by kernel_rfl,by kernel_rfl⟩
theorem PF:TyZ Uv 46 [.nil,.nil]:=⟨by kernel_rfl,by kernel_rfl⟩
theorem NP:TyS Uv 46 [(0,1),(1,1)]:=⟨by kernel_rfl⟩
theorem TC:TyZ Uv 59 [.nil,I (0:Int)]:=⟨by kernel_rfl,by kernel_rfl⟩
theorem K8:TyS Uv 59 [(0,1),(1,1)]:=⟨by kernel_rfl⟩
theorem NQ:TyF Uv 62 Ur 1:=⟨by kernel_rfl,by kernel_rfl,by kernel_rfl,by kernel_rfl⟩
theorem TD:TyZ Uv 62 [.nil]:=⟨by kernel_rfl,by kernel_rfl⟩
theorem Ik:TyF Uv 65 Uq 4:=⟨by kernel_rfl,by kernel_rfl,by kernel_rfl,by kernel_rfl⟩
theorem PG:TyZ Uv 65 [I (0:Int),I (0:Int),I (0:Int),I (0:Int)]:=⟨by kernel_rfl,by kernel_rfl⟩
theorem QS:TyS Uv 65 [(0,1),(1,1),(2,1),(3,1)]:=⟨by kernel_rfl⟩
theorem Tn:TyF Uv 72 Ur 1:=⟨by kernel_rfl,by kernel_rfl,by kernel_rfl,by kernel_rfl⟩
theorem TE:TyZ Uv 72 [.nil]:=⟨by kernel_rfl,by kernel_rfl⟩
theorem SS:TyF Uv 75 Uq 5:=⟨by kernel_rfl,by kernel_rfl,by kernel_rfl,by kernel_rfl⟩
theorem SU:TyZ Uv 75 [I (0:Int),I (0:Int),I (0:Int),Bo Ur,Bo Ur]:=⟨by kernel_rfl,by kernel_rfl⟩
theorem Tp:TyS Uv 75 [(0,1),(1,1),(2,1),(3,1),(4,1)]:=⟨by kernel_rfl⟩
theorem Tq:TyZ Uv 88 [I (0:Int),I (0:Int),I (0:Int)]:=⟨by kernel_rfl,by kernel_rfl⟩
theorem H9:TyF Uv 100 Uq 3:=⟨by kernel_rfl,by kernel_rfl,by kernel_rfl,by kernel_rfl⟩
theorem SV:TyZ Uv 100 [I (0:Int),St (⟨#[]⟩:BA),.nil]:=⟨by kernel_rfl,by kernel_rfl⟩
theorem SW:TyF Uv 104 Uq 4:=⟨by kernel_rfl,by kernel_rfl,by kernel_rfl,by kernel_rfl⟩
theorem SX:TyZ Uv 104 [I (0:Int),I (0:Int),St (⟨#[]⟩:BA),.nil]:=⟨by kernel_rfl,by kernel_rfl⟩
theorem SY:TyF Uv 171 Ur 1:=⟨by kernel_rfl,by kernel_rfl,by kernel_rfl,by kernel_rfl⟩
theorem SZ:TyF Uv 193 Uq 3:=⟨by kernel_rfl,by kernel_rfl,by kernel_rfl,by kernel_rfl⟩
theorem KZ:SlT Uv 22 5 Ur 1 [Y (0:Int)] 1:=⟨Tryz.underlying22,ty5,zs5,rfl,rfl,by kernel_rfl⟩
theorem CI:SlT Uv 23 62 Ur 1 [.nil] 24:=⟨Tryz.underlying23,NQ,TD,rfl,rfl,by kernel_rfl⟩
theorem vo:SlT Uv 25 31 Ur 1 [.nil] 24:=⟨Tryz.underlying25,CH,TB,rfl,rfl,by kernel_rfl⟩
theorem TH:SlT Uv 27 104 Uq 4 [I (0:Int),I (0:Int),St (⟨#[]⟩:BA),.nil] 56:=⟨Tryz.underlying27,SW,SX,rfl,rfl,by kernel_rfl⟩
theorem lK:SlT Uv 31 3 Ur 1 [I (0:Int)] 8:=⟨Tryz.underlying31,Uk,zs3,rfl,rfl,by kernel_rfl⟩
theorem QT:SlT Uv 36 46 Uq 2 [.nil,.nil] 48:=⟨Tryz.underlying36,KY,PF,rfl,rfl,by kernel_rfl⟩
theorem Gy:SlT Uv 62 65 Uq 4 [I (0:Int),I (0:Int),I (0:Int),I (0:Int)] 32:=⟨Tryz.underlying62,Ik,PG,rfl,rfl,by kernel_rfl⟩
theorem K9:SlT Uv 72 75 Uq 5 [I (0:Int),I (0:Int),I (0:Int),Bo Ur,Bo Ur] 32:=⟨Tryz.underlying72,SS,SU,rfl,rfl,by kernel_rfl⟩
theorem PH:SlT Uv 79 25 Ur 1 [.nil] 24:=⟨Tryz.underlying79,QR,TA,rfl,rfl,by kernel_rfl⟩
theorem Tt:KeyA Uv 88 3 kI3:=by
 obtain ⟨i,hi⟩:=Option.isSome_iff_exists.1 (show (Uv.info? 3).isSome=Uq by kernel_rfl);exact SA Tryz.underlying88 Tryz.underlying3 (by kernel_rfl) hi (by kernel_rfl)
theorem R4:SlT Uv 92 9 Ur 1 [St (⟨#[]⟩:BA)] 16:=⟨Tryz.underlying92,ty9,zs9,rfl,rfl,by kernel_rfl⟩
theorem O3:SlT Uv 98 100 Uq 3 [I (0:Int),St (⟨#[]⟩:BA),.nil] 48:=⟨Tryz.underlying98,H9,SV,rfl,rfl,by kernel_rfl⟩
theorem S0:SlT Uv 151 4 Ur 1 [Bo Ur] 1:=⟨Tryz.underlying151,ty4,zs4,rfl,rfl,by kernel_rfl⟩
end
end Go.Proofs.YtdmahcaohkplcaaGreatDoor
