/- Texts joined. No conditions. -/
import Derived.Test.YtjcmfddobaplbaaGreatV5
namespace Go.Proofs.YtjcmfddobaplbaaGreat
noncomputable section
open _root_.Option renaming bind -> Mw, getD_some -> MX, bind_eq_some_iff -> Nv
open _root_.Int renaming le_refl -> Mx, toNat_of_nonneg -> Na, mul_tdiv_add_tmod -> Nb
open _root_.List renaming range -> My, mem_cons_self -> MB, mem_flatMap -> MC, mem_cons -> MF, getElem_mem -> MG, isEmpty_iff -> MH, not_mem_nil -> MI, mem_range -> MJ, mem_map -> MK, mem_singleton -> ML, all_eq_true -> MM, range_succ -> MN, map_cons -> MO, getElem_of_mem -> MP, flatMap_cons -> MQ, map_append -> MR, map_congr_left -> MS, mem_cons_of_mem -> MU, append_assoc -> M0, map_map -> M3, map_id -> M4, mem_append -> M5, isEmpty_eq_false_iff -> M7, mem_filter -> M8, flatMap_append -> M9, mem_of_getElem? -> Nc, eq_nil_of_length_eq_zero -> Nf, length_singleton -> Ng, cons_append -> Nh, filter_cons_of_pos -> Ni, filter_cons_of_neg -> Nj, length_filter_le -> Nk, getElem?_set_ne -> Nn, map_eq_nil_iff -> Np, mem_or_eq_of_mem_set -> Nq, mem_of_mem_drop -> Nr, exists_cons_of_ne_nil -> Ns, eq_nil_iff_forall_not_mem -> Nt, length_pos_iff -> Nu
open _root_.Nat renaming le_trans -> ME, mul_le_mul_right -> MV, zero_le -> MW, lt_or_ge -> M6, pow_le_pow_right -> Nl
open _root_.BitVec renaming ofInt -> MZ
open Go.RowKit
set_option maxRecDepth 100000
structure Iv (p:List (List Ji)) (u:Jj):Prop where
 up:u.p=p
 pc:∀ t:Nat,t<3->0<=Z3b.get u.pc t/\Z3b.get u.pc t<=((p.getD t default).length:Int)
 rv:∀ t g:Nat,t<3->g<3->0<=Z3b.get (Z33.get u.reg t) g/\Z3b.get (Z33.get u.reg t) g<=3
 mv:∀ l:Nat,l<3->0<=Z3b.get u.mem l/\Z3b.get u.mem l<=3
def m7 (u:Jj) (t:Nat):Bool:=decide<|Z3b.get u.pc t<((u.p.getD t default).length:Int)
def Ah (u:Jj) (n:Nat):LI:=((My n).filter<|m7 u).map Int.ofNat
def qb (u:Jj):LI:=Ah u u.p.length
def iE (u:Jj) (t:Int):Ji:=(u.p.getD t.toNat default).getD (Z3b.get u.pc t).toNat default
def qP (u:Jj) (n:Nat):LI:=(My n).flatMap λt:Nat=>(My 3).map λg:Nat=>Z3b.get (Z33.get u.reg t) g
def Gy (u:Jj):LI:=(My 3).map λl:Nat=>Z3b.get u.mem l
def wG (u:Jj):LI:=qP u u.p.length++Gy u
def keyL (u:Jj):LI:=[u.pc.x0,u.pc.x1,u.pc.x2,u.reg.x0.x0,u.reg.x0.x1,u.reg.x0.x2,u.reg.x1.x0,u.reg.x1.x1,u.reg.x1.x2,u.reg.x2.x0,u.reg.x2.x1,u.reg.x2.x2,u.mem.x0,u.mem.x1,u.mem.x2]
def Gz:Mac Jk where
 mv s:=qb s.values
 af s t:=⟨BA s.values t<|iE s.values t⟩
 ky s:=strOfNums<|keyL s.values
 dn s:=(qb s.values).isEmpty
 oc s:=wG s.values
section
variable {p:List (List Ji)} {u:Jj}
theorem iF {n:Nat} {m:Int}:m∈Ah u n↔∃ t:Nat,t<n/\m=t/\m7 u t=true:=by
 unfold Ah;rw [MK]
 constructor
 ·rintro ⟨t,ht,rfl⟩;rw [M8,MJ] at ht;exact ⟨t,ht.1,rfl,ht.2⟩
 rintro ⟨t,h1,rfl,h2⟩;exact ⟨t,M8.2 ⟨MJ.2 h1,h2⟩,rfl⟩
theorem sG (n:Nat):Ah u (n+1)=if m7 u n=true then Ah u n++[(n:Int)] else Ah u n:=by
 unfold Ah;rw [MN,List.filter_append,MR]
 split
 ·rename_i h;rw [Ni h]
  rfl
 rename_i h;rw [Nj h];simp
theorem yM (n:Nat):(Ah u n).length<=n:=by
 unfold Ah;rw [llm];exact ME (Nk _ _) (by simp)
theorem xE (hp:PV p) (h:Iv p u) {t:Nat} (ht:t<p.length):Jl (aZ u t) λv=>v.2=m7 u t/\(v.2=true->v.1=iE u t):=by
 have hl:=hp.vs.1;have hr:=hp.vs.2 t;have h1:=h.pc t (by omega);unfold aZ m7 iE;rw [h.up];simp only [tnn];refine .gdD ⟨by omega,by omega⟩<|.gdI (by omega)<|.gdD ⟨by omega,by omega⟩<|.bifD (λhle => .pure ⟨?_,nofun⟩) λhle => .gdD ⟨h1.1,by omega⟩<|.pure ⟨?_,λ_=>rfl⟩
 ·rw [decide_eq_false (by omega)]
 rw [decide_eq_true (by omega)]
theorem GA (hp:PV p) (h:Iv p u):Jl (dJ ⟨u⟩) (· = qb u):=by
 have hl:=hp.vs.1;unfold dJ;refine Jl.bind (P:=(· = qb u)) ?_ λv hv => .pure hv;refine Jl.loop (λs=>(0<=s.2/\s.2<=(p.length:Int))/\s.1=Ah u s.2.toNat) (λs=>((p.length:Int)-s.2).toNat) ⟨⟨Mx _,by simp only [];omega⟩,rfl⟩ λs ⟨⟨h1,h2⟩,h3⟩ => ?_;unfold ij;simp only [h.up];refine .bifD (λhlt=>?_) λhge => .pure ?_
 ·obtain ⟨l,i⟩:=s;simp only at h1 h2 h3 hlt;obtain ⟨n,rfl⟩:∃ n:Nat,i=n:=⟨i.toNat,by omega⟩;simp only [tnn] at h3;subst h3;have hln:=yM (u:=u) n;refine Jl.bind (P:=(· = Ah u (n+1))) ?_ λv hv => .gdI (by omega)<|.pure ⟨⟨⟨by simp only [];omega,by simp only [];omega⟩,hv⟩,by simp only [];omega⟩;refine (xE hp h<|by omega).bind λv ⟨e1,_⟩ => .bif (λhb => .gd (dM (by simp only [];omega) rfl)<|.pure ?_) λhb => .pure ?_
  ·rw [sG,if_pos (by rw [<- e1,hb])]
  rw [sG,if_neg (by rw [<- e1,hb];decide)]
 rw [h3];unfold qb;rw [h.up,show s.2.toNat=p.length by omega]
theorem GD (hp:PV p) (h:Iv p u):Jl (cG ⟨u⟩) (· = (qb u).isEmpty):=by
 have hl:=hp.vs.1;unfold cG;refine Jl.bind (P:=(· = (qb u).isEmpty)) ?_ λv hv => .pure hv;unfold bh;refine Jl.sum (PS:=λ_=>qb u=[]) (PW:=(· = (qb u).isEmpty)) ?_ λ_ hn => .pure (by rw [hn];rfl);refine Jl.loop (λi=>(0<=i/\i<=(p.length:Int))/\Ah u i.toNat=[]) (λi=>((p.length:Int)-i).toNat) ⟨⟨Mx _,by omega⟩,rfl⟩ λi ⟨⟨h1,h2⟩,h3⟩ => ?_;unfold il;simp only [h.up];refine .bifD (λhlt=>?_) λhge => .pure ?_
 ·obtain ⟨n,rfl⟩:∃ n:Nat,i=n:=⟨i.toNat,by omega⟩;simp only [tnn] at h3;refine (xE hp h<|by omega).bind λv ⟨e1,_⟩ => .bif (λhb => .pure ?_) λhb => .gdI (by omega)<|.pure ⟨⟨⟨by omega,by omega⟩,?_⟩,by omega⟩
  ·have hm:(n:Int)∈qb u:=iF.2 ⟨n,by rw [h.up];omega,rfl,by rw [<- e1,hb]⟩
   cases e:qb u with
   | nil=>rw [e] at hm;cases hm
   | cons a l=>rfl
  rw [show ((n:Int)+1).toNat=n+1 by omega,sG,if_neg (by rw [<- e1,hb];decide),h3]
 simp only [];unfold qb;rw [h.up,<- show i.toNat=p.length by omega,h3]
theorem uC (n:Nat):qP u (n+1)=qP u n++(My 3).map λg:Nat=>Z3b.get (Z33.get u.reg n) g:=by
 unfold qP;rw [show My (n+1)=My n++[n] from MN,M9];simp
theorem sH (n:Nat):(qP u n).length=3*n:=by
 induction n with
 | zero=>rfl
 | succ n ih=>rw [uC,lla,ih];simp;omega
theorem uW (hp:PV p) (h:Iv p u):Jl (aN u) (· = wG u):=by
 have hl:=hp.vs.1;unfold aN;refine Jl.bind (P:=(· = qP u p.length)) ?_ λv hv=>?_
 ·refine Jl.loop (λs=>(0<=s.2/\s.2<=(p.length:Int))/\s.1=qP u s.2.toNat) (λs=>((p.length:Int)-s.2).toNat) ⟨⟨Mx _,by simp only [];omega⟩,rfl⟩ λs ⟨⟨h1,h2⟩,h3⟩ => ?_;unfold bS;simp only [h.up];refine .bifD (λhlt=>?_) λhge => .pure ?_
  ·obtain ⟨l,i⟩:=s;simp only at h1 h2 h3 hlt;obtain ⟨n,rfl⟩:∃ n:Nat,i=n:=⟨i.toNat,by omega⟩;simp only [tnn] at h3;subst h3;have hln:=sH (u:=u) n;refine Jl.bind (P:=(· = qP u (n+1))) ?_ λv hv => .gdI (by omega)<|.pure ⟨⟨⟨by simp only [];omega,by simp only [];omega⟩,hv⟩,by simp only [];omega⟩;refine .gdD ⟨by omega,by omega⟩<|Jl.loop (λs=>(0<=s.2/\s.2<=3)/\s.1=qP u n++(My s.2.toNat).map λg:Nat=>Z3b.get (Z33.get u.reg n) g) (λs=>((3:Int)-s.2).toNat) ⟨⟨Mx _,(by decide:(0:Int)<=3)⟩,by simp⟩ λs ⟨⟨a1,a2⟩,a3⟩ => ?_;unfold dR;simp only [];refine .bifD (λhlt=>?_) λhge => .pure ?_
   ·obtain ⟨l,j⟩:=s;simp only at a1 a2 a3 hlt;obtain ⟨g,rfl⟩:∃ g:Nat,j=g:=⟨j.toNat,by omega⟩;simp only [tnn] at a3;subst a3;have hv:=h.rv n g (by omega) (by omega);refine .gdD ⟨by omega,hlt⟩<|.gdI (by first | omega | (simp only [];omega))<|.gd (dM (by simp;omega) rfl)<|.gdI (by omega)<|.pure ⟨⟨⟨by simp only [];omega,by simp only [];omega⟩,?_⟩,by simp only [];omega⟩;simp only [];rw [show ((g:Int)+1).toNat=g+1 by omega,MN,MR,<- M0]
    rfl
   rw [a3,uC,show s.2.toNat=3 by omega]
  rw [h3,show s.2.toNat=p.length by omega]
 subst hv;refine Jl.bind (P:=(· = wG u)) ?_ λv hv => .pure hv;have hln:=sH (u:=u) p.length;refine Jl.loop (λs=>(0<=s.2/\s.2<=3)/\s.1=qP u p.length++(My s.2.toNat).map λg:Nat=>Z3b.get u.mem g) (λs=>((3:Int)-s.2).toNat) ⟨⟨Mx _,(by decide:(0:Int)<=3)⟩,by simp⟩ λs ⟨⟨a1,a2⟩,a3⟩ => ?_;unfold bM;refine .bifD (λhlt=>?_) λhge => .pure ?_
 ·obtain ⟨l,j⟩:=s;simp only at a1 a2 a3 hlt;obtain ⟨g,rfl⟩:∃ g:Nat,j=g:=⟨j.toNat,by omega⟩;simp only [tnn] at a3;subst a3;have hv:=h.mv g (by omega);refine .gdD ⟨by omega,hlt⟩<|.gdI (by first | omega | (simp only [];omega))<|.gd (dM (by simp;omega) rfl)<|.gdI (by omega)<|.pure ⟨⟨⟨by simp only [];omega,by simp only [];omega⟩,?_⟩,by simp only [];omega⟩;simp only [];rw [show ((g:Int)+1).toNat=g+1 by omega,MN,MR,<- M0]
  rfl
 rw [a3,show s.2.toNat=3 by omega];unfold wG Gy;rw [h.up]
theorem yN (u:Jj):Jl (cF ⟨u⟩) (· = strOfNums (keyL u)):=by
 unfold cF bI;refine Jl.bind (P:=(· = strOfNums (keyL u))) (.gd rfl ?_) λv hv => .pure hv;refine Jl.bind (P:=λl=>l=[u.pc.x0,u.pc.x1,u.pc.x2,u.reg.x0.x0,u.reg.x0.x1,u.reg.x0.x2,u.reg.x1.x0,u.reg.x1.x1,u.reg.x1.x2,u.reg.x2.x0,u.reg.x2.x1,u.reg.x2.x2]) ?_ λv hv=>?_
 ·refine Jl.of (v:=[u.pc.x0,u.pc.x1,u.pc.x2,u.reg.x0.x0,u.reg.x0.x1,u.reg.x0.x2,u.reg.x1.x0,u.reg.x1.x1,u.reg.x1.x2,u.reg.x2.x0,u.reg.x2.x1,u.reg.x2.x2]) ?_ rfl
  exact Bb (step:=gm u) (λi=>match i with
   | 0=>([u.pc.x0,u.pc.x1,u.pc.x2],0)
   | 1=>([u.pc.x0,u.pc.x1,u.pc.x2,u.reg.x0.x0,u.reg.x0.x1,u.reg.x0.x2],1)
   | 2=>([u.pc.x0,u.pc.x1,u.pc.x2,u.reg.x0.x0,u.reg.x0.x1,u.reg.x0.x2,u.reg.x1.x0,u.reg.x1.x1,u.reg.x1.x2],2)
   | _=>([u.pc.x0,u.pc.x1,u.pc.x2,u.reg.x0.x0,u.reg.x0.x1,u.reg.x0.x2,u.reg.x1.x0,u.reg.x1.x1,u.reg.x1.x2,u.reg.x2.x0,u.reg.x2.x1,u.reg.x2.x2],3)) 3 (λi hi=>match i,hi with
   | 0,_=>rfl
   | 1,_=>rfl
   | 2,_=>rfl) rfl
 subst hv;exact .gd rfl<|.pure rfl
theorem lI:∀ {l k:LI},(∀ x∈l,0<=x/\x<=255)->(∀ x∈k,0<=x/\x<=255)->strOfNums l=strOfNums k->l=k:=λ{l k} hl hk h=>by
 have h1:(l.map λn=>UInt8.ofNat n.toNat)=k.map λn=>UInt8.ofNat n.toNat:=by
  rw [<- strOfNums_data,<- strOfNums_data,h]
 have h2:(l.map λn=>UInt8.ofNat n.toNat).map (λb=>(b.toNat:Int))=(k.map λn=>UInt8.ofNat n.toNat).map (λb=>(b.toNat:Int)):=by rw [h1]
 have back:∀ l:LI,(∀ x∈l,0<=x/\x<=255)->(l.map λn=>UInt8.ofNat n.toNat).map (λb=>(b.toNat:Int))=l:=λl hl=>by
  rw [M3]
  conv=>rhs;rw [<- M4 l]
  refine MS λx hx=>?_;have := hl x hx;simp only [Function.comp,UInt8.toNat_ofNat',id];omega
 rwa [back l hl,back k hk] at h2
theorem IL (a:Z3b):Z3b.get a ((0:Nat):Int)=a.x0:=rfl
theorem IM (a:Z3b):Z3b.get a ((1:Nat):Int)=a.x1:=rfl
theorem IP (a:Z3b):Z3b.get a ((2:Nat):Int)=a.x2:=rfl
theorem Iv.keyL (hp:PV p) (h:Iv p u):∃ d:List Nat,Go.Proofs.YtjcmfddobaplbaaGreat.keyL u=d.map Int.ofNat/\d.length=15/\∀ x∈d.zip [8,8,8,4,4,4,4,4,4,4,4,4,4,4,4],x.1<x.2:=by
 have e:∀ x:Int,0<=x->x=Int.ofNat x.toNat:=λx hx=>(Na hx).symm;have hv:=hp.vs.2;have p0:=h.pc 0 (by decide);have p1:=h.pc 1 (by decide);have p2:=h.pc 2 (by decide);have v0:=hv 0;have v1:=hv 1;have v2:=hv 2;have r00:=h.rv 0 0 (by decide) (by decide);have r01:=h.rv 0 1 (by decide) (by decide);have r02:=h.rv 0 2 (by decide) (by decide);have r10:=h.rv 1 0 (by decide) (by decide);have r11:=h.rv 1 1 (by decide) (by decide);have r12:=h.rv 1 2 (by decide) (by decide);have r20:=h.rv 2 0 (by decide) (by decide);have r21:=h.rv 2 1 (by decide) (by decide);have r22:=h.rv 2 2 (by decide) (by decide);have m0:=h.mv 0 (by decide);have m1:=h.mv 1 (by decide);have m2:=h.mv 2 (by decide);change 0<=u.pc.x0/\u.pc.x0<=_ at p0;change 0<=u.pc.x1/\u.pc.x1<=_ at p1;change 0<=u.pc.x2/\u.pc.x2<=_ at p2;change 0<=u.reg.x0.x0/\u.reg.x0.x0<=_ at r00;change 0<=u.reg.x0.x1/\u.reg.x0.x1<=_ at r01;change 0<=u.reg.x0.x2/\u.reg.x0.x2<=_ at r02;change 0<=u.reg.x1.x0/\u.reg.x1.x0<=_ at r10;change 0<=u.reg.x1.x1/\u.reg.x1.x1<=_ at r11;change 0<=u.reg.x1.x2/\u.reg.x1.x2<=_ at r12;change 0<=u.reg.x2.x0/\u.reg.x2.x0<=_ at r20;change 0<=u.reg.x2.x1/\u.reg.x2.x1<=_ at r21;change 0<=u.reg.x2.x2/\u.reg.x2.x2<=_ at r22;change 0<=u.mem.x0/\u.mem.x0<=_ at m0;change 0<=u.mem.x1/\u.mem.x1<=_ at m1;change 0<=u.mem.x2/\u.mem.x2<=_ at m2;refine ⟨(Go.Proofs.YtjcmfddobaplbaaGreat.keyL u).map Int.toNat,?_,rfl,?_⟩
 ·unfold Go.Proofs.YtjcmfddobaplbaaGreat.keyL;simp only [MO,List.map_nil];rw [<- e _ p0.1,<- e _ p1.1,<- e _ p2.1,<- e _ r00.1,<- e _ r01.1,<- e _ r02.1,<- e _ r10.1,<- e _ r11.1,<- e _ r12.1,<- e _ r20.1,<- e _ r21.1,<- e _ r22.1,<- e _ m0.1,<- e _ m1.1,<- e _ m2.1]
 unfold Go.Proofs.YtjcmfddobaplbaaGreat.keyL;simp only [MO,List.map_nil,List.zip_cons_cons,List.zip_nil_left,MF,MI,or_false,forall_eq_or_imp,forall_eq];refine ⟨?_,?_,?_,?_,?_,?_,?_,?_,?_,?_,?_,?_,?_,?_,?_⟩ <;> omega
theorem ru {u v:Jj} (hp:u.p=v.p) (h:keyL u=keyL v):u=v:=by
 obtain ⟨p,⟨a0,a1,a2⟩,⟨⟨b0,b1,b2⟩,⟨c0,c1,c2⟩,⟨d0,d1,d2⟩⟩,⟨e0,e1,e2⟩⟩:=u;obtain ⟨p',⟨a0',a1',a2'⟩,⟨⟨b0',b1',b2'⟩,⟨c0',c1',c2'⟩,⟨d0',d1',d2'⟩⟩,⟨e0',e1',e2'⟩⟩:=v;simp only [keyL,List.cons.injEq,and_true] at h;obtain ⟨rfl,rfl,rfl,rfl,rfl,rfl,rfl,rfl,rfl,rfl,rfl,rfl,rfl,rfl,rfl⟩:=h;simp only at hp;subst hp
 rfl
end
section
variable {p:List (List Ji)} {u:Jj}
theorem Iv.ins (hp:PV p) (h:Iv p u) {t:Nat} (ht:t<p.length) (hc:m7 u t=true):InR (iE u t):=by
 have hl:=hp.vs.1;have h1:=h.pc t (by omega);unfold m7 at hc;rw [h.up] at hc;have hc:=of_decide_eq_true hc;unfold iE;rw [h.up,tnn];exact hp.ins t _ ht (by omega)
theorem GF (hp:PV p) (h:Iv p u) {t:Nat} (ht:t<p.length) (hc:m7 u t=true):Jl (dK ⟨u⟩ t) (· = ⟨BA u t<|iE u t⟩):=by
 have hl:=hp.vs.1;have hr7:=hp.vs.2 t;have h1:=h.pc t (by omega);have hx:=h.ins hp ht hc;unfold dK;refine (xE hp h ht).bind λv ⟨e1,e2⟩ => ?_;have e3:=e2<|e1.trans hc;rw [<- e3] at hx ⊢;generalize v.1=x at hx ⊢;obtain ⟨x1,x2,x3,x4,x5,x6⟩:=hx;refine .gdD ⟨by omega,by omega⟩<|.gdY (by simp only [];omega) ?_;refine Jl.bind (P:=(· = pK u t x)) ?_ λv4 hv4=>?_
 ·unfold bz pK;refine .bif (λho => .gdD ⟨by omega,by omega⟩<|.gdD ⟨x3,by simp only [];omega⟩<|.pure ?_) λho => .gdY (by simp only [];omega) (.pure ?_)
  ·rw [if_pos (by simpa using ho)]
  rw [if_neg (by simpa using ho)]
 subst hv4;refine Jl.bind (P:=λw=>(⟨⟨w.1,w.2.1,w.2.2.1⟩,⟨w.2.2.2.1,w.2.2.2.2.1,w.2.2.2.2.2.1⟩,⟨w.2.2.2.2.2.2.1,w.2.2.2.2.2.2.2.1,w.2.2.2.2.2.2.2.2⟩⟩:Z33)=if rdX x=true then Z33.set u.reg t (Z3b.set (Z33.get u.reg t) x.Reg<|Z3b.get u.mem x.Loc) else u.reg) ?_ λw5 hw5=>?_
 ·refine (Bx _).bind λb hb=>?_;have hb':b=rdX x:=hb;refine .bif (λhc => .gdD ⟨x1,by omega⟩<|.gdD ⟨x3,by omega⟩<|.pure ?_) λhc => .pure ?_
  ·rw [if_pos (by rw [<- hb'];exact hc)]
  rw [if_neg (by rw [<- hb',hc];decide)]
 refine Jl.bind (P:=λw=>(⟨w.1,w.2.1,w.2.2⟩:Z3b)=if wrX x=true then Z3b.set u.mem x.Loc (pK u t x) else u.mem) ?_ λw10 hw10 => .pure ?_
 ·refine (EW _).bind λb hb=>?_;have hb':b=wrX x:=hb;refine .bif (λhc => .gdD ⟨x1,by omega⟩<|.pure ?_) λhc => .pure ?_
  ·rw [if_pos (by rw [<- hb'];exact hc)]
  rw [if_neg (by rw [<- hb',hc];decide)]
 unfold BA;rw [hw5,hw10]
theorem Iv.after (h:Iv p u) {t:Nat} (ht:t<3) (hc:m7 u t=true) {x:Ji} (hx:InR x):Iv p (BA u t x):=by
 obtain ⟨x1,x2,x3,x4,x5,x6⟩:=hx;obtain ⟨l,hlx⟩:∃ l:Nat,x.Loc=l:=⟨x.Loc.toNat,by omega⟩;obtain ⟨g,hgx⟩:∃ g:Nat,x.Reg=g:=⟨x.Reg.toNat,by omega⟩;unfold m7 at hc;rw [h.up] at hc;have hc:=of_decide_eq_true hc;have hvv:0<=pK u t x/\pK u t x<=3:=by
  unfold pK
  split
  ·rw [hgx];exact h.rv t g ht (by omega)
  omega
 unfold BA;refine ⟨h.up,λi hi=>?_,λt' g' ht' hg' => ?_,λl' hl' => ?_⟩
 ·simp only [];rw [ju _ _ _ _ (by omega) (by omega)]
  by_cases e:i=t
  ·subst e;have := h.pc i hi;rw [if_pos rfl];omega
  rw [if_neg (by omega)];exact h.pc i hi
 ·simp only []
  split
  ·rw [oO _ _ _ _ (by omega) (by omega)]
   by_cases e:t'=t
   ·subst e;rw [if_pos rfl,hgx,ju _ _ _ _ (by omega) (by omega)]
    by_cases e2:g'=g
    ·subst e2;rw [if_pos rfl,hlx];exact h.mv l (by omega)
    rw [if_neg (by omega)];exact h.rv t' g' ht' hg'
   rw [if_neg (by omega)];exact h.rv t' g' ht' hg'
  exact h.rv t' g' ht' hg'
 simp only []
 split
 ·rw [hlx,ju _ _ _ _ (by omega) (by omega)]
  split
  ·exact hvv
  exact h.mv l' hl'
 exact h.mv l' hl'
def v0 (p:List<|List Ji):Jj:=⟨p,⟨0,0,0⟩,⟨⟨0,0,0⟩,⟨0,0,0⟩,⟨0,0,0⟩⟩,⟨0,0,0⟩⟩
theorem z3 (i:Int):Z3b.get ⟨0,0,0⟩ i=0:=by
 simp only [Z3b.get]
 split <;> (try split) <;> rfl
theorem z33 (i:Int):Z33.get ⟨⟨0,0,0⟩,⟨0,0,0⟩,⟨0,0,0⟩⟩ i=⟨0,0,0⟩:=by
 simp only [Z33.get]
 split <;> (try split) <;> rfl
theorem Iv.start (p:List<|List Ji):Iv p (v0 p):=by
 refine ⟨rfl,λt _=>?_,λt g _ _=>?_,λl _=>?_⟩
 ·unfold v0;simp only [z3];omega
 ·unfold v0;simp only [z33,z3];decide
 unfold v0;simp only [z3];decide
theorem oP (hp:PV p) {s0 s:Jk} (h0:Iv p s0.values) (h:Rea Gz s0 s):Iv p s.values:=by
 induction h with
 | base=>exact h0
 | step _ hm ih=>
  obtain ⟨t,h1,rfl,h2⟩:=iF.1 hm;rw [ih.up] at h1;have hl:=hp.vs.1;exact ih.after (by omega) h2<|ih.ins hp h1 h2
def bas:List Nat:=[8,8,8,4,4,4,4,4,4,4,4,4,4,4,4]
def dig (u:Jj):List (Nat×Nat):=((keyL u).map Int.toNat).zip bas
theorem xH (u:Jj):(dig u).map (·.2)=bas:=rfl
theorem BC (u:Jj):(dig u).map (·.1)=(keyL u).map Int.toNat:=rfl
theorem yO:∀ l:List (Nat×Nat),zP l=(l.map (·.2)).foldr (· * ·) 1
 | []=>rfl
 | (_,b)::l=>congrArg (b * ·) (yO l)
theorem C8 (u:Jj):zP (dig u)=8589934592:=by
 rw [yO,xH]
 decide
theorem digits (hp:PV p) (h:Iv p u):∀ x∈dig u,x.1<x.2:=by
 obtain ⟨d,h1,_,h2⟩:=h.keyL hp;unfold dig;rw [h1,M3];have : d.map (Int.toNat ∘ Int.ofNat)=d:=by
  conv=>rhs;rw [<- M4 d]
  exact MS λ_ _=>rfl
 rw [this];exact h2
theorem E0 (hp:PV p) {u v:Jj} (hu:Iv p u) (hv:Iv p v) (h:nO (dig u)=nO (dig v)):(keyL u).map Int.toNat=(keyL v).map Int.toNat:=by
 rw [<- BC,<- BC,wE (dig u) (dig v) ((xH u).trans (xH v).symm) (digits hp hu) (digits hp hv) h]
theorem qB (hp:PV p) (h:Iv p u):∀ x∈keyL u,0<=x/\x<=255:=by
 obtain ⟨d,h1,h3,h2⟩:=h.keyL hp;rw [h1];intro x hx;obtain ⟨n,hn,rfl⟩:=MK.1 hx;obtain ⟨j,hj,rfl⟩:=MP hn;have hz:j<(d.zip [8,8,8,4,4,4,4,4,4,4,4,4,4,4,4]).length:=by simp;omega
 have h4:=h2 _<|MG hz;rw [List.getElem_zip] at h4;have h5:∀ b∈[8,8,8,4,4,4,4,4,4,4,4,4,4,4,4],b<=8:=by decide
 have h6:=h5 _<|MG (l:=[8,8,8,4,4,4,4,4,4,4,4,4,4,4,4]) (n:=j) (by simp;omega);simp only at h4
 constructor
 ·exact Int.natCast_nonneg _
 show ((d[j]:Nat):Int)<=255;omega
theorem C9 (hp:PV p) {u v:Jj} (hu:Iv p u) (hv:Iv p v) (h:(keyL u).map Int.toNat=(keyL v).map Int.toNat):keyL u=keyL v:=by
 have back:∀ l:LI,(∀ x∈l,0<=x/\x<=255)->(l.map Int.toNat).map Int.ofNat=l:=λl hl=>by
  rw [M3]
  conv=>rhs;rw [<- M4 l]
  refine MS λx hx=>?_;exact Na (hl x hx).1
 rw [<- back _ (qB hp hu),<- back _ (qB hp hv),h]
theorem E5 (hp:PV p) {s0:Jk} (h0:Iv p s0.values):Mok Gz s0 8589934592 where
 key:=λs t hs ht h=>by
  have h1:=oP hp h0 hs;have h2:=oP hp h0 ht;have := ru (h1.up.trans h2.up.symm)<|lI (qB hp h1) (qB hp h2) h
  cases s;cases t
  simp only at this;rw [this]
 cnt:=λV hn hV=>by
  have hI:∀ v∈V,Iv p v.values:=λv hv=>oP hp h0<|hV v hv;refine C0 (λv=>nO<|dig v.values) _ V hn (λv hv=>?_) λs hs t ht h=>?_
  ·have := yJ _<|digits hp<|hI v hv
   rwa [C8] at this
  have h3:=E0 hp (hI s hs) (hI t ht) h;have := ru ((hI s hs).up.trans (hI t ht).up.symm)<|C9 hp (hI s hs) (hI t ht) h3
  cases s;cases t
  simp only at this;rw [this]
theorem E8 (hp:PV p) {s0:Jk} (h0:Iv p s0.values):Mrt dJ dK cF cG (λs=>aN s.values) Gz s0 where
 mv:=λs hs=>GA hp<|oP hp h0 hs
 af:=λs m hs hm=>by
  have h1:=oP hp h0 hs;obtain ⟨t,h2,rfl,h3⟩:=iF.1 hm;rw [h1.up] at h2;exact GF hp h1 h2 h3
 ky:=λs hs=>yN s.values
 dn:=λs hs=>GD hp<|oP hp h0 hs
 oc:=λs hs _=>uW hp<|oP hp h0 hs
 len:=λs hs=>by
  have h1:=yM (u:=s.values) s.values.p.length;have h2:=(oP hp h0 hs).up;have h3:=hp.vs.1;rw [h2] at h1;show (qb s.values).length<=_;unfold qb;rw [h2];omega
theorem uX (u:Jj):(wG u).length=3*u.p.length+3:=by
 unfold wG Gy;rw [lla,sH]
 rfl
def E9 (p:List<|List Ji):LI->Prop:=EY Gz ⟨v0 p⟩
end
def ud {κ α:Type} [DecidableEq κ] (f:κ->α) (k:κ) (v:α):κ->α:=λj=>if j=k then v else f j
section
variable {κ α:Type} [DecidableEq κ]
theorem mG (f:κ->α) (k j:κ) (v:α):ud f k v j=if j=k then v else f j:=rfl
theorem dx (f:κ->α) (k:κ) (v:α):ud f k v k=v:=if_pos rfl
theorem iO {f:κ->α} {k j:κ} {v:α} (h:j≠k):ud f k v j=f j:=if_neg h
theorem wH (f:κ->α) (k:κ) (v w:α):ud (ud f k v) k w=ud f k w:=by
 funext j;unfold ud;split <;> rfl
theorem GG (f:κ->α) (k:κ):ud f k (f k)=f:=by
 funext j;unfold ud;split
 ·rename_i h;rw [h]
 rfl
theorem BD (f:κ->α) {k j:κ} (v w:α) (h:k≠j):ud (ud f k v) j w=ud (ud f j w) k v:=by
 funext i;unfold ud;split <;> split <;> first | rfl | (exfalso;rename_i h1 h2;exact h<|h2 ▸ h1)
end
inductive Rch {α:Type} (S:α->α->Prop) (a0:α):α->Prop
 | base:Rch S a0 a0
 | step {a b:α} (h:Rch S a0 a) (s:S a b):Rch S a0 b
theorem Rch.inv {α:Type} {S:α->α->Prop} {a0:α} (I:α->Prop) (h0:I a0) (hs:∀ a b,I a->S a b->I b) {a:α} (h:Rch S a0 a):I a:=by
 induction h with
 | base=>exact h0
 | step _ s ih=>exact hs _ _ ih s
theorem Rch.trans {α:Type} {S:α->α->Prop} {a0 a b:α} (h:Rch S a0 a) (k:Rch S a b):Rch S a0 b:=by
 induction k with
 | base=>exact h
 | step _ s ih=>exact ih.step s
structure Bis {σ α:Type} (M:Mac σ) (s0:σ) (S:α->α->Prop) (a0:α) (D:α->Prop) (O:α->List Int) (I:σ->Prop) (A:σ->α):Prop where
 i0:I s0
 h0:A s0=a0
 fw:∀ s m,I s->Rch S a0 (A s)->m∈M.mv s->I (M.af s m)/\S (A s) (A<|M.af s m)
 bw:∀ s b,I s->Rch S a0 (A s)->S (A s) b->∃ m,m∈M.mv s/\A (M.af s m)=b
 dn:∀ s,I s->Rch S a0 (A s)->(M.dn s=true↔D (A s))
 oc:∀ s,I s->Rch S a0 (A s)->M.dn s=true->M.oc s=O (A s)
section
variable {σ α:Type} {M:Mac σ} {s0:σ} {S:α->α->Prop} {a0:α} {D:α->Prop} {O:α->LI} {I:σ->Prop} {A:σ->α}
theorem Bis.rea (B:Bis M s0 S a0 D O I A) {s:σ} (h:Rea M s0 s):I s/\Rch S a0 (A s):=by
 induction h with
 | base=>exact ⟨B.i0,by rw [B.h0];exact .base⟩
 | step _ hm ih=>
  have := B.fw _ _ ih.1 ih.2 hm;exact ⟨this.1,ih.2.step this.2⟩
theorem Bis.back (B:Bis M s0 S a0 D O I A) {a:α} (h:Rch S a0 a):∃ s,Rea M s0 s/\A s=a:=by
 induction h with
 | base=>exact ⟨s0,.base,B.h0⟩
 | step h k ih=>
  obtain ⟨s,h1,rfl⟩:=ih;have h2:=B.rea h1;obtain ⟨m,h3,h4⟩:=B.bw s _ h2.1 h2.2 k;exact ⟨_,.step h1 h3,h4⟩
def Ij (S:α->α->Prop) (a0:α) (D:α->Prop) (O:α->LI) (o:LI):Prop:=∃ a,Rch S a0 a/\D a/\O a=o
theorem Bis.outs (B:Bis M s0 S a0 D O I A) (o:LI):EY M s0 o↔Ij S a0 D O o:=by
 refine ⟨λ⟨s,h1,h2,h3⟩ => ?_,λ⟨a,h1,h2,h3⟩ => ?_⟩
 ·have h4:=B.rea h1;exact ⟨A s,h4.2,(B.dn s h4.1 h4.2).1 h2,by rw [<- B.oc s h4.1 h4.2 h2,h3]⟩
 obtain ⟨s,h4,rfl⟩:=B.back h1;have h5:=B.rea h4;have h6:=(B.dn s h5.1 h5.2).2 h2;exact ⟨s,h4,h6,by rw [B.oc s h5.1 h5.2 h6,h3]⟩
theorem Bis.mok (B:Bis M s0 S a0 D O I A) {N:Nat} (hk:∀ s t,I s->I t->Rch S a0 (A s)->Rch S a0 (A t)->M.ky s=M.ky t->s=t) (ha:∀ s t,I s->I t->A s=A t->s=t) (hc:∀ V:List α,V.Nodup->(∀ v∈V,Rch S a0 v)->V.length<=N):Mok M s0 N where
 key:=λs t hs ht h=>hk s t (B.rea hs).1 (B.rea ht).1 (B.rea hs).2 (B.rea ht).2 h
 cnt:=λV hn hV=>by
  have := hc (V.map A) ?_ λv hv=>?_
  ·simpa using this
  ·rw [List.nodup_iff_pairwise_ne] at hn ⊢;rw [List.pairwise_map];exact hn.imp_of_mem λ{a b} h1 h2 hne e=>hne<|ha a b (B.rea<|hV a h1).1 (B.rea<|hV b h2).1 e
  obtain ⟨s,hs,rfl⟩:=MK.1 hv;exact (B.rea<|hV s hs).2
end
structure TS where
 pc:Nat->Nat
 rg:Nat->Int->Int
 mm:Int->Int
 bf:Nat->Int->List (Int×Int)
def tO (x:Ji):Bool:=x.Op==2||x.Op==3
section
variable (P:Nat->List Ji) (d:Bool) (cl:Int->Int)
def uD (l:Int) (b:List<|Int×Int) (z:Int):Int:=match b.reverse.find? (λe=>decide<|e.1=l) with
 | some e=>e.2
 | none=>z
def qc (a:TS) (t:Nat) (l:Int):Int:=uD l (a.bf t<|cl l)<|a.mm l
def zQ (a:TS) (t:Nat) (x:Ji):Int:=if x.Op=3 then a.rg t x.Reg else x.Val
def exT (a:TS) (t:Nat) (x:Ji):TS where
 pc:=ud a.pc t<|a.pc t+1
 rg:=if rdX x then ud a.rg t (ud (a.rg t) x.Reg<|qc cl a t x.Loc) else a.rg
 mm:=if wrX x&&(d||x.Op==5) then ud a.mm x.Loc (zQ a t x) else a.mm
 bf:=if tO x && !d then ud a.bf t (ud (a.bf t) (cl x.Loc)<|a.bf t (cl x.Loc)++[(x.Loc,zQ a t x)]) else a.bf
theorem Ej (a:TS) (t:Nat) (x:Ji):(exT d cl a t x).rg=if rdX x then ud a.rg t (ud (a.rg t) x.Reg<|qc cl a t x.Loc) else a.rg:=rfl
theorem Ek (a:TS) (t:Nat) (x:Ji):(exT d cl a t x).mm=if wrX x&&(d||x.Op==5) then ud a.mm x.Loc (zQ a t x) else a.mm:=rfl
theorem El (a:TS) (t:Nat) (x:Ji):(exT d cl a t x).bf=if tO x && !d then ud a.bf t (ud (a.bf t) (cl x.Loc)<|a.bf t (cl x.Loc)++[(x.Loc,zQ a t x)]) else a.bf:=rfl
def flT (a:TS) (t:Nat) (c:Int) (e:Int×Int) (r:List<|Int×Int):TS:={ a with mm:=ud a.mm e.1 e.2,bf:=ud a.bf t (ud (a.bf t) c r) }
def Ik (a:TS) (t:Nat) (x:Ji):Prop:=(P t)[a.pc t]? = some x/\(x.Op=4\/x.Op=5->∀ c,a.bf t c=[])
inductive StT:TS->TS->Prop
 | ex {a:TS} {t:Nat} {x:Ji} (h:Ik P a t x):StT a (exT d cl a t x)
 | fl {a:TS} {t:Nat} {c:Int} {e:Int×Int} {r:List (Int×Int)} (h:a.bf t c=e::r):StT a (flT a t c e r)
def a0T:TS:=⟨λ_=>0,λ_ _=>0,λ_=>0,λ_ _=>[]⟩
def DnT (a:TS):Prop:=(∀ t,(P t).length<=a.pc t)/\∀ t c,a.bf t c=[]
def outT (n:Nat) (a:TS):LI:=((My n).flatMap λt=>(My 3).map λg:Nat=>a.rg t g)++(My 3).map λl:Nat=>a.mm l
def IQ (n:Nat):LI->Prop:=Ij (StT P d cl) a0T (DnT P)<|outT n
end
section
variable {P:Nat->List Ji} {d:Bool} {cl:Int->Int}
theorem TS.ext {a b:TS} (h1:a.pc=b.pc) (h2:a.rg=b.rg) (h3:a.mm=b.mm) (h4:a.bf=b.bf):a=b:=by
 cases a;cases b;simp only at h1 h2 h3 h4;subst h1 h2 h3 h4;rfl
theorem GH {x:Ji} (h:tO x=true):rdX x=false/\wrX x=true/\x.Op≠4/\x.Op≠5:=by
 unfold tO at h;unfold rdX wrX;rcases Bool.or_eq_true _ _ ▸ h with h | h <;> (have:=eq_of_beq h;rw [this];decide)
end
theorem tP {α β:Type} {f:α->List β} {m:Nat}:∀ {l:List α},(∀ x∈l,(f x).length<=m)->(l.flatMap f).length<=l.length*m
 | [],_=>by simp
 | x::l,h=>by
  have h1:=h x MB;have h2:=tP (l:=l) λy hy=>h y<|MU _ hy;rw [MQ,lla,llc,Nat.add_mul,Nat.one_mul];omega
theorem wI {α:Type} {V l:List α} (hn:V.Nodup) (h:∀ v∈V,v∈l):V.length<=l.length:=List.Nodup.length_le_of_subset hn h
abbrev LSt:=(Int->Int)×(Int->List (Int×Int))
def l0:LSt:=(λ_=>0,λ_=>[])
def I1 (s:LSt) (x:Ji):Int:=if x.Op=3 then s.1 x.Reg else x.Val
section
variable (cl:Int->Int)
def lsx (x:Ji) (s:LSt):List LSt:=
 if rdX x then [(ud s.1 x.Reg 0,s.2),(ud s.1 x.Reg 1,s.2),(ud s.1 x.Reg 2,s.2),(ud s.1 x.Reg 3,s.2)]
 else if tO x then [(s.1,ud s.2 (cl x.Loc)<|s.2 (cl x.Loc)++[(x.Loc,I1 s x)]),(s.1,ud s.2 (cl x.Loc) [])]
 else [s]
def LSn (l:List Ji):Nat->List LSt
 | 0=>[l0]
 | k+1=>(LSn l k).flatMap (lsx cl<|l.getD k default)
def Jm (l:List Ji):Nat:=l.countP λx=>x.Op != 4
variable {cl}
theorem Fa (x:Ji) (s:LSt):(lsx cl x s).length<=4 ^ Jm [x]:=by
 unfold lsx Jm rdX tO
 by_cases h:x.Op=4
 ·simp [h]
 have : (x.Op != 4)=true:=by simpa using h
 rw [List.countP_cons_of_pos (p:=λx:Ji=>x.Op != 4) this]
 split
 ·simp
 split <;> simp
theorem BF {l:List Ji}:∀ {k:Nat},k<=l.length->(LSn cl l k).length<=4 ^ Jm (l.take k)
 | 0,_=>by simp [LSn,Jm]
 | k+1,h=>by
  have h1:=BF (l:=l) (k:=k) (by omega);have h2:=tP (f:=lsx cl<|l.getD k default) (l:=LSn cl l k) λs _=>Fa _ s;have h3:Jm (l.take<|k+1)=Jm (l.take k)+Jm [l.getD k default]:=by
   unfold Jm;rw [List.take_add_one,List.countP_append,geq (by omega)];simp [List.getD,show k<l.length by omega]
  rw [h3,Nat.pow_add];exact ME h2<|MV _ h1
theorem ry (l:List Ji) (k:Nat):Jm (l.take k)<=Jm l:=(List.take_sublist k l).countP_le
theorem uE {l:List Ji} {c:Int} {e:Int×Int}:∀ {k:Nat} {s:LSt} {r:List (Int×Int)},s∈LSn cl l k->s.2 c=e::r->(s.1,ud s.2 c r)∈LSn cl l k
 | 0,s,r,h,hc=>by
  obtain rfl:=ML.1 h
  cases hc
 | k+1,s,r,h,hc=>by
  obtain ⟨u,hu,hs⟩:=MC.1 h;refine MC.2 ?_;unfold lsx at hs ⊢
  split at hs
  ·have h2:s.2=u.2:=by
    simp only [MF,MI,or_false] at hs;rcases hs with rfl | rfl | rfl | rfl <;> rfl
   rename_i hr;have := uE (s:=u) hu<|h2 ▸ hc;refine ⟨_,this,?_⟩;rw [if_pos hr];simp only [MF,MI,or_false] at hs ⊢;rcases hs with rfl | rfl | rfl | rfl <;> simp
  rename_i hr
  split at hs
  ·rename_i ht;simp only [MF,MI,or_false] at hs;rcases hs with rfl | rfl
   ·by_cases g:c=cl (l.getD k default).Loc
    ·subst g;simp only [dx] at hc
     cases hb:u.2 (cl (l.getD k default).Loc) with
     | nil=>
      rw [hb] at hc;injection hc with _ hc;refine ⟨u,hu,?_⟩;rw [if_neg hr,if_pos ht,<- hc,wH];simp
     | cons e0 r0=>
      rw [hb] at hc;injection hc with h1 hc;refine ⟨_,uE hu hb,?_⟩;rw [if_neg hr,if_pos ht];simp only [dx,wH];rw [<- hc];exact MB
    simp only [iO g] at hc;refine ⟨_,uE hu hc,?_⟩;rw [if_neg hr,if_pos ht];simp only [];rw [iO λe=>g e.symm,BD _ _ _ g];exact MB
   by_cases g:c=cl (l.getD k default).Loc
   ·subst g;simp only [dx] at hc
    cases hc
   simp only [iO g] at hc;refine ⟨_,uE hu hc,?_⟩;rw [if_neg hr,if_pos ht];simp only [];rw [show ud (ud u.2 (cl (l.getD k default).Loc) []) c r=ud (ud u.2 c r) (cl (l.getD k default).Loc) [] from BD _ _ _ λe=>g e.symm];exact MU _ MB
  rename_i ht;obtain rfl:=ML.1 hs;refine ⟨_,uE hu hc,?_⟩;rw [if_neg hr,if_neg ht];exact MB
end
def VlL (s:LSt):Prop:=(∀ g,0<=s.1 g/\s.1 g<=3)/\∀ c e,e∈s.2 c->(0<=e.1/\e.1<=2)/\0<=e.2/\e.2<=3
section
variable {P:Nat->List Ji} {cl:Int->Int}
structure InT (P:Nat->List Ji) (cl:Int->Int) (a:TS):Prop where
 ls:∀ t,(a.rg t,a.bf t)∈LSn cl (P t) (a.pc t)
 vl:∀ t,VlL (a.rg t,a.bf t)
 pc:∀ t,a.pc t<=(P t).length
 mm:∀ l,0<=a.mm l/\a.mm l<=3
 m0:∀ l,¬ (0<=l/\l<=2)->a.mm l=0
theorem BG {l z:Int} {b:List (Int×Int)}:uD l b z=z\/∃ e∈b,uD l b z=e.2:=by
 unfold uD
 cases h:b.reverse.find? λe=>decide (e.1=l) with
 | none=>exact .inl rfl
 | some e=>exact .inr ⟨e,List.mem_reverse.1<|List.mem_of_find?_eq_some h,rfl⟩
theorem InT.start:InT P cl a0T:=⟨λ_=>MB,λ_=>⟨λ_=>⟨Mx _,by show (0:Int)<=3;decide⟩,λ_ _ h=>by cases h⟩,λ_=>MW _,λ_=>⟨Mx _,by show (0:Int)<=3;decide⟩,λ_ _=>rfl⟩
theorem InT.seen {a:TS} (h:InT P cl a) (t:Nat) (l:Int):0<=qc cl a t l/\qc cl a t l<=3:=by
 unfold qc;rcases BG (l:=l) (z:=a.mm l) (b:=a.bf t<|cl l) with e | ⟨x,hx,e⟩
 ·rw [e];exact h.mm l
 rw [e];exact ((h.vl t).2 _ _ hx).2
theorem InT.val {a:TS} (h:InT P cl a) (t:Nat) {x:Ji} (hx:InR x):0<=zQ a t x/\zQ a t x<=3:=by
 unfold zQ
 split
 ·exact (h.vl t).1 _
 exact ⟨hx.2.2.2.2.1,hx.2.2.2.2.2⟩
theorem InT.step (hP:∀ (t k:Nat) (x:Ji),(P t)[k]? = some x->InR x) {a b:TS} (h:InT P cl a) (s:StT P false cl a b):InT P cl b:=by
 cases s with
 | @ex t x hc=>
  have hx:=hP _ _ _ hc.1;have hs:=h.seen t x.Loc;have hv:=h.val t hx;obtain ⟨hk,he⟩:=ges hc.1;have hg:(P t).getD (a.pc t) default=x:=by simp [List.getD,hc.1]
  refine ⟨λu=>?_,λu=>?_,λu=>?_,λl=>?_,λl hl=>?_⟩
  ·by_cases hu:u=t
   ·subst hu;have hl:=h.ls u;simp only [exT,dx];refine MC.2 ⟨_,hl,?_⟩;rw [hg];unfold lsx
    cases hr:rdX x with
    | true=>
     have hn:tO x=false:=by
      cases e:tO x with
      | false=>rfl
      | true=>rw [(GH e).1] at hr;cases hr
     rw [hn];simp only [if_true,Bool.false_and,Bool.false_eq_true,if_false,dx,MF,MI,or_false];have : qc cl a u x.Loc=0\/qc cl a u x.Loc=1\/qc cl a u x.Loc=2\/qc cl a u x.Loc=3:=by omega
     rcases this with e | e | e | e <;> rw [e] <;> simp
    | false=>
     simp only [Bool.false_eq_true,if_false]
     cases ht:tO x with
     | false=>simp
     | true=>
      simp only [if_true,Bool.true_and,Bool.not_false,dx];exact MB
   simp only [exT,iO hu];have hl:=h.ls u;have e1:(if rdX x=true then ud a.rg t (ud (a.rg t) x.Reg<|qc cl a t x.Loc) else a.rg) u=a.rg u:=by split <;> simp [iO hu]
   have e2:(if (tO x && !false)=true then ud a.bf t (ud (a.bf t) (cl x.Loc)<|a.bf t (cl x.Loc)++[(x.Loc,zQ a t x)]) else a.bf) u=a.bf u:=by split <;> simp [iO hu]
   rw [e1,e2];exact hl
  ·have hl:=h.vl u
   by_cases hu:u=t
   ·subst hu;refine ⟨λg=>?_,λc e he=>?_⟩
    ·simp only [exT]
     split
     ·rw [dx];unfold ud
      split
      ·exact hs
      exact hl.1 g
     exact hl.1 g
    simp only [exT] at he
    split at he
    ·rw [dx] at he;unfold ud at he
     split at he
     ·rcases M5.1 he with he | he
      ·exact hl.2 _ _ he
      rw [ML.1 he];exact ⟨⟨hx.1,hx.2.1⟩,hv⟩
     exact hl.2 _ _ he
    exact hl.2 _ _ he
   have e1:(exT false cl a t x).rg u=a.rg u:=by simp only [exT];split <;> simp [iO hu]
   have e2:(exT false cl a t x).bf u=a.bf u:=by simp only [exT];split <;> simp [iO hu]
   rw [e1,e2];exact hl
  ·simp only [exT,ud]
   split
   ·rename_i e;subst e;omega
   exact h.pc u
  ·simp only [exT]
   split
   ·unfold ud
    split
    ·exact hv
    exact h.mm l
   exact h.mm l
  simp only [exT]
  split
  ·rw [iO λe=>hl (by rw [e];exact ⟨hx.1,hx.2.1⟩)];exact h.m0 l hl
  exact h.m0 l hl
 | @fl t c e r hb=>
  have he:=(h.vl t).2 c e (by show e∈a.bf t c;rw [hb];exact MB);refine ⟨λu=>?_,λu=>?_,h.pc,λl=>?_,λl hl=>?_⟩
  ·by_cases hu:u=t
   ·subst hu;simp only [flT,dx];exact uE (h.ls u) hb
   simp only [flT,iO hu];exact h.ls u
  ·have hl:=h.vl u
   by_cases hu:u=t
   ·subst hu;refine ⟨hl.1,λc' e' he' => ?_⟩;simp only [flT,dx] at he';unfold ud at he'
    split at he'
    ·exact hl.2 c e' (by show e'∈a.bf u c;rw [hb];exact MU _ he')
    exact hl.2 _ _ he'
   simp only [flT,iO hu];exact hl
  ·simp only [flT,ud]
   split
   ·exact he.2
   exact h.mm l
  simp only [flT];rw [iO λe=>hl (by rw [e];exact he.1)];exact h.m0 l hl
theorem InT.of (hP:∀ (t k:Nat) (x:Ji),(P t)[k]? = some x->InR x) {a:TS} (h:Rch (StT P false cl) a0T a):InT P cl a:=
 h.inv _ .start λ_ _ h s=>h.step hP s
def Lt (P:Nat->List Ji) (cl:Int->Int) (t:Nat):List (Nat×LSt):=(My<|(P t).length+1).flatMap λk=>(LSn cl (P t) k).map λs=>(k,s)
theorem BH (h7:∀ t,(P t).length<=7) (t:Nat):(Lt P cl t).length<=8*4 ^ Jm (P t):=by
 have := tP (f:=λk=>(LSn cl (P t) k).map λs=>(k,s)) (l:=My<|(P t).length+1) (m:=4 ^ Jm (P t)) λk hk=>by
  have hk:=MJ.1 hk;rw [llm];exact ME (BF<|by omega)<|Nl (by decide)<|ry _ _
 rw [List.length_range] at this;exact ME this<|MV _ (by have := h7 t;omega)
def m3:List (Int×Int×Int):=[0,1,2,3].flatMap λa=>[0,1,2,3].flatMap λb=>[0,1,2,3].map λc=>(a,b,c)
theorem GI {a b c:Int} (ha:0<=a/\a<=3) (hb:0<=b/\b<=3) (hc:0<=c/\c<=3):(a,b,c)∈m3:=by
 have h:∀ x:Int,0<=x/\x<=3->x∈([0,1,2,3]:LI):=λx hx=>by
  have : x=0\/x=1\/x=2\/x=3:=by omega
  rcases this with rfl | rfl | rfl | rfl <;> decide
 exact MC.2 ⟨a,h a ha,MC.2 ⟨b,h b hb,MK.2 ⟨c,h c hc,rfl⟩⟩⟩
def GJ {α:Type} (a b c z:α) (t:Nat):α:=if t=0 then a else if t=1 then b else if t=2 then c else z
def mkT (a b c:Nat×LSt) (m:Int×Int×Int):TS where
 pc t:=(GJ a b c (0,l0) t).1
 rg t:=(GJ a b c (0,l0) t).2.1
 mm l:=if l=0 then m.1 else if l=1 then m.2.1 else if l=2 then m.2.2 else 0
 bf t:=(GJ a b c (0,l0) t).2.2
theorem I2 (hP:∀ (t k:Nat) (x:Ji),(P t)[k]? = some x->InR x) (h3:∀ t,3<=t->P t=[]) (h7:∀ t,(P t).length<=7) (he:Jm (P 0)+Jm (P 1)+Jm (P 2)<=12) (V:List TS) (hn:V.Nodup) (hV:∀ v∈V,Rch (StT P false cl) a0T v):V.length<=549755813888:=by
 have hs:=wI hn (l:=(Lt P cl 0).flatMap λa=>(Lt P cl 1).flatMap λb=>(Lt P cl 2).flatMap λc=>m3.map<|mkT a b c) λv hv=>?_
 ·have l2:=BH (cl:=cl) h7 2;have l1:=BH (cl:=cl) h7 1;have l0:=BH (cl:=cl) h7 0;have k2:∀ a b,((Lt P cl 2).flatMap λc=>m3.map<|mkT a b c).length<=8*4 ^ Jm (P 2)*64:=λa b=>ME (tP (m:=64) λ_ _=>by rw [llm];decide) (MV _ l2);have k1:∀ a,((Lt P cl 1).flatMap λb=>(Lt P cl 2).flatMap λc=>m3.map<|mkT a b c).length<=8*4 ^ Jm (P 1)*(8*4 ^ Jm (P 2)*64):=λa=>ME (tP λb _=>k2 a b)<|MV _ l1;have k0:=ME (tP (l:=Lt P cl 0) λa _=>k1 a)<|MV _ l0;have e:8*4 ^ Jm (P 0)*(8*4 ^ Jm (P 1)*(8*4 ^ Jm (P 2)*64))=32768*4 ^ (Jm (P 0)+Jm (P 1)+Jm (P 2)):=by
   rw [Nat.pow_add,Nat.pow_add];generalize 4 ^ Jm (P 0)=x;generalize 4 ^ Jm (P 1)=y;generalize 4 ^ Jm (P 2)=z;have : 8*x*(8*y*(8*z*64))=32768*(x*y*z):=by
    simp only [Nat.mul_assoc,Nat.mul_left_comm,Nat.mul_comm]
   exact this
  rw [e] at k0;have h4:4 ^ (Jm (P 0)+Jm (P 1)+Jm (P 2))<=4 ^ 12:=Nl (by decide) he;have h5:(4:Nat) ^ 12=16777216:=by decide
  omega
 have hi:=InT.of hP<|hV v hv;have hm:∀ t,(v.pc t,v.rg t,v.bf t)∈Lt P cl t:=λt=>MC.2 ⟨v.pc t,MJ.2 (by have := hi.pc t;omega),MK.2 ⟨_,hi.ls t,rfl⟩⟩;refine MC.2 ⟨_,hm 0,MC.2 ⟨_,hm 1,MC.2 ⟨_,hm 2,MK.2 ⟨(v.mm 0,v.mm 1,v.mm 2),GI (hi.mm 0) (hi.mm 1)<|hi.mm 2,?_⟩⟩⟩⟩;have hsel:∀ t,GJ (v.pc 0,v.rg 0,v.bf 0) (v.pc 1,v.rg 1,v.bf 1) (v.pc 2,v.rg 2,v.bf 2) (0,l0) t=(v.pc t,v.rg t,v.bf t):=λt=>by
  unfold GJ
  split
  ·rename_i h;rw [h]
  split
  ·rename_i h;rw [h]
  split
  ·rename_i h;rw [h]
  have h0:=h3 t (by omega);have h1:=hi.pc t;have h2:=hi.ls t;rw [h0] at h1 h2;have h1:v.pc t=0:=by simpa using h1
  rw [h1] at h2 ⊢;rw [ML.1 h2]
 unfold mkT;refine TS.ext ?_ ?_ ?_ ?_
 ·funext t;simp only [hsel]
 ·funext t;simp only [hsel]
 ·funext l
  simp only []
  split
  ·rename_i h;rw [h]
  split
  ·rename_i h;rw [h]
  split
  ·rename_i h;rw [h]
  exact (hi.m0 l<|by omega).symm
 funext t;simp only [hsel]
end
def prg (p:List<|List Ji):Nat->List Ji:=λt=>p.getD t default
def clB (sp:Bool):Int->Int:=λl=>bif sp then l else 0
def vK (sp:Bool) (c:Int):Prop:=(sp=true/\0<=c/\c<=2)\/(sp=false/\c=0)
instance (sp:Bool) (c:Int):Decidable (vK sp c):=by unfold vK;infer_instance
def ixB (sp:Bool) (t:Nat) (c:Int):Nat:=bif sp then 3*t+c.toNat else t
def wV (b:Int):Int×Int:=(b.tdiv 16,b.tmod 16)
def pcF (a:Z3b):Nat->Nat:=λt=>if t<3 then (Z3b.get a t).toNat else 0
def rgF (a:Z33):Nat->Int->Int:=λt g=>if t<3/\0<=g/\g<=2 then Z3b.get (Z33.get a t) g else 0
def mmF (a:Z3b):Int->Int:=λl=>if 0<=l/\l<=2 then Z3b.get a l else 0
def bfF (n:Nat) (sp:Bool) (w:LL):Nat->Int->List (Int×Int):=λt c=>if t<n/\vK sp c then (w.getD (ixB sp t c) default).map wV else []
def AB (s:aj):TS:=⟨pcF s.values.pc,rgF s.values.reg,mmF s.values.mem,bfF s.values.p.length s.split s.waits⟩
def AS (s:Jk):TS:=⟨pcF s.values.pc,rgF s.values.reg,mmF s.values.mem,λ_ _=>[]⟩
theorem xJ (a:Z3b) {t:Nat} (ht:t<3) (v:Int):pcF (Z3b.set a t v)=ud (pcF a) t v.toNat:=by
 funext i
 simp only [pcF,mG]
 by_cases h:i<3
 ·rw [if_pos h,if_pos h,ju _ _ _ _ (by omega) (by omega)]
  by_cases e:i=t
  ·rw [if_pos (by omega),if_pos e]
  rw [if_neg (by omega),if_neg e]
 rw [if_neg h,if_neg h,if_neg (by omega)]
theorem wJ (a:Z33) (t:Nat) (g:Int):rgF a t g=if t<3/\0<=g/\g<=2 then Z3b.get (Z33.get a t) g else 0:=rfl
theorem GK (n:Nat) (sp:Bool) (w:LL) (t:Nat) (c:Int):bfF n sp w t c=if t<n/\vK sp c then (w.getD (ixB sp t c) default).map wV else []:=rfl
theorem xK (a:Z33) {t:Nat} (ht:t<3) {g:Int} (hg:0<=g/\g<=2) (v:Int):rgF (Z33.set a t<|Z3b.set (Z33.get a t) g v)=ud (rgF a) t (ud (rgF a t) g v):=by
 funext i j
 rw [wJ];simp only [mG]
 by_cases e:i=t
 ·subst e;rw [if_pos rfl];simp only [mG,rgF]
  by_cases h:0<=j/\j<=2
  ·rw [if_pos ⟨ht,h⟩,oO _ _ _ _ (by omega) (by omega),if_pos rfl,ju _ _ _ _ hg h]
   by_cases k:j=g
   ·rw [if_pos k,if_pos k]
   rw [if_neg k,if_neg k,if_pos ⟨ht,h⟩]
  rw [if_neg λk=>h k.2,if_neg λk=>h (by rw [k];exact hg),if_neg λk=>h k.2]
 rw [if_neg e];simp only [rgF]
 by_cases h:i<3/\0<=j/\j<=2
 ·rw [if_pos h,if_pos h,oO _ _ _ _ (by omega) (by omega),if_neg (by omega)]
 rw [if_neg h,if_neg h]
theorem xL (a:Z3b) {l:Int} (hl:0<=l/\l<=2) (v:Int):mmF (Z3b.set a l v)=ud (mmF a) l v:=by
 funext i
 simp only [mmF,mG]
 by_cases h:0<=i/\i<=2
 ·rw [if_pos h,if_pos h,ju _ _ _ _ hl h]
 rw [if_neg h,if_neg h,if_neg λe=>h (by rw [e];exact hl)]
theorem BI {sp:Bool} {t t':Nat} {c c':Int} (h:vK sp c) (h':vK sp c') (e:ixB sp t c=ixB sp t' c'):t=t'/\c=c':=by
 unfold ixB at e;rcases h with ⟨rfl,h⟩ | ⟨rfl,rfl⟩
 ·rcases h' with ⟨_,h'⟩ | ⟨h',_⟩
  ·simp only [cond_true] at e;omega
  cases h'
 rcases h' with ⟨h',_⟩ | ⟨_,rfl⟩
 ·cases h'
 exact ⟨e,rfl⟩
theorem BJ {sp:Bool} {t n:Nat} {c:Int} (h:vK sp c) (ht:t<n):ixB sp t c<bif sp then 3*n else n:=by
 unfold ixB;rcases h with ⟨rfl,h⟩ | ⟨rfl,rfl⟩
 ·simp only [cond_true];omega
 exact ht
theorem wK {sp:Bool} {n b:Nat} (hb:b<bif sp then 3*n else n):∃ t c,t<n/\vK sp c/\ixB sp t c=b:=by
 cases sp with
 | true=>
  simp only [cond_true] at hb;exact ⟨b / 3,((b % 3:Nat):Int),by omega,.inl ⟨rfl,by omega,by omega⟩,by simp only [ixB,cond_true];omega⟩
 | false=>exact ⟨b,0,hb,.inr ⟨rfl,rfl⟩,rfl⟩
theorem BL (sp:Bool) {l:Int} (hl:0<=l/\l<=2):vK sp (clB sp l):=by
 cases sp with
 | true=>exact .inl ⟨rfl,hl⟩
 | false=>exact .inr ⟨rfl,rfl⟩
theorem rz (sp:Bool) (t:Nat) {l:Int} (hl:0<=l/\l<=2):(fD sp t l).toNat=ixB sp t (clB sp l)/\0<=fD sp t l:=by
 unfold fD ixB clB
 cases sp with
 | true=>simp only [cond_true];omega
 | false=>simp only [cond_false];omega
theorem BM {n:Nat} {sp:Bool} {w:LL} {t:Nat} {c:Int} (ht:t<n) (hc:vK sp c) (hw:w.length=bif sp then 3*n else n) (v:LI):bfF n sp (w.set (ixB sp t c) v)=ud (bfF n sp w) t (ud (bfF n sp w t) c<|v.map wV):=by
 have hlt:=BJ hc ht;rw [<- hw] at hlt
 funext i j
 rw [GK];simp only [mG]
 by_cases e:i=t
 ·subst e;rw [if_pos rfl];simp only [mG,bfF]
  by_cases g:j=c
  ·subst g;rw [if_pos ⟨ht,hc⟩,if_pos rfl];simp [List.getD,hlt]
  rw [if_neg g]
  by_cases h:vK sp j
  ·rw [if_pos ⟨ht,h⟩,if_pos ⟨ht,h⟩];have : ixB sp i c≠ixB sp i j:=λk=>g (BI hc h k).2.symm;simp [List.getD,Nn this]
  rw [if_neg λk=>h k.2,if_neg λk=>h k.2]
 rw [if_neg e];simp only [bfF]
 by_cases h:i<n/\vK sp j
 ·rw [if_pos h,if_pos h];have : ixB sp t c≠ixB sp i j:=λk=>e (BI hc h.2 k).1.symm;simp [List.getD,Nn this]
 rw [if_neg h,if_neg h]
theorem zR (w:LI) (l z:Int):p6 w l z=uD l (w.map wV) z:=by
 unfold p6 uD;rw [<- List.map_reverse];generalize w.reverse=r
 induction r with
 | nil=>rfl
 | cons b r ih=>
  simp only [MO,List.find?_cons]
  by_cases h:b.tdiv 16=l
  ·have : (b.tdiv 16==l)=true:=by simpa using h
   rw [this];simp [wV,h]
  have : (b.tdiv 16==l)=false:=by simpa using h
  rw [this];simp only [wV,h,decide_false];exact ih
theorem Da {a b:Int} (h:wV a=wV b):a=b:=by
 unfold wV at h;injection h with h1 h2;have ha:=Nb a 16;have hb:=Nb b 16;omega
theorem qE:∀ {v w:LI},v.map wV=w.map wV->v=w
 | [],[],_=>rfl
 | [],_::_,h=>by cases h
 | _::_,[],h=>by cases h
 | a::v,b::w,h=>by
  injection h with h1 h2;rw [Da h1,qE h2]
structure PW (p:List (List Ji)):Prop where
 pv:PV p
 ev:Jm (prg p 0)+Jm (prg p 1)+Jm (prg p 2)<=12
 op:∀ (t k:Nat) (x:Ji),(prg p t)[k]? = some x->1<=x.Op/\x.Op<=5
section
variable {p:List (List Ji)}
theorem wL {t k:Nat} {x:Ji} (h:(prg p t)[k]? = some x):t<p.length:=by
 rcases M6 t p.length with g | g
 ·exact g
 unfold prg at h;rw [gdq,gen g] at h
 cases h
theorem PV.prg (hp:PV p) (t k:Nat) (x:Ji) (h:(prg p t)[k]? = some x):InR x:=by
 have ht:=wL h;obtain ⟨hk,e⟩:=ges h;have := hp.ins t k ht hk;have e2:(p.getD t default).getD k default=x:=by
  rw [gdq];unfold Go.Proofs.YtjcmfddobaplbaaGreat.prg at h;rw [h];rfl
 rw [e2] at this;exact this
theorem PV.prg0 (hp:PV p) (t:Nat) (h:3<=t):Go.Proofs.YtjcmfddobaplbaaGreat.prg p t=[]:=by
 have := hp.vs.1;unfold Go.Proofs.YtjcmfddobaplbaaGreat.prg;rw [gdq,gen (by omega)]
 rfl
theorem PW.cnl (hp:PW p) {cl:Int->Int} (V:List TS) (hn:V.Nodup) (hV:∀ v∈V,Rch (StT (prg p) false cl) a0T v):V.length<=549755813888:=
 I2 hp.pv.prg hp.pv.prg0 hp.pv.vs.2 hp.ev V hn hV
structure IB (p:List (List Ji)) (sp:Bool) (s:aj):Prop where
 up:s.values.p=p
 sq:s.split=sp
 wl:s.waits.length=bif sp then 3*p.length else p.length
 by_:∀ w∈s.waits,∀ b∈w,0<=b/\b<=255
 pc:∀ t:Nat,t<3->0<=Z3b.get s.values.pc t
variable {sp:Bool} {s:aj}
theorem IB.iv (h:IB p sp s) {cl:Int->Int} (hi:InT (prg p) cl<|AB s):Iv p s.values where
 up:=h.up
 pc:=λt ht=>by
  have h1:=hi.pc t;have h2:=h.pc t ht;simp only [AB,pcF,if_pos ht] at h1;unfold prg at h1;omega
 rv:=λt g ht hg=>by
  have := (hi.vl t).1 g;simp only [AB,rgF] at this
  rwa [if_pos ⟨ht,by omega,by omega⟩] at this
 mv:=λl hl=>by
  have := hi.mm l;simp only [AB,mmF] at this
  rwa [if_pos ⟨by omega,by omega⟩] at this
theorem IB.bf (h:IB p sp s) {t:Nat} {c:Int} (ht:t<p.length) (hc:vK sp c):(AB s).bf t c=(s.waits.getD (ixB sp t c) default).map wV:=by
 simp only [AB,bfF,h.up,h.sq];rw [if_pos ⟨ht,hc⟩]
theorem IB.bf0 (h:IB p sp s) {t:Nat} {c:Int} (hc : ¬ (t<p.length/\vK sp c)):(AB s).bf t c=[]:=by
 simp only [AB,bfF,h.up,h.sq];rw [if_neg hc]
theorem iR {u:Jj} (hu:u.p=p) {t:Nat} (ht:t<3) (h0:0<=Z3b.get u.pc t):(m7 u t=true->(prg p t)[pcF u.pc t]? = some (iE u t))/\(∀ x,(prg p t)[pcF u.pc t]? = some x->m7 u t=true/\x=iE u t):=by
 have hpc:pcF u.pc t=(Z3b.get u.pc t).toNat:=if_pos ht;rw [hpc];unfold m7 iE prg;rw [hu,tnn];refine ⟨λh=>?_,λx h=>?_⟩
 ·have h:=of_decide_eq_true h;have : (Z3b.get u.pc t).toNat<(p.getD t default).length:=by omega
  rw [gdq (l:=p.getD t default),geq this]
  rfl
 obtain ⟨h1,h2⟩:=ges h;refine ⟨decide_eq_true (by omega),?_⟩;rw [gdq (l:=p.getD t default),h]
 rfl
def qF (s:aj) (t:Nat):Bool:=([0,1,2]:LI).all λl=>(s.waits.getD (fD s.split t l).toNat default).isEmpty
theorem IB.empty (h:IB p sp s) {t:Nat} (ht:t<p.length):qF s t=true↔∀ c,(AB s).bf t c=[]:=by
 unfold qF;rw [MM,h.sq];refine ⟨λg c=>?_,λg l hl=>?_⟩
 ·by_cases hc:vK sp c
  ·rw [h.bf ht hc];have : ∃ l:Int,l∈([0,1,2]:LI)/\(0<=l/\l<=2)/\clB sp l=c:=by
    rcases hc with ⟨rfl,h1⟩ | ⟨rfl,rfl⟩
    ·have : c=0\/c=1\/c=2:=by omega
     exact ⟨c,by rcases this with rfl | rfl | rfl <;> decide,h1,rfl⟩
    exact ⟨0,by decide,by decide,rfl⟩
   obtain ⟨l,h1,h2,h3⟩:=this;have := g l h1;rw [(rz sp t h2).1,h3] at this;rw [MH.1 this];rfl
  exact h.bf0 λk=>hc k.2
 have hl':0<=l/\l<=2:=by
  simp only [MF,MI,or_false] at hl;omega
 have := g<|clB sp l;rw [h.bf ht (BL sp hl')] at this;rw [(rz sp t hl').1,MH];exact Np.1 this
def cnB (s:aj) (t:Nat):Bool:=m7 s.values t&&(((iE s.values t).Op != 4&&(iE s.values t).Op != 5)||qF s t)
theorem IB.can (hp:PV p) (h:IB p sp s) {t:Nat} (ht:t<p.length):cnB s t=true↔Ik (prg p) (AB s) t (iE s.values t):=by
 have hl:=hp.vs.1;obtain ⟨h1,h2⟩:=iR h.up (by omega:t<3)<|h.pc t (by omega);unfold cnB Ik;rw [bae,Bool.or_eq_true,bae,h.empty ht];refine ⟨λ⟨g1,g2⟩=>⟨h1 g1,λg3=>g2.elim (λg2=>?_) id⟩,λ⟨g1,g2⟩=>⟨(h2 _ g1).1,?_⟩⟩
 ·simp only [bne_iff_ne] at g2;exact absurd g3 (by omega)
 by_cases g3:(iE s.values t).Op=4\/(iE s.values t).Op=5
 ·exact .inr<|g2 g3
 refine .inl ⟨?_,?_⟩ <;> simp only [bne_iff_ne] <;> omega
def exB (s:aj) (t:Int) (x:Ji):aj:=
 ⟨⟨s.values.p,Z3b.set s.values.pc t (Z3b.get s.values.pc t+1),
  if rdX x=true then Z33.set s.values.reg t (Z3b.set (Z33.get s.values.reg t) x.Reg<|p6 (s.waits.getD (fD s.split t x.Loc).toNat default) x.Loc<|Z3b.get s.values.mem x.Loc) else s.values.reg,
  if x.Op=5 then Z3b.set s.values.mem x.Loc x.Val else s.values.mem⟩,s.split,
  if tO x=true then s.waits.set (fD s.split t x.Loc).toNat (s.waits.getD (fD s.split t x.Loc).toNat default++[x.Loc*16+pK s.values t x]) else s.waits⟩
def flB (s:aj) (b:Nat):aj:=
 ⟨⟨s.values.p,s.values.pc,s.values.reg,Z3b.set s.values.mem (((s.waits.getD b default).getD 0 default).tdiv 16)<|((s.waits.getD b default).getD 0 default).tmod 16⟩,s.split,s.waits.set b<|(s.waits.getD b default).drop 1⟩
theorem Fb {l v:Int} (hl:0<=l/\l<=2) (hv:0<=v/\v<=3):wV (l*16+v)=(l,v):=by
 unfold wV;have h1:=Nb (l*16+v) 16;have h2:0<=(l*16+v).tmod 16:=Int.tmod_nonneg _ (by omega);have h3:(l*16+v).tmod 16<16:=Int.tmod_lt_of_pos _ (by decide);refine Prod.ext ?_ ?_ <;> simp only [] <;> omega
theorem IB.val (h:IB p sp s) (iv:Iv p s.values) {t:Nat} (ht:t<3) {x:Ji} (hx:InR x):pK s.values t x=zQ (AB s) t x/\0<=pK s.values t x/\pK s.values t x<=3:=by
 obtain ⟨x1,x2,x3,x4,x5,x6⟩:=hx;unfold pK zQ
 split
 ·simp only [AB,rgF];rw [if_pos ⟨ht,x3,x4⟩];have := iv.rv t x.Reg.toNat ht (by omega);rw [Na x3] at this;exact ⟨rfl,this⟩
 exact ⟨rfl,x5,x6⟩
theorem IB.exA (hp:PV p) (h:IB p sp s) (iv:Iv p s.values) {t:Nat} (ht:t<p.length) {x:Ji} (hx:InR x):AB (exB s t x)=exT false (clB sp) (AB s) t x:=by
 have hl:=hp.vs.1;have ht3:t<3:=by omega
 have hloc:0<=x.Loc/\x.Loc<=2:=⟨hx.1,hx.2.1⟩;have hreg:0<=x.Reg/\x.Reg<=2:=⟨hx.2.2.1,hx.2.2.2.1⟩;have hv:=h.val iv ht3 hx;have hix:=rz sp t hloc;have hc:=BL sp hloc;have hbf:=h.bf ht hc;refine TS.ext ?_ ?_ ?_ ?_
 ·have := iv.pc t ht3;simp only [AB,exB,exT];rw [xJ _ ht3]
  congr 1
  simp only [pcF,if_pos ht3];omega
 ·have hse:p6 (s.waits.getD (fD s.split t x.Loc).toNat default) x.Loc (Z3b.get s.values.mem x.Loc)=qc (clB sp) (AB s) t x.Loc:=by
   have hm:(AB s).mm x.Loc=Z3b.get s.values.mem x.Loc:=if_pos hloc;unfold qc;rw [zR,h.sq,hix.1,<- hbf,hm]
  rw [Ej,<- hse];simp only [AB,exB]
  split
  ·rw [xK _ ht3 hreg]
  rfl
 ·rw [Ek];simp only [AB,exB]
  by_cases h5:x.Op=5
  ·have : (wrX x&&(false||x.Op==5))=true:=by unfold wrX;rw [h5];rfl
   rw [if_pos h5,if_pos this,xL _ hloc]
   congr 1
   unfold zQ;rw [if_neg (by omega)]
  have : (wrX x&&(false||x.Op==5))=false:=by simp [h5]
  rw [if_neg h5,if_neg (by rw [this];decide)]
 rw [El];simp only [AB,exB]
 by_cases hs:tO x=true
 ·rw [if_pos hs,if_pos (by rw [hs];rfl),h.sq,h.up,hix.1,BM ht hc h.wl,MR,List.map_singleton,Fb hloc hv.2,hv.1];simp only [AB,h.sq,h.up] at hbf;rw [<- hbf]
  rfl
 rw [if_neg hs,if_neg (by simpa using hs)]
theorem IB.flA (hp:PV p) (h:IB p sp s) {t:Nat} {c:Int} (ht:t<p.length) (hc:vK sp c) {e:Int×Int} {r:List (Int×Int)} (hb:(AB s).bf t c=e::r) (he:0<=e.1/\e.1<=2):AB (flB s<|ixB sp t c)=flT (AB s) t c e r:=by
 rw [h.bf ht hc] at hb;obtain ⟨b,w,hw,rfl,rfl⟩:=List.map_eq_cons_iff.1 hb;refine TS.ext rfl rfl ?_ ?_
 ·simp only [AB,flB,flT];rw [hw];exact xL _ he _
 simp only [AB,flB,flT];rw [h.sq,h.up,BM ht hc h.wl,hw]
 rfl
theorem IB.ex (hp:PV p) (h:IB p sp s) (iv:Iv p s.values) {t:Nat} (ht:t<p.length) {x:Ji} (hx:InR x):IB p sp (exB s t x):=by
 have hl:=hp.vs.1;have hv:=h.val iv (by omega:t<3) hx;refine ⟨h.up,h.sq,?_,λw hw b hb=>?_,λi hi=>?_⟩
 ·simp only [exB]
  split
  ·rw [List.length_set];exact h.wl
  exact h.wl
 ·simp only [exB] at hw
  split at hw
  ·rcases Nq hw with hw | rfl
   ·exact h.by_ w hw b hb
   rcases M5.1 hb with hb | hb
   ·have : s.waits.getD (fD s.split t x.Loc).toNat default∈s.waits\/s.waits.getD (fD s.split t x.Loc).toNat default=[]:=by
     rw [gdq]
     cases e:s.waits[(fD s.split t x.Loc).toNat]? with
     | none=>exact .inr rfl
     | some w=>exact .inl (Nc e)
    rcases this with g | g
    ·exact h.by_ _ g b hb
    rw [g] at hb;cases hb
   rw [ML.1 hb];obtain ⟨x1,x2,_⟩:=hx;omega
  exact h.by_ w hw b hb
 simp only [exB];rw [ju _ _ _ _ (by omega) (by omega)];have h1:=h.pc t (by omega);have h2:=h.pc i hi
 split <;> omega
theorem IB.fl (h:IB p sp s) (b:Nat):IB p sp (flB s b):=by
 refine ⟨h.up,h.sq,?_,λw hw b' hb=>?_,h.pc⟩
 ·simp only [flB];rw [List.length_set];exact h.wl
 simp only [flB] at hw;rcases Nq hw with hw | rfl
 ·exact h.by_ w hw b' hb
 have hb:=Nr hb;have : s.waits.getD b default∈s.waits\/s.waits.getD b default=[]:=by
  rw [gdq]
  cases e:s.waits[b]? with
  | none=>exact .inr rfl
  | some w=>exact .inl (Nc e)
 rcases this with g | g
 ·exact h.by_ _ g b' hb
 rw [g] at hb;cases hb
def GL (s:aj):LI:=keyL s.values++s.waits.flatMap λw=>(w.length:Int)::w
def qd:Mac aj where
 mv s:=((My s.values.p.length).filter<|cnB s).map Int.ofNat++((My s.waits.length).filter λb => !(s.waits.getD b default).isEmpty).map λb:Nat=>(s.values.p.length:Int)+(b:Int)
 af s m:=if (s.values.p.length:Int)<=m then flB s (m-(s.values.p.length:Int)).toNat else exB s m (iE s.values m)
 ky s:=strOfNums<|GL s
 dn s:=(qb s.values).isEmpty&&s.waits.all (·.isEmpty)
 oc s:=wG s.values
theorem uY {m:Int}:m∈qd.mv s↔(∃ t:Nat,t<s.values.p.length/\m=t/\cnB s t=true)\/∃ b:Nat,b<s.waits.length/\m=(s.values.p.length:Int)+(b:Int)/\s.waits.getD b default≠[]:=by
 simp only [qd,M5,MK,M8,MJ];refine or_congr ⟨λ⟨t,⟨h1,h2⟩,h3⟩=>⟨t,h1,h3.symm,h2⟩,λ⟨t,h1,h2,h3⟩=>⟨t,⟨h1,h3⟩,h2.symm⟩⟩ ⟨λ⟨t,⟨h1,h2⟩,h3⟩=>⟨t,h1,h3.symm,by simpa using h2⟩,λ⟨t,h1,h2,h3⟩=>⟨t,⟨h1,by simpa using h3⟩,h2.symm⟩⟩
def kS (p:List<|List Ji) (sp:Bool):aj:=⟨v0 p,sp,List.replicate (bif sp then 3*p.length else p.length) []⟩
theorem IB.start (p:List<|List Ji) (sp:Bool):IB p sp (kS p sp):=by
 refine ⟨rfl,rfl,?_,λw hw b hb=>?_,λt _=>?_⟩
 ·simp [kS]
 ·rw [List.eq_of_mem_replicate hw] at hb;cases hb
 simp only [kS,v0,z3];exact Mx _
theorem uZ (p:List<|List Ji):pcF (v0 p).pc=a0T.pc/\rgF (v0 p).reg=a0T.rg/\mmF (v0 p).mem=a0T.mm:=by
 refine ⟨?_,?_,?_⟩
 ·funext t;simp only [pcF,v0,z3,a0T];split <;> rfl
 ·funext t g;simp only [rgF,v0,z33,z3,a0T];split <;> rfl
 funext t;simp only [mmF,v0,z3,a0T];split <;> rfl
theorem Db (p:List<|List Ji) (sp:Bool):AB (kS p sp)=a0T:=by
 obtain ⟨h1,h2,h3⟩:=uZ p;refine TS.ext h1 h2 h3 ?_
 funext t c
 simp only [AB,bfF,kS,a0T]
 split
 ·rw [gdq,List.getElem?_replicate]
  split <;> rfl
 rfl
theorem Fc {α β:Type} {f g:α->List β}:∀ {l:List α},(∀ x∈l,f x=g x)->l.flatMap f=l.flatMap g
 | [],_=>rfl
 | x::l,h=>by rw [MQ,MQ,h x MB,Fc λy hy=>h y (MU _ hy)]
theorem Em {u:Jj} {a:TS} (h1:a.rg=rgF u.reg) (h2:a.mm=mmF u.mem) (hl:u.p.length<=3):outT u.p.length a=wG u:=by
 unfold outT wG qP Gy;rw [h1,h2]
 congr 1
 refine Fc λt ht=>MS λg hg=>?_;have ht:=MJ.1 ht;have hg:=MJ.1 hg;simp only [rgF];rw [if_pos ⟨by omega,by omega,by omega⟩]
theorem BN (hp:PW p) (sp:Bool):Bis qd (kS p sp) (StT (prg p) false<|clB sp) a0T (DnT<|prg p) (outT p.length) (IB p sp) AB where
 i0:=IB.start p sp
 h0:=Db p sp
 fw:=λs m h hr hm=>by
  have hi:=InT.of hp.pv.prg hr;have iv:=h.iv hi;have hl:=hp.pv.vs.1;rcases uY.1 hm with ⟨t,h1,rfl,h2⟩ | ⟨b,h1,rfl,h2⟩
  ·rw [h.up] at h1;have hc:=(h.can hp.pv h1).1 h2;have hx:=hp.pv.prg _ _ _ hc.1;have e:qd.af s t=exB s t (iE s.values t):=by
    simp only [qd,h.up];rw [if_neg (by omega)]
   rw [e,h.exA hp.pv iv h1 hx];exact ⟨h.ex hp.pv iv h1 hx,.ex hc⟩
  rw [h.wl] at h1;obtain ⟨t,c,ht,hc,rfl⟩:=wK h1;have e:qd.af s ((s.values.p.length:Int)+(ixB sp t c:Nat))=flB s (ixB sp t c):=by
   simp only [qd];rw [if_pos (by omega)]
   congr 1
   omega
  rw [e];have hb:=h.bf ht hc;obtain ⟨b,w,hw⟩:=Ns h2;rw [hw,MO] at hb;have he:=((hi.vl t).2 c (wV b)<|by show _∈(AB s).bf t c;rw [hb];exact MB).1;rw [h.flA hp.pv ht hc hb he];exact ⟨h.fl _,.fl hb⟩
 bw:=λs a h hr hs=>by
  have hi:=InT.of hp.pv.prg hr;have iv:=h.iv hi;have hl:=hp.pv.vs.1
  cases hs with
  | @ex t x hc=>
   have ht:=wL hc.1;obtain ⟨h1,h2⟩:=iR h.up (by omega:t<3)<|h.pc t (by omega);obtain ⟨h3,rfl⟩:=h2 x hc.1;refine ⟨t,uY.2<|.inl ⟨t,by rw [h.up];exact ht,rfl,(h.can hp.pv ht).2 hc⟩,?_⟩;have e:qd.af s t=exB s t (iE s.values t):=by
    simp only [qd,h.up];rw [if_neg (by omega)]
   rw [e];exact h.exA hp.pv iv ht<|hp.pv.prg _ _ _ hc.1
  | @fl t c e r hb=>
   have hq:t<p.length/\vK sp c:=Decidable.byContradiction λk=>by rw [h.bf0 k] at hb;cases hb
   have hb':=hb;rw [h.bf hq.1 hq.2] at hb';have he:=((hi.vl t).2 c e<|by show _∈(AB s).bf t c;rw [hb];exact MB).1;refine ⟨_,uY.2<|.inr ⟨ixB sp t c,by rw [h.wl];exact BJ hq.2 hq.1,rfl,λk=>by rw [k] at hb';cases hb'⟩,?_⟩;have e2:qd.af s ((s.values.p.length:Int)+(ixB sp t c:Nat))=flB s (ixB sp t c):=by
    simp only [qd];rw [if_pos (by omega)]
    congr 1
    omega
   rw [e2];exact h.flA hp.pv hq.1 hq.2 hb he
 dn:=λs h hr=>by
  have hl:=hp.pv.vs.1;have hpc:(qb s.values).isEmpty=true↔∀ t,(prg p t).length<=(AB s).pc t:=by
   rw [MH];refine ⟨λg t=>?_,λg=>?_⟩
   ·rcases M6 t p.length with ht | ht
    ·refine Decidable.byContradiction λk=>?_;obtain ⟨h1,h2⟩:=iR h.up (by omega:t<3)<|h.pc t (by omega);have := (h2 _<|geq<|Nat.lt_of_not_le k).1;have : (t:Int)∈qb s.values:=iF.2 ⟨t,by rw [h.up];exact ht,rfl,this⟩;rw [g] at this;cases this
    unfold prg;rw [gdq,gen ht];exact MW _
   refine Nt.2 λm hm=>?_;obtain ⟨t,ht,rfl,hc⟩:=iF.1 hm;rw [h.up] at ht;obtain ⟨h1,h2⟩:=iR h.up (by omega:t<3)<|h.pc t (by omega);have := (ges<|h1 hc).1;have := g t;simp only [AB] at this;omega
  have hw:s.waits.all (·.isEmpty)=true↔∀ t c,(AB s).bf t c=[]:=by
   rw [MM];refine ⟨λg t c=>?_,λg w hw=>?_⟩
   ·by_cases hq:t<p.length/\vK sp c
    ·rw [h.bf hq.1 hq.2,gdq]
     cases e:s.waits[ixB sp t c]? with
     | none=>rfl
     | some w=>rw [MX,MH.1 (g w<|Nc e)];rfl
    exact h.bf0 hq
   obtain ⟨b,hb,rfl⟩:=MP hw;obtain ⟨t,c,ht,hc,e⟩:=wK (by rw [<- h.wl];exact hb:b<bif sp then 3*p.length else p.length);have := g t c;rw [h.bf ht hc,e] at this;have := Np.1 this;rw [MH,<- this];simp [List.getD,hb]
  show ((qb s.values).isEmpty&&s.waits.all (·.isEmpty))=true↔_;rw [bae,hpc,hw]
  rfl
 oc:=λs h hr _=>by
  have := hp.pv.vs.1;have := Em (u:=s.values) (a:=AB s) rfl rfl (by rw [h.up];exact this);rw [h.up] at this;exact this.symm
end
section
variable {p:List (List Ji)} {sp:Bool} {s:aj}
theorem sI (hp:PV p) {u:Jj} (h:Iv p u):Jl (bh u) (· = (qb u).isEmpty):=by
 have e:cG ⟨u⟩=bh u:=by
  unfold cG
  cases bh u <;> rfl
 rw [<- e];exact GD hp h
theorem yP (u:Jj):Jl (bI u) (· = strOfNums (keyL u)):=by
 have e:cF ⟨u⟩=bI u:=by
  unfold cF
  cases bI u <;> rfl
 rw [<- e];exact yN u
theorem uF {l:LI} (h:∀ x∈l,0<=x/\x<=255):jl (strOfNums l)=l:=by
 unfold jl;rw [strOfNums_data,M3]
 conv=>rhs;rw [<- M4 l]
 refine MS λx hx=>?_;have := h x hx;simp only [Function.comp,UInt8.toNat_ofNat',id];omega
def fil (f:Nat->Bool) (g:Nat->Int) (n:Nat):LI:=((My n).filter f).map g
theorem rA (f:Nat->Bool) (g:Nat->Int) (n:Nat):fil f g (n+1)=if f n=true then fil f g n++[g n] else fil f g n:=by
 unfold fil;rw [MN,List.filter_append,MR]
 split
 ·rename_i h;rw [Ni h];rfl
 rename_i h;rw [Nj h];simp
theorem sJ (f:Nat->Bool) (g:Nat->Int) (n:Nat):(fil f g n).length<=n:=by
 unfold fil;rw [llm];exact ME (Nk _ _) (by simp)
theorem uG (s:aj) {t l:Int} (ht:0<=t/\t<=3) (hl:0<=l/\l<=2):Jl (cH s t l) (· = fD s.split t l):=by
 unfold cH fD;refine .bif (λhb => .gdI (by omega)<|.gdI (by omega)<|.pure<|by rw [hb];rfl) λhb => .pure (by rw [hb];rfl)
theorem IB.ixl (h:IB p sp s) {t:Nat} (ht:t<p.length) {l:Int} (hl:0<=l/\l<=2):0<=fD s.split t l/\(fD s.split t l)<(s.waits.length:Int):=by
 have h1:=rz sp t hl;have h2:=BJ (BL sp hl) ht;rw [h.sq];rw [h.wl];omega
theorem BO (hp:PV p) (h:IB p sp s) {t:Nat} (ht:t<p.length):Jl (dB s t) (· = qF s t):=by
 have hl:=hp.vs.1;unfold dB;refine Jl.sum (PS:=λ_=>qF s t=true) (PW:=(· = qF s t)) ?_ λ_ he => .pure he.symm;refine Jl.loop (λi=>(0<=i/\i<=3)/\∀ l:Int,0<=l->l<i->(s.waits.getD (fD s.split t l).toNat default).isEmpty=true) (λi=>(3-i).toNat) ⟨⟨Mx _,by decide⟩,λl h1 h2=>by omega⟩ λi ⟨⟨h1,h2⟩,h3⟩ => ?_;unfold gX;refine .bifD (λhlt=>(uG s (by omega)<|by omega).bind λv hv=>?_) λhge => .pure ?_
 ·subst hv;have := h.ixl ht (l:=i) (by omega);refine .gdD this<|.bifD (λhn => .pure ?_) λhn => .gdI (by omega)<|.pure ⟨⟨⟨by omega,by omega⟩,λl g1 g2=>?_⟩,by omega⟩
  ·simp only [];unfold qF;refine (List.all_eq_false.2 ⟨i,?_,?_⟩).symm
   ·have : i=0\/i=1\/i=2:=by omega
    rcases this with rfl | rfl | rfl <;> decide
   rw [Bool.not_eq_true,M7];intro e;rw [e] at hn;simp at hn
  by_cases e:l=i
  ·subst e;rw [MH];exact Nf (by omega)
  exact h3 l g1 (by omega)
 simp only [];unfold qF;refine MM.2 λl hl=>h3 l ?_ ?_ <;> (simp only [MF,MI,or_false] at hl;omega)
theorem zS (hp:PV p) (h:IB p sp s) (iv:Iv p s.values):Jl (bZ s) (· = qd.mv s):=by
 have hl:=hp.vs.1;have hw:=h.wl;have hwl:s.waits.length<=9:=by rw [hw];cases sp <;> simp only [cond_true,cond_false] <;> omega
 unfold bZ;refine Jl.bind (P:=(· = fil (cnB s) Int.ofNat p.length)) ?_ λv hv=>Jl.bind (P:=(· = fil (cnB s) Int.ofNat p.length++fil (λb => !(s.waits.getD b default).isEmpty) (λb:Nat=>(s.values.p.length:Int)+(b:Int)) s.waits.length)) ?_ λv hv => .pure ?_
 ·refine Jl.loop (λz=>(0<=z.2/\z.2<=(p.length:Int))/\z.1=fil (cnB s) Int.ofNat z.2.toNat) (λz=>((p.length:Int)-z.2).toNat) ⟨⟨Mx _,by simp only [];omega⟩,rfl⟩ λz ⟨⟨h1,h2⟩,h3⟩ => ?_;unfold eO;simp only [h.up];refine .bifD (λhlt=>?_) λhge => .pure (by rw [h3,show z.2.toNat=p.length by omega]);obtain ⟨l,i⟩:=z;simp only at h1 h2 h3 hlt;obtain ⟨n,rfl⟩:∃ n:Nat,i=n:=⟨i.toNat,by omega⟩;simp only [tnn] at h3;subst h3;have hfl:=sJ (cnB s) Int.ofNat n;have hpn:n<p.length:=by omega
  refine Jl.bind (P:=(· = fil (cnB s) Int.ofNat (n+1))) ?_ λv hv => .gdI (by omega)<|.pure ⟨⟨⟨by simp only [];omega,by simp only [];omega⟩,hv⟩,by simp only [];omega⟩;refine (xE hp iv hpn).bind λv ⟨e1,e2⟩ => ?_;refine Jl.bind (P:=(· = cnB s n)) ?_ λb hb => .bif (λhc => .gd (dM (by simp only [];omega) rfl)<|.pure ?_) λhc => .pure ?_
  ·refine .bif (λhc=>?_) λhc => .pure ?_
   ·have e3:=e2 hc;refine Jl.bind (P:=(· = ((iE s.values n).Op != 4&&(iE s.values n).Op != 5))) ?_ λw hw=>Jl.bind (P:=(· = cnB s n)) (.bif (λk => .pure ?_) λk=>(BO hp h hpn).bind λw hw => .pure ?_) λw hw => .pure hw
    ·rw [e3];exact .bif (λk => .pure<|by rw [k];rfl) λk => .pure (by rw [k];rfl)
    ·unfold cnB;rw [<- e1,hc,<- hw,k];rfl
    unfold cnB;rw [<- e1,hc,hw,<- ‹_=((iE s.values n).Op != 4&&_)›,k];rfl
   unfold cnB;rw [<- e1,hc];rfl
  ·rw [rA,if_pos (by rw [<- hb,hc])];rfl
  rw [rA,if_neg (by rw [<- hb,hc];decide)]
 ·subst hv;refine Jl.loop (λz=>(0<=z.2/\z.2<=(s.waits.length:Int))/\z.1=fil (cnB s) Int.ofNat p.length++fil (λb => !(s.waits.getD b default).isEmpty) (λb:Nat=>(s.values.p.length:Int)+(b:Int)) z.2.toNat) (λz=>((s.waits.length:Int)-z.2).toNat) ⟨⟨Mx _,by simp only [];omega⟩,by simp [fil]⟩ λz ⟨⟨h1,h2⟩,h3⟩ => ?_;unfold dZ;refine .bifD (λhlt=>?_) λhge => .pure (by rw [h3,show z.2.toNat=s.waits.length by omega]);obtain ⟨l,i⟩:=z;simp only at h1 h2 h3 hlt;obtain ⟨n,rfl⟩:∃ n:Nat,i=n:=⟨i.toNat,by omega⟩;simp only [tnn] at h3 ⊢;subst h3;have hf1:=sJ (cnB s) Int.ofNat p.length;have hf2:=sJ (λb => !(s.waits.getD b default).isEmpty) (λb:Nat=>(s.values.p.length:Int)+(b:Int)) n;have hup:s.values.p.length<=3:=by rw [h.up];exact hl
  refine Jl.bind (P:=(· = fil (cnB s) Int.ofNat p.length++fil (λb => !(s.waits.getD b default).isEmpty) (λb:Nat=>(s.values.p.length:Int)+(b:Int)) (n+1))) ?_ λv hv => .gdI (by omega)<|.pure ⟨⟨⟨by omega,by omega⟩,hv⟩,by omega⟩;refine .gdD ⟨h1,hlt⟩<|.bifD (λhc => .gdI (by omega)<|.gd (dM (by rw [lla];omega) rfl)<|.pure ?_) λhc => .pure ?_
  ·rw [rA,if_pos,M0];rw [Bool.not_eq_true',M7];intro e;rw [e] at hc;simp at hc
  rw [rA,if_neg];rw [Bool.not_eq_true',M7,ne_eq,Decidable.not_not];exact Nf (by omega)
 rw [hv];simp only [qd,fil,h.up]
theorem BP (hp:PV p) (h:IB p sp s) (iv:Iv p s.values):Jl (cu s) (· = qd.dn s):=by
 have hl:=hp.vs.1;have hwl:s.waits.length<=9:=by rw [h.wl];cases sp <;> simp only [cond_true,cond_false] <;> omega
 unfold cu;refine (sI hp iv).bind λv hv=>Jl.bind (P:=(· = qd.dn s)) (.bif (λhb=>?_) λhb => .pure ?_) λw hw => .pure hw
 ·unfold aU;refine Jl.bind (P:=(· = !s.waits.all (·.isEmpty))) ?_ λw hw => .pure ?_
  ·refine Jl.bind (P:=λv:Int=>decide (0<=v) = !s.waits.all (·.isEmpty)) ?_ λv hv => .pure hv;unfold aW;refine Jl.sum (PS:=λ_=>s.waits.all (·.isEmpty)=true) (PW:=λv:Int=>decide (0<=v) = !s.waits.all (·.isEmpty)) ?_ λ_ he => .pure (by rw [he];rfl);refine Jl.loop (λi=>(0<=i/\i<=(s.waits.length:Int))/\∀ j:Nat,(j:Int)<i->(s.waits.getD j default).isEmpty=true) (λi=>((s.waits.length:Int)-i).toNat) ⟨⟨Mx _,by omega⟩,λj hj=>by omega⟩ λi ⟨⟨h1,h2⟩,h3⟩ => ?_;unfold bA;refine .bifD (λhlt => .gdD ⟨h1,hlt⟩ ?_) λhge => .pure ?_
   ·refine Jl.bind (P:=λb=>b=decide ((0:Int)<((s.waits.getD i.toNat default).length:Int))) (.pure rfl) λb hb=>?_;rw [hb];refine .bifD (λhn => .pure ?_) λhn => .gdI (by omega)<|.pure ⟨⟨⟨by omega,by omega⟩,λj hj=>?_⟩,by omega⟩
    ·simp only [];rw [decide_eq_true h1];have hi:i.toNat<s.waits.length:=by omega
     have : s.waits.all (·.isEmpty)=false:=List.all_eq_false.2 ⟨s.waits[i.toNat],MG hi,by
      rw [Bool.not_eq_true,M7];intro e;rw [gdq,geq hi,MX,e] at hn;simp at hn⟩
     rw [this];rfl
    by_cases e:j=i.toNat
    ·subst e;rw [MH];exact Nf (by omega)
    exact h3 j (by omega)
   simp only [];refine MM.2 λw hw=>?_;obtain ⟨j,hj,rfl⟩:=MP hw;have := h3 j (by omega)
   rwa [gdq,geq hj,MX] at this
  show _=((qb s.values).isEmpty&&s.waits.all (·.isEmpty));rw [hw,<- hv,hb,Bool.not_not];rfl
 show _=((qb s.values).isEmpty&&s.waits.all (·.isEmpty));rw [<- hv,hb];rfl
theorem yQ {cl:Int->Int} {l:List Ji}:∀ {k:Nat} {u:LSt},u∈LSn cl l k->∀ c,(u.2 c).length<=k
 | 0,u,h,c=>by rw [ML.1 h];exact Nat.le_refl _
 | k+1,u,h,c=>by
  obtain ⟨v,hv,hu⟩:=MC.1 h;have ih:=yQ hv;have := ih c;unfold lsx at hu
  split at hu
  ·simp only [MF,MI,or_false] at hu;rcases hu with rfl | rfl | rfl | rfl <;> (simp only [];omega)
  split at hu
  ·simp only [MF,MI,or_false] at hu;rcases hu with rfl | rfl
   ·simp only [mG]
    split
    ·rename_i e;have := ih<|cl (l.getD k default).Loc;rw [lla,Ng];omega
    omega
   simp only [mG]
   split
   ·exact MW _
   omega
  rw [ML.1 hu];omega
theorem IB.wlen (hp:PV p) (h:IB p sp s) {cl:Int->Int} (hi:InT (prg p) cl<|AB s) (b:Nat):(s.waits.getD b default).length<=7:=by
 rcases M6 b s.waits.length with hb | hb
 ·obtain ⟨t,c,ht,hc,rfl⟩:=wK (by rw [<- h.wl];exact hb:b<bif sp then 3*p.length else p.length);have h1:=yQ (hi.ls t) c;have h2:=hi.pc t;have h3:=hp.vs.2 t;simp only at h1;rw [h.bf ht hc,llm] at h1;unfold prg at h2;omega
 rw [gdq,gen hb];exact MW _
theorem Dc (hp:PV p) (h:IB p sp s) {cl:Int->Int} (hi:InT (prg p) cl<|AB s):Jl (bX s) (· = qd.ky s):=by
 have iv:=h.iv hi;have hwl:s.waits.length<=9:=by have := hp.vs.1;rw [h.wl];cases sp <;> simp only [cond_true,cond_false] <;> omega
 unfold bX;refine (yP s.values).bind λv hv=>?_;subst hv;have hk:(keyL s.values).length=15:=rfl;have hsz:(strOfNums<|keyL s.values).size=15:=by
  have := congrArg List.length<|strOfNums_data<|keyL s.values;simpa [hk] using this
 refine .gdD (by rw [hsz];decide) ?_;rw [uF (qB hp iv)];refine Jl.bind (P:=(· = GL s)) ?_ λv hv => .pure (by rw [hv];rfl);refine Jl.loop (λz=>(0<=z.2/\z.2<=(s.waits.length:Int))/\z.1=keyL s.values++((s.waits.take z.2.toNat).flatMap λw=>(w.length:Int)::w)/\z.1.length<=15+8*z.2.toNat) (λz=>((s.waits.length:Int)-z.2).toNat) ⟨⟨Mx _,by simp only [];omega⟩,by simp,by simp only [hk];omega⟩ λz ⟨⟨h1,h2⟩,h3,h4⟩ => ?_;unfold gp;refine .bifD (λhlt=>?_) λhge => .pure ?_
 ·have hw:=h.wlen hp hi z.2.toNat;have hn:z.2.toNat<s.waits.length:=by omega
  refine .gdD ⟨h1,hlt⟩<|.gdY (by omega)<|.gd (dM (by omega) rfl)<|.gd (dM (by rw [lla,Ng];omega) rfl)<|.gdI (by omega)<|.pure ⟨⟨⟨by simp only [];omega,by simp only [];omega⟩,?_,?_⟩,by simp only [];omega⟩
  ·simp only [];rw [show (z.2+1).toNat=z.2.toNat+1 by omega,List.take_add_one,geq hn,h3,M9,show s.waits.getD z.2.toNat default=s.waits[z.2.toNat] by simp [List.getD,hn]];simp only [Option.toList,MQ,List.flatMap_nil,List.append_nil,M0,Nh,List.nil_append]
  simp only [lla,Ng];omega
 rw [h3,show z.2.toNat=s.waits.length by omega,List.take_length]
 rfl
theorem ve {α:Type} {e:Bool} {A B:Option α} {v:α} (ha:e=true->A=some v) (hb:B=some v):Jl (nilK e A B) (· = v):=by
 unfold nilK
 cases e with
 | true=>
  rw [cond_true,if_pos ((ha rfl).trans hb.symm)];exact ⟨v,ha rfl,rfl⟩
 | false=>exact ⟨v,hb,rfl⟩
theorem BQ (w:LL) (h:w.length<=9):Jl (dS w) (· = w):=
 ve (λe=>by rw [MH.1 e]) (mo<|dM (by simp;omega) rfl)
theorem zT (w:LI) (h:w.length<=9):Jl (d9 w) (· = w):=
 ve (λe=>by rw [MH.1 e]) (mo<|dM (by simp;omega) rfl)
theorem BR (hp:PV p) (h:IB p sp s) {t:Nat} (ht:t<p.length) {l:Int} (hl:0<=l/\l<=2):Jl (dm s t l) (· = p6 (s.waits.getD (fD s.split t l).toNat default) l (Z3b.get s.values.mem l)):=by
 have := hp.vs.1;have hx:=h.ixl ht hl;unfold dm;refine .gdD ⟨by omega,by omega⟩<|.gdD hx.2<|.gd ?_<|.pure rfl;refine MM.2 λb hb=>decide_eq_true ?_;have hi:(fD s.split t l).toNat<s.waits.length:=by omega
 rw [gdq,geq hi,MX] at hb;exact h.by_ _ (MG hi) b hb
theorem zU (hp:PV p) (h:IB p sp s) {cl:Int->Int} (hi:InT (prg p) cl<|AB s) {m:Int} (hm:m∈qd.mv s):Jl (cf s m) (· = qd.af s m):=by
 have iv:=h.iv hi;have hl:=hp.vs.1;have hup:s.values.p.length=p.length:=by rw [h.up]
 have hwl:s.waits.length<=9:=by rw [h.wl];cases sp <;> simp only [cond_true,cond_false] <;> omega
 unfold cf;refine (BQ s.waits hwl).bind λv1 e1=>?_;subst e1;rcases uY.1 hm with ⟨t,h1,rfl,h2⟩ | ⟨b,h1,rfl,h2⟩
 ·rw [hup] at h1;refine .bifD (λk=>absurd k<|by omega) λ_=>?_;have hc:m7 s.values t=true:=by
   unfold cnB at h2;exact (bae _ _ ▸ h2).1
  have hx:=iv.ins hp h1 hc;have e:qd.af s t=exB s t (iE s.values t):=by
   simp only [qd,h.up];rw [if_neg (by omega)]
  rw [e];refine (xE hp iv h1).bind λv ⟨g1,g2⟩ => ?_;have g3:=g2<|g1.trans hc;have hpc:=iv.pc t (by omega);have hr7:=hp.vs.2 t;have hval:=(h.val iv (by omega:t<3) hx).2;rw [<- g3] at hx hval ⊢;generalize v.1=x at hx hval ⊢;have hX:=hx;obtain ⟨x1,x2,x3,x4,x5,x6⟩:=hX;refine .gdD ⟨by omega,by omega⟩<|.gdY (by omega) ?_;refine Jl.bind (P:=λw=>(⟨⟨w.1,w.2.1,w.2.2.1⟩,⟨w.2.2.2.1,w.2.2.2.2.1,w.2.2.2.2.2.1⟩,⟨w.2.2.2.2.2.2.1,w.2.2.2.2.2.2.2.1,w.2.2.2.2.2.2.2.2.1⟩⟩:Z33)=(exB s t x).values.reg/\w.2.2.2.2.2.2.2.2.2=s.waits) ?_ λw5 ⟨hw5,hw6⟩ => ?_
  ·refine (Bx _).bind λb hb=>?_;have hb':b=rdX x:=hb;refine .bif (λhc=>(BR hp h h1 ⟨x1,x2⟩).bind λv20 hv20 => .gdD ⟨x3,by omega⟩<|.pure ⟨?_,rfl⟩) λhc => .pure ⟨?_,rfl⟩
   ·simp only [exB];rw [if_pos (by rw [<- hb'];exact hc),hv20]
   simp only [exB];rw [if_neg (by rw [<- hb',hc];decide)]
  refine Jl.bind (P:=λw=>(⟨w.1,w.2.1,w.2.2.1⟩:Z3b)=(exB s t x).values.mem/\w.2.2.2=(exB s t x).waits) ?_ λw10 ⟨hw10,hw11⟩ => .pure ?_
  ·rw [hw6];refine Jl.bind (P:=(· = tO x)) (.bif (λhc => .pure<|by unfold tO;rw [hc];rfl) λhc => .pure<|by unfold tO;rw [hc];rfl) λb hb=>?_;subst hb;refine .bif (λhs=>?_) λhs=>?_
   ·obtain ⟨o1,o2,o3,o4⟩:=GH hs;refine (uG s (by omega) ⟨x1,x2⟩).bind λv29 hv29=>?_;subst hv29;have hix:=h.ixl h1 (l:=x.Loc) ⟨x1,x2⟩;have hwb:=h.wlen hp hi (fD s.split t x.Loc).toNat;refine .gdD hix<|.gdY (by omega)<|.gdY (by omega)<|(zT _<|by omega).bind λv33 hv33=>?_;subst hv33;refine Jl.bind (P:=(· = pK s.values t x)) ?_ λv37 hv37=>?_
    ·unfold bz pK;refine .bif (λho => .gdD ⟨by omega,by omega⟩<|.gdD ⟨x3,by simp only [];omega⟩<|.pure ?_) λho => .gdY (by simp only [];omega) (.pure ?_)
     ·rw [if_pos (by simpa using ho)]
     rw [if_neg (by simpa using ho)]
    subst hv37;refine .gdY (by omega)<|.gd (dM (by omega) rfl)<|.gdD hix<|.pure ⟨?_,?_⟩
    ·simp only [exB];rw [if_neg o4]
    simp only [exB];rw [if_pos hs]
   refine .bif (λh5 => .gdY (by omega)<|.gdD ⟨x1,by omega⟩<|.pure ⟨?_,?_⟩) λh5 => .pure ⟨?_,?_⟩
   ·simp only [exB];rw [if_pos (by simpa using h5)]
   ·simp only [exB];rw [if_neg (by rw [hs];decide)]
   ·simp only [exB];rw [if_neg (by simpa using h5)]
   simp only [exB];rw [if_neg (by rw [hs];decide)]
  rw [hw5,hw10,hw11]
  rfl
 have hb:(s.waits.getD b default).length<=7:=h.wlen hp hi b;have hne:0<(s.waits.getD b default).length:=Nu.2 h2;have eb:((s.values.p.length:Int)+(b:Int)-(s.values.p.length:Int)).toNat=b:=by omega
 have e:qd.af s ((s.values.p.length:Int)+(b:Int))=flB s b:=by
  simp only [qd];rw [if_pos (by omega),eb]
 rw [e];have hloc:0<=((s.waits.getD b default).getD 0 default).tdiv 16/\((s.waits.getD b default).getD 0 default).tdiv 16<=2:=by
  rw [h.wl] at h1;obtain ⟨t,c,ht,hc,rfl⟩:=wK h1;have hb:=h.bf ht hc;obtain ⟨b,w,hw⟩:=Ns h2;rw [hw,MO] at hb;have he:=((hi.vl t).2 c (wV b)<|by show _∈(AB s).bf t c;rw [hb];exact MB).1;rw [hw];exact he
 refine .bifD (λ_=>?_) λk=>absurd (by omega) k;rw [eb];refine .gdI (by omega)<|.gdD ⟨by omega,by omega⟩<|.gdD ⟨Mx _,by omega⟩<|.gdD ⟨by omega,by omega,Mx _⟩<|.gdD ⟨by omega,by omega⟩<|.gdD (by decide)<|.gdY ?_<|.gdD ⟨hloc.1,?_⟩<|.pure ?_
 ·exact ⟨hloc.1,Int.le_trans hloc.2<|by decide⟩
 ·exact Int.lt_of_le_of_lt hloc.2 (by decide)
 unfold flB;have : ((s.waits.getD b default).drop (1:Int).toNat).take (((s.waits.getD b default).length:Int).toNat-(1:Int).toNat)=(s.waits.getD b default).drop 1:=by
  rw [List.take_of_length_le]
  ·rfl
  rw [List.length_drop];exact Nat.le_refl _
 rw [this]
 rfl
end
theorem BS {a b:Z3b} (h:∀ t:Nat,t<3->Z3b.get a t=Z3b.get b t):a=b:=by
 have h0:=h 0 (by decide);have h1:=h 1 (by decide);have h2:=h 2 (by decide);rw [IL,IL] at h0;rw [IM,IM] at h1;rw [IP,IP] at h2
 cases a;cases b
 simp only at h0 h1 h2;rw [h0,h1,h2]
theorem Fe {a b:Z33} (h:∀ t:Nat,t<3->Z33.get a t=Z33.get b t):a=b:=by
 have h0:a.x0=b.x0:=h 0 (by decide);have h1:a.x1=b.x1:=h 1 (by decide);have h2:a.x2=b.x2:=h 2 (by decide)
 cases a;cases b
 simp only at h0 h1 h2;rw [h0,h1,h2]
theorem wM:∀ {v w:LL},v.length=w.length->(v.flatMap λw=>(w.length:Int)::w)=(w.flatMap λw=>(w.length:Int)::w)->v=w
 | [],[],_,_=>rfl
 | [],_::_,h,_=>by cases h
 | _::_,[],h,_=>by cases h
 | a::v,b::w,h,e=>by
  rw [MQ,MQ,Nh,Nh] at e;injection e with e1 e2;obtain ⟨e3,e4⟩:=List.append_inj e2 (by omega);rw [e3,wM (by simpa using h) e4]
section
variable {p:List (List Ji)} {sp:Bool}
theorem Ff {u v:Jj} (hp:u.p=v.p) (h1:pcF u.pc=pcF v.pc) (hu:∀ t:Nat,t<3->0<=Z3b.get u.pc t) (hv:∀ t:Nat,t<3->0<=Z3b.get v.pc t) (h2:rgF u.reg=rgF v.reg) (h3:mmF u.mem=mmF v.mem):u=v:=by
 have e1:u.pc=v.pc:=BS λt ht=>by
  have := congrFun h1 t;simp only [pcF,if_pos ht] at this;have := hu t ht;have := hv t ht;omega
 have e2:u.reg=v.reg:=Fe λt ht=>BS λg hg=>by
  have := congrFun (congrFun h2 t) g;simp only [rgF] at this
  rwa [if_pos ⟨ht,by omega,by omega⟩,if_pos ⟨ht,by omega,by omega⟩] at this
 have e3:u.mem=v.mem:=BS λl hl=>by
  have := congrFun h3 l;simp only [mmF] at this
  rwa [if_pos ⟨by omega,by omega⟩,if_pos ⟨by omega,by omega⟩] at this
 cases u;cases v
 simp only at hp e1 e2 e3;subst hp e1 e2 e3
 rfl
theorem GM {s t:aj} (hs:IB p sp s) (ht:IB p sp t) (h:AB s=AB t):s=t:=by
 have e1:s.values=t.values:=Ff (hs.up.trans ht.up.symm) (congrArg TS.pc h) hs.pc ht.pc (congrArg TS.rg h)<|congrArg TS.mm h;have e2:s.waits=t.waits:=by
  refine List.ext_getElem (hs.wl.trans ht.wl.symm) λb h1 h2=>?_;rw [hs.wl] at h1;obtain ⟨i,c,hi,hc,rfl⟩:=wK h1;have := congrFun (congrFun (congrArg TS.bf h) i) c;rw [hs.bf hi hc,ht.bf hi hc] at this;have := qE this;rw [<- hs.wl] at h1;simpa [List.getD,h1,h2] using this
 have e3:=hs.sq.trans ht.sq.symm
 cases s;cases t
 simp only at e1 e2 e3;subst e1 e2 e3
 rfl
theorem BV (hp:PV p) {s:aj} (h:IB p sp s) {cl:Int->Int} (hi:InT (prg p) cl<|AB s):∀ x∈GL s,0<=x/\x<=255:=λx hx=>by
 unfold GL at hx;rcases M5.1 hx with hx | hx
 ·exact qB hp (h.iv hi) x hx
 obtain ⟨w,hw,hx⟩:=MC.1 hx;rcases MF.1 hx with rfl | hx
 ·obtain ⟨b,hb,rfl⟩:=MP hw;have := h.wlen hp hi b;rw [gdq,geq hb,MX] at this;omega
 exact h.by_ w hw x hx
theorem Fg (hp:PW p):Mok qd (kS p sp) 549755813888:=
 (BN hp sp).mok (λs t hs ht rs rt h=>by
  have is:=InT.of hp.pv.prg rs;have it:=InT.of hp.pv.prg rt;have e:=lI (BV hp.pv hs is) (BV hp.pv ht it) h;unfold GL at e;obtain ⟨e1,e2⟩:=List.append_inj e rfl;have e3:=ru (hs.up.trans ht.up.symm) e1;have e4:=wM (hs.wl.trans ht.wl.symm) e2;have e5:=hs.sq.trans ht.sq.symm
  cases s;cases t
  simp only at e3 e4 e5;subst e3 e4 e5
  rfl) (λs t hs ht h=>GM hs ht h) hp.cnl
theorem Fh (hp:PW p):Mrt bZ cf bX cu (λs=>aN s.values) qd (kS p sp):=by
 have B:=BN hp sp;have hi:∀ {s},Rea qd (kS p sp) s->InT (prg p) (clB sp) (AB s):=λh=>InT.of hp.pv.prg (B.rea h).2;refine ⟨λs hs=>zS hp.pv (B.rea hs).1<|(B.rea hs).1.iv<|hi hs,λs m hs hm=>zU hp.pv (B.rea hs).1 (hi hs) hm,λs hs=>Dc hp.pv (B.rea hs).1<|hi hs,λs hs=>BP hp.pv (B.rea hs).1<|(B.rea hs).1.iv<|hi hs,λs hs _=>uW hp.pv<|(B.rea hs).1.iv<|hi hs,λs hs=>?_⟩;have h1:=sJ (cnB s) Int.ofNat s.values.p.length;have h2:=sJ (λb => !(s.waits.getD b default).isEmpty) (λb:Nat=>(s.values.p.length:Int)+(b:Int)) s.waits.length;have h3:=hp.pv.vs.1;have h4:=(B.rea hs).1.wl;have h5:=(B.rea hs).1.up;have h6:s.waits.length<=9:=by rw [h4];cases sp <;> simp only [cond_true,cond_false] <;> omega
 have e:qd.mv s=fil (cnB s) Int.ofNat s.values.p.length++fil (λb => !(s.waits.getD b default).isEmpty) (λb:Nat=>(s.values.p.length:Int)+(b:Int)) s.waits.length:=rfl;rw [e,lla];have : s.values.p.length<=3:=by rw [h5];exact h3
 omega
theorem De (hp:PV p) (sp:Bool):Jl (gz p sp) (· = kS p sp):=by
 have := hp.vs.1;unfold gz;refine .gdD ⟨by omega,Mx _,by omega,by omega⟩ ?_;refine Jl.bind (P:=(· = List.replicate (bif sp then 3*p.length else p.length) [])) (.bif (λh => .gdI (by omega)<|.gdD ⟨by omega,Mx _,by omega,by omega⟩<|.pure ?_) λh => .pure ?_) λv hv => .pure ?_
 ·rw [h,cond_true];congr 1
 ·rw [h,cond_false];congr 1
 rw [hv];rfl
structure Run (O:List Int->Prop) (q:List (List Int)):Prop where
 lt:q.Pairwise ltL
 mem:∀ o,o∈q↔O o
 len:q.length<=549755813888
def Il (p:List<|List Ji) (sp:Bool):LI->Prop:=IQ (prg p) false (clB sp) p.length
theorem yR (hp:PW p) (hv:aJ p=some true) (sp:Bool):Jl (cz p sp) λq=>Run (Il p sp) q.1:=by
 unfold cz;rw [hv];refine Jl.bind (P:=(· = true)) (.pure rfl) λb hb => .bif (λh=>absurd h (by rw [hb];decide)) λ_=>?_;refine (De hp.pv sp).bind λv ev=>?_;subst ev;refine Jl.bind (P:=λq:LL×Int=>Run (Il p sp) q.1) ?_ λq hq => .pure hq;have e:dH (kS p sp)=Gx bZ cf bX cu (λs=>aN s.values) aO (kS p sp):=rfl;rw [e];have B:=BN hp sp;have hQ:∀ l:LL,l.length<=549755813888->(∀ o∈l,EY qd (kS p sp) o)->Jl (aO l) λq=>Sor l q/\l.length<=549755813888:=λl hl ho=>(qa (by omega) λr hr=>by
  obtain ⟨s,h1,_,rfl⟩:=ho r hr;have h2:=(B.rea h1).1.up;have h3:=hp.pv.vs.1;show (wG s.values).length<=_;rw [uX,h2];omega).mono λq h=>⟨h,hl⟩
 exact (xB (Q:=λl q=>Sor l q/\l.length<=549755813888) (Fg hp) (Fh hp) (by decide) hQ).mono λq ⟨l,⟨h1,h3⟩,h2,_⟩=>⟨h1.lt,λo=>(h1.mem o).trans<|(h2 o).trans<|B.outs o,ME h1.len h3⟩
theorem yS (hv:aJ p=some false) (sp:Bool):cz p sp=some ([],0):=by
 unfold cz;rw [hv]
 rfl
theorem GN (hp:PV p) (cl:Int->Int):Bis Gz ⟨v0 p⟩ (StT (prg p) true cl) a0T (DnT<|prg p) (outT p.length) (λs=>Iv p s.values) AS:=by
 have hl:=hp.vs.1;have hex:∀ (s:Jk) (t:Nat) (x:Ji),Iv p s.values->t<p.length->InR x->AS ⟨BA s.values t x⟩=exT true cl (AS s) t x:=λs t x h ht hx=>by
  have ht3:t<3:=by omega
  have hloc:0<=x.Loc/\x.Loc<=2:=⟨hx.1,hx.2.1⟩;have hreg:0<=x.Reg/\x.Reg<=2:=⟨hx.2.2.1,hx.2.2.2.1⟩;have hv:pK s.values t x=zQ (AS s) t x:=by
   unfold pK zQ
   split
   ·simp only [AS,rgF];rw [if_pos ⟨ht3,hreg⟩]
   rfl
  have hm:(AS s).mm x.Loc=Z3b.get s.values.mem x.Loc:=if_pos hloc;have hse:qc cl (AS s) t x.Loc=Z3b.get s.values.mem x.Loc:=hm;refine TS.ext ?_ ?_ ?_ ?_
  ·have := h.pc t ht3;simp only [AS,BA,exT];rw [xJ _ ht3]
   congr 1
   simp only [pcF,if_pos ht3];omega
  ·rw [Ej,hse];simp only [AS,BA]
   split
   ·rw [xK _ ht3 hreg]
   rfl
  ·rw [Ek,<- hv];simp only [AS,BA,Bool.true_or,Bool.and_true]
   split
   ·rw [xL _ hloc]
   rfl
  rw [El];simp [AS]
 refine ⟨Iv.start p,?_,λs m h hr hm=>?_,λs a h hr hs=>?_,λs h hr=>?_,λs h hr _=>?_⟩
 ·obtain ⟨h1,h2,h3⟩:=uZ p;exact TS.ext h1 h2 h3 rfl
 ·obtain ⟨t,h1,rfl,h2⟩:=iF.1 hm;rw [h.up] at h1;have hx:=h.ins hp h1 h2;show Iv p (BA _ t<|iE _ t)/\_;refine ⟨h.after (by omega) h2 hx,?_⟩;show StT _ _ _ _ (AS ⟨BA s.values t<|iE s.values t⟩);rw [hex s t _ h h1 hx];exact .ex ⟨(iR h.up (by omega:t<3) (h.pc t<|by omega).1).1 h2,λ_ _=>rfl⟩
 ·cases hs with
  | @ex t x hc=>
   have ht:=wL hc.1;obtain ⟨h3,rfl⟩:=(iR h.up (by omega:t<3) (h.pc t<|by omega).1).2 x hc.1;exact ⟨t,iF.2 ⟨t,by rw [h.up];exact ht,rfl,h3⟩,hex s t _ h ht<|hp.prg _ _ _ hc.1⟩
  | fl hb=>cases hb
 ·show (qb s.values).isEmpty=true↔_;rw [MH];refine ⟨λg=>⟨λt=>?_,λ_ _=>rfl⟩,λg=>?_⟩
  ·rcases M6 t p.length with ht | ht
   ·refine Decidable.byContradiction λk=>?_;have := ((iR h.up (by omega:t<3) (h.pc t<|by omega).1).2 _<|geq<|Nat.lt_of_not_le k).1;have : (t:Int)∈qb s.values:=iF.2 ⟨t,by rw [h.up];exact ht,rfl,this⟩;rw [g] at this;cases this
   unfold prg;rw [gdq,gen ht];exact MW _
  refine Nt.2 λm hm=>?_;obtain ⟨t,ht,rfl,hc⟩:=iF.1 hm;rw [h.up] at ht;have := (ges<|(iR h.up (by omega:t<3) (h.pc t<|by omega).1).1 hc).1;have := g.1 t;simp only [AS] at this;omega
 have := Em (u:=s.values) (a:=AS s) rfl rfl (by rw [h.up];exact hl);rw [h.up] at this;exact this.symm
theorem Df (hp:PV p) (cl:Int->Int) (o:LI):E9 p o↔IQ (prg p) true cl p.length o:=(GN hp cl).outs o
theorem Dg (hp:PV p) (hv:aJ p=some true):Jl (eM p) (Run<|E9 p):=by
 have h0:Iv p (⟨v0 p⟩:Jk).values:=Iv.start p;have e:fE ⟨v0 p⟩=Gx dJ dK cF cG (λs=>aN s.values) aO ⟨v0 p⟩:=rfl;have hQ:∀ l:LL,l.length<=8589934592->(∀ o∈l,E9 p o)->Jl (aO l) λq=>Sor l q/\l.length<=8589934592:=λl hl ho=>(qa (by omega) λr hr=>by
  obtain ⟨s,h1,_,rfl⟩:=ho r hr;have h2:=(oP hp h0 h1).up;have h3:=hp.vs.1;show (wG s.values).length<=_;rw [uX,h2];omega).mono λq h=>⟨h,hl⟩
 have hr:=(xB (Q:=λl q=>Sor l q/\l.length<=8589934592) (E5 hp h0) (E8 hp h0) (by decide) hQ).mono (P':=λq=>Run (E9 p) q.1) λq ⟨l,⟨h1,h3⟩,h2,_⟩=>⟨h1.lt,λo=>(h1.mem o).trans<|h2 o,ME h1.len<|by omega⟩;unfold eM;rw [hv];refine Jl.bind (P:=(· = true)) (.pure rfl) λb hb => .bif (λh=>absurd h<|by rw [hb];decide) λ_=>?_;exact Jl.bind (P:=λs:Jk=>s=⟨v0 p⟩) (.pure rfl) λv hv=>Jl.bind (P:=λq:LL×Int=>Run (E9 p) q.1) (hv ▸ (e ▸ hr)) λq hq => .pure hq
theorem yT (n:Nat) (a:TS):(outT n a).length=3*n+3:=by
 unfold outT;rw [lla];have : ∀ n,((My n).flatMap λt=>(My 3).map λg:Nat=>a.rg t g).length=3*n:=λn=>by
  induction n with
  | zero=>rfl
  | succ n ih=>
   rw [show My (n+1)=My n++[n] from MN,M9,lla,ih];simp;omega
 rw [this];simp
theorem yU {o:LI} (h:Il p sp o):o.length=3*p.length+3:=by
 obtain ⟨a,_,_,rfl⟩:=h;exact yT _ _
theorem Dh (hp:PV p) {o:LI} (h:E9 p o):o.length=3*p.length+3:=by
 obtain ⟨a,_,_,rfl⟩:=(Df hp id o).1 h;exact yT _ _
theorem PW.of (h:gb (p.map λr=>r.map iN)=true):PW p:=by
 have hp:=PV.of h;refine ⟨hp,?_,λt k x hx=>?_⟩
 ·have hc:oL uA (p.map λr=>r.map iN)<=12:=by
   simp only [gb,qA,bae,dte] at h;exact h.1.1.2
  have he:∀ l:List Ji,Jm l=(l.map iN).countP uA:=λl=>by
   unfold Jm;rw [List.countP_map]
   rfl
  have hl:=hp.vs.1;unfold oL at hc;have hd:(default:List Ji)=[]:=rfl;unfold prg
  match p,hl with
  | [],_=>simp [he,hd]
  | [a],_=>simp [he,hd] at hc ⊢;omega
  | [a,b],_=>simp [he,hd] at hc ⊢;omega
  | [a,b,c],_=>simp [he,hd] at hc ⊢;omega
  | _::_::_::_::_,hl=>simp at hl
 have ht:=wL hx;obtain ⟨hk,e⟩:=ges hx;have h1:=(Vs.of h).2 t k ht hk;have e2:(p.getD t default).getD k default=x:=by
  rw [gdq];unfold Go.Proofs.YtjcmfddobaplbaaGreat.prg at hx;rw [hx];rfl
 rw [e2] at h1;unfold lH iN at h1;simp only at h1
 split at h1
 ·omega
 split at h1
 ·omega
 split at h1
 ·omega
 split at h1
 ·omega
 cases h1
end
def cJ (s1_:List Ji) (s2_:List Ji):LS Int (Unit ⊕ Bool):=λs5=>bif decide (s5<(s1_.length:Int)) then gd (decide<|0<=s5/\s5<(s1_.length:Int)) <|gd (decide<|0<=s5/\s5<(s2_.length:Int)) <|bif (!(((s1_.getD s5.toNat default).Op)==((s2_.getD s5.toNat default).Op)&&(((s1_.getD s5.toNat default).Loc)==((s2_.getD s5.toNat default).Loc)&&(((s1_.getD s5.toNat default).Reg)==((s2_.getD s5.toNat default).Reg)&&(((s1_.getD s5.toNat default).Val)==((s2_.getD s5.toNat default).Val)&&true))))) then some (.inr<|.inr false) else gd (Jg .i64<|s5+(1:Int)) <|some (.inl<|s5+(1:Int)) else some (.inr<|.inl ())
def bg (s1_:List Ji) (s2_:List Ji):Option Bool:= bif ((s1_.length:Int) != (s2_.length:Int)) then some false else sumK (bQ (cJ s1_ s2_) (0:Int)) λs2=>some true
def gP (x:List Ji) (y:List Ji):Option Bool:= Mw (bg x y) λv1=>some v1
def aI (s1_:List<|List Ji) (s2_:List<|List Ji):LS Int (Unit ⊕ Bool):=λs5=>bif decide (s5<(s1_.length:Int)) then gd (decide<|0<=s5/\s5<(s1_.length:Int)) <|gd (decide<|0<=s5/\s5<(s2_.length:Int)) <|Mw (gP (s1_.getD s5.toNat default)<|s2_.getD s5.toNat default) λv10=>bif !v10 then some (.inr<|.inr false) else gd (Jg .i64<|s5+(1:Int)) <|some (.inl<|s5+(1:Int)) else some (.inr<|.inl ())
def aC (s1_:List<|List Ji) (s2_:List<|List Ji):Option Bool:= bif ((s1_.length:Int) != (s2_.length:Int)) then some false else sumK (bQ (aI s1_ s2_) (0:Int)) λs2=>some true
def dN (a:List<|List Ji) (b:List<|List Ji):Option Bool:= Mw (aC a b) λv1=>some v1
def gY (code:LI):Option au:= Mw (bif decide ((2000:Int)<(code.length:Int)) then gd (decide<|0<=(0:Int)/\(0:Int)<=(2000:Int)/\(2000:Int)<=(code.length:Int)) <|some ((code.drop (0:Int).toNat).take<|(2000:Int).toNat-(0:Int).toNat) else some code) λs1=>some (⟨s1,(0:Int)⟩:au)
def bD (r_:au) (n:Int):Option (au×Int):= gd (Jg .i64<|r_.p+(1:Int)) <|Mw (bif decide (n<(1:Int)) then some true else some ((r_.b.length:Int)==(0:Int))) λs2=>bif s2 then some ((⟨r_.b,(r_.p+(1:Int))⟩:au),(0:Int)) else gd (Jg .i64<|(r_.p+(1:Int))-(1:Int)) <|bif decide (((r_.p+(1:Int))-(1:Int))<(r_.b.length:Int)) then gd (decide<|0<=((r_.p+(1:Int))-(1:Int))/\((r_.p+(1:Int))-(1:Int))<(r_.b.length:Int)) <|gd (Jg .i64<|r_.b.getD ((r_.p+(1:Int))-(1:Int)).toNat default) <|gd (decide<|n≠0) <|some ((⟨r_.b,(r_.p+(1:Int))⟩:au),((r_.b.getD ((r_.p+(1:Int))-(1:Int)).toNat default).tmod n)) else gd (decide<|(r_.b.length:Int)≠0) <|gd (decide<|0<=(((r_.p+(1:Int))-(1:Int)).tmod (r_.b.length:Int))/\(((r_.p+(1:Int))-(1:Int)).tmod (r_.b.length:Int))<(r_.b.length:Int)) <|gd (Jg .i64<|r_.b.getD (((r_.p+(1:Int))-(1:Int)).tmod (r_.b.length:Int)).toNat default) <|gd (Jg .i64<|(r_.b.getD (((r_.p+(1:Int))-(1:Int)).tmod (r_.b.length:Int)).toNat default)*(131:Int)) <|gd (Jg .i64<|((r_.p+(1:Int))-(1:Int))*(7:Int)) <|gd (Jg .i64<|(((r_.p+(1:Int))-(1:Int))*(7:Int))+(3:Int)) <|gd (decide<|0<=(((((r_.p+(1:Int))-(1:Int))*(7:Int))+(3:Int)).tmod (r_.b.length:Int))/\(((((r_.p+(1:Int))-(1:Int))*(7:Int))+(3:Int)).tmod (r_.b.length:Int))<(r_.b.length:Int)) <|gd (Jg .i64<|r_.b.getD (((((r_.p+(1:Int))-(1:Int))*(7:Int))+(3:Int)).tmod (r_.b.length:Int)).toNat default) <|gd (Jg .i64<|(r_.b.getD (((((r_.p+(1:Int))-(1:Int))*(7:Int))+(3:Int)).tmod (r_.b.length:Int)).toNat default)*(1117:Int)) <|gd (Jg .i64<|((r_.b.getD (((r_.p+(1:Int))-(1:Int)).tmod (r_.b.length:Int)).toNat default)*(131:Int))+((r_.b.getD (((((r_.p+(1:Int))-(1:Int))*(7:Int))+(3:Int)).tmod (r_.b.length:Int)).toNat default)*(1117:Int))) <|gd (Jg .i64<|((r_.p+(1:Int))-(1:Int))*(29:Int)) <|gd (Jg .i64<|(((r_.b.getD (((r_.p+(1:Int))-(1:Int)).tmod (r_.b.length:Int)).toNat default)*(131:Int))+((r_.b.getD (((((r_.p+(1:Int))-(1:Int))*(7:Int))+(3:Int)).tmod (r_.b.length:Int)).toNat default)*(1117:Int)))+(((r_.p+(1:Int))-(1:Int))*(29:Int))) <|gd (Jg .i64<|((r_.p+(1:Int))-(1:Int)).tdiv (r_.b.length:Int)) <|gd (Jg .i64<|(((r_.p+(1:Int))-(1:Int)).tdiv (r_.b.length:Int))*(53:Int)) <|gd (Jg .i64<|((((r_.b.getD (((r_.p+(1:Int))-(1:Int)).tmod (r_.b.length:Int)).toNat default)*(131:Int))+((r_.b.getD (((((r_.p+(1:Int))-(1:Int))*(7:Int))+(3:Int)).tmod (r_.b.length:Int)).toNat default)*(1117:Int)))+(((r_.p+(1:Int))-(1:Int))*(29:Int)))+((((r_.p+(1:Int))-(1:Int)).tdiv (r_.b.length:Int))*(53:Int))) <|gd (decide<|(64:Int)≠0) <|gd (Jg .i64<|(((((r_.b.getD (((r_.p+(1:Int))-(1:Int)).tmod (r_.b.length:Int)).toNat default)*(131:Int))+((r_.b.getD (((((r_.p+(1:Int))-(1:Int))*(7:Int))+(3:Int)).tmod (r_.b.length:Int)).toNat default)*(1117:Int)))+(((r_.p+(1:Int))-(1:Int))*(29:Int)))+((((r_.p+(1:Int))-(1:Int)).tdiv (r_.b.length:Int))*(53:Int))).tdiv (64:Int)) <|Mw (some<|HM .i64 (((((r_.b.getD (((r_.p+(1:Int))-(1:Int)).tmod (r_.b.length:Int)).toNat default)*(131:Int))+((r_.b.getD (((((r_.p+(1:Int))-(1:Int))*(7:Int))+(3:Int)).tmod (r_.b.length:Int)).toNat default)*(1117:Int)))+(((r_.p+(1:Int))-(1:Int))*(29:Int)))+((((r_.p+(1:Int))-(1:Int)).tdiv (r_.b.length:Int))*(53:Int)))<|(((((r_.b.getD (((r_.p+(1:Int))-(1:Int)).tmod (r_.b.length:Int)).toNat default)*(131:Int))+((r_.b.getD (((((r_.p+(1:Int))-(1:Int))*(7:Int))+(3:Int)).tmod (r_.b.length:Int)).toNat default)*(1117:Int)))+(((r_.p+(1:Int))-(1:Int))*(29:Int)))+((((r_.p+(1:Int))-(1:Int)).tdiv (r_.b.length:Int))*(53:Int))).tdiv (64:Int)) λw27=>gd (decide<|n≠0) <|some ((⟨r_.b,(r_.p+(1:Int))⟩:au),(w27.tmod n))
def fq (r_:au) (list:LI):Option (au×Int):= Mw (bD (⟨r_.b,r_.p⟩:au) (list.length:Int)) λv1=>gd (decide<|0<=v1.2/\v1.2<(list.length:Int)) <|some ((⟨v1.1.b,v1.1.p⟩:au),(list.getD v1.2.toNat default))
def gu (r_:au) (list:List ByteArray):Option (au×ByteArray):= Mw (bD (⟨r_.b,r_.p⟩:au) (list.length:Int)) λv1=>gd (decide<|0<=v1.2/\v1.2<(list.length:Int)) <|some ((⟨v1.1.b,v1.1.p⟩:au),(list.getD v1.2.toNat default))
def gB:Option Int:= some (1296:Int)
def jv (x:Int) (low:Int) (high:Int):Option Bool:= Mw (bif decide (low<=x) then some (decide<|x<=high) else some false) λs1=>some s1
def fS:Option (List Ji):= some ([(⟨(2:Int),(0:Int),(0:Int),(1:Int)⟩:Ji),(⟨(2:Int),(1:Int),(0:Int),(1:Int)⟩:Ji),(⟨(1:Int),(0:Int),(0:Int),(0:Int)⟩:Ji),(⟨(1:Int),(1:Int),(1:Int),(0:Int)⟩:Ji),(⟨(4:Int),(0:Int),(0:Int),(0:Int)⟩:Ji),(⟨(5:Int),(0:Int),(2:Int),(2:Int)⟩:Ji)]:List Ji)
def ia (n:Int):Option (List<|List Ji):= Mw (fS) λv1=>gd (decide<|(216:Int)≠0) <|gd (Jg .i64<|n.tdiv (216:Int)) <|gd (decide<|0<=(n.tdiv (216:Int))/\(n.tdiv (216:Int))<(v1.length:Int)) <|gd (decide<|(36:Int)≠0) <|gd (Jg .i64<|n.tdiv (36:Int)) <|gd (decide<|(6:Int)≠0) <|gd (decide<|0<=((n.tdiv (36:Int)).tmod (6:Int))/\((n.tdiv (36:Int)).tmod (6:Int))<(v1.length:Int)) <|gd (Jg .i64<|n.tdiv (6:Int)) <|gd (decide<|0<=((n.tdiv (6:Int)).tmod (6:Int))/\((n.tdiv (6:Int)).tmod (6:Int))<(v1.length:Int)) <|gd (decide<|0<=(n.tmod (6:Int))/\(n.tmod (6:Int))<(v1.length:Int)) <|some ([([(v1.getD (n.tdiv (216:Int)).toNat default),(v1.getD ((n.tdiv (36:Int)).tmod (6:Int)).toNat default)]:List Ji),([(v1.getD ((n.tdiv (6:Int)).tmod (6:Int)).toNat default),(v1.getD (n.tmod (6:Int)).toNat default)]:List Ji)]:List<|List Ji)
def fu (n:Int):Option ((List<|List Ji)×Bool):= Mw (gB) λv1=>gd (Jg .i64<|v1-(1:Int)) <|Mw (jv n (0:Int)<|v1-(1:Int)) λv3=>bif !v3 then some (([]:List<|List Ji),false) else Mw (ia n) λv5=>some (v5,true)
def fA:Option (List Ji):= some ([(⟨(2:Int),(0:Int),(0:Int),(1:Int)⟩:Ji),(⟨(2:Int),(1:Int),(0:Int),(1:Int)⟩:Ji),(⟨(1:Int),(0:Int),(0:Int),(0:Int)⟩:Ji),(⟨(1:Int),(1:Int),(1:Int),(0:Int)⟩:Ji),(⟨(4:Int),(0:Int),(0:Int),(0:Int)⟩:Ji),(⟨(5:Int),(0:Int),(2:Int),(2:Int)⟩:Ji)]:List Ji)
def gD:Option Int:= Mw (fA) λv1=>gd (Jg .i64<|(v1.length:Int)*(v1.length:Int)) <|gd (Jg .i64<|((v1.length:Int)*(v1.length:Int))*(v1.length:Int)) <|gd (Jg .i64<|(((v1.length:Int)*(v1.length:Int))*(v1.length:Int))*(v1.length:Int)) <|some<|(((v1.length:Int)*(v1.length:Int))*(v1.length:Int))*(v1.length:Int)
def gF (v1:(List Ji)):LS ((List<|List Ji)×Int×Int) (List<|List Ji):=λs6=>bif decide ((0:Int)<=s6.2.1) then gd (decide<|(2:Int)≠0) <|gd (Jg .i64<|s6.2.1.tdiv (2:Int)) <|gd (decide<|(v1.length:Int)≠0) <|gd (decide<|0<=(s6.2.2.tmod (v1.length:Int))/\(s6.2.2.tmod (v1.length:Int))<(v1.length:Int)) <|gd (decide<|0<=(s6.2.1.tdiv (2:Int))/\(s6.2.1.tdiv (2:Int))<(s6.1.length:Int)) <|gd (fo (([(v1.getD (s6.2.2.tmod (v1.length:Int)).toNat default)]:List Ji).length+(s6.1.getD ((s6.2.1.tdiv (2:Int)).toNat) default).length) 32) <|gd (Jg .i64<|s6.2.2.tdiv (v1.length:Int)) <|gd (Jg .i64<|s6.2.1-(1:Int)) <|some (.inl ((s6.1.set ((s6.2.1.tdiv (2:Int)).toNat)<|([(v1.getD (s6.2.2.tmod (v1.length:Int)).toNat default)]:List Ji)++(s6.1.getD ((s6.2.1.tdiv (2:Int)).toNat) default)),(s6.2.1-(1:Int)),(s6.2.2.tdiv (v1.length:Int)))) else some (.inr s6.1)
def ja (n:Int):Option (List<|List Ji):= Mw (fA) λv1=>Mw (bQ (gF v1) (([([]:List Ji),([]:List Ji)]:List<|List Ji),(3:Int),n)) λs2=>some s2
def fB (n:Int):Option ((List<|List Ji)×Bool):= Mw (bif decide (n<(0:Int)) then some true else Mw (gD) λv3=>some<|decide<|v3<=n) λs1=>bif s1 then some (([]:List<|List Ji),false) else Mw (ja n) λv5=>some (v5,true)
def ib (name:ByteArray):Option Bool:= Mw (bif decide (name=(⟨#[115,101,113]⟩:ByteArray)) then some true else some (decide<|name=(⟨#[116,115,111]⟩:ByteArray))) λs1=>Mw (bif s1 then some true else some (decide<|name=(⟨#[112,115,111]⟩:ByteArray))) λs3=>Mw (bif s3 then some true else some (decide<|name=(⟨#[114,97]⟩:ByteArray))) λs5=>some s5
def iS (x:LI) (a1:LI):Option Bool:= Mw (cn x a1) λv1=>some v1
def bP (s:LL) (f0:LI):LS Int (Unit ⊕ Int):=λs4=>bif decide (s4<(s.length:Int)) then gd (decide<|0<=s4/\s4<(s.length:Int)) <|Mw (iS (s.getD s4.toNat default) f0) λv8=>bif v8 then some (.inr<|.inr s4) else gd (Jg .i64<|s4+(1:Int)) <|some (.inl<|s4+(1:Int)) else some (.inr<|.inl ())
def bq (s:LL) (f0:LI):Option Int:= sumK (bQ (bP s f0) (0:Int)) λs1=>some (-1:Int)
def aP (s:LL) (f0:LI):Option Bool:= Mw (bq s f0) λv1=>some<|decide<|(0:Int)<=v1
def kE (a:LL) (b:LL):LS Int (Unit ⊕ Bool):=λs4=>bif decide (s4<(a.length:Int)) then gd (decide<|0<=s4/\s4<(a.length:Int)) <|Mw (aP b<|a.getD s4.toNat default) λv8=>bif !v8 then some (.inr<|.inr false) else gd (Jg .i64<|s4+(1:Int)) <|some (.inl<|s4+(1:Int)) else some (.inr<|.inl ())
def gy (a:LL) (b:LL):Option Bool:= sumK (bQ (kE a b) (0:Int)) λs1=>some true
def dC (a:LL) (b:LL):Option Int:= Mw (gy a b) λv1=>Mw (gy b a) λv2=>Mw (bif v1 then some v2 else some false) λs3=>bif s3 then some (0:Int) else bif v1 then some (1:Int) else bif v2 then some (2:Int) else some (3:Int)
def gG (p:List<|List Ji) (a:ByteArray) (b:ByteArray):Option Bool:= Mw (aJ p) λv1=>Mw (bif v1 then Mw (ib a) λv4=>some v4 else some false) λs2=>Mw (bif s2 then Mw (ib b) λv7=>some v7 else some false) λs5=>Mw (bif s5 then Mw (aV p a) λv10=>Mw (aV p b) λv11=>Mw (dC v10 v11) λv12=>some (v12 != (0:Int)) else some false) λs8=>some s8
theorem Fj {b:LL} {o:LI} (hb:∀ r∈b,r.length<=1048576) (hl:b.length<=1099511627776):Jl (aP b o) (· = decide (o∈b)):=by
 unfold aP;refine Jl.bind (P:=λv:Int=>decide (0<=v)=decide (o∈b)) ?_ λv hv => .pure hv;unfold bq;refine Jl.sum (PS:=λ_=>o∉b) (PW:=λv:Int=>decide (0<=v)=decide (o∈b)) ?_ λ_ he => .pure (by rw [decide_eq_false he];rfl);refine Jl.loop (λi=>(0<=i/\i<=(b.length:Int))/\∀ j:Nat,(j:Int)<i->b[j]? ≠ some o) (λi=>((b.length:Int)-i).toNat) ⟨⟨Mx _,by omega⟩,λj hj=>by omega⟩ λi ⟨⟨h1,h2⟩,h3⟩ => ?_;unfold bP;refine .bifD (λhlt => .gdD ⟨h1,hlt⟩ ?_) λhge => .pure ?_
 ·have hi:i.toNat<b.length:=by omega
  have eb:b.getD i.toNat default=b[i.toNat]:=by simp [List.getD,hi]
  rw [eb];refine Jl.bind (P:=(· = decide (b[i.toNat]=o))) ?_ λv hv=>?_
  ·unfold iS;exact (wF _ _<|hb _<|MG hi).bind λv hv => .pure hv
  subst hv;refine .bifD (λhe => .pure ?_) λhne => .gdI (by omega)<|.pure ⟨⟨⟨by omega,by omega⟩,λj hj=>?_⟩,by omega⟩
  ·simp only [];rw [decide_eq_true h1,decide_eq_true (he ▸ MG hi)]
  by_cases e:j=i.toNat
  ·subst e;rw [geq hi];exact λh=>hne<|osl h
  exact h3 j (by omega)
 simp only [];intro hm;obtain ⟨j,hj,rfl⟩:=MP hm;exact h3 j (by omega)<|geq hj
theorem qG {a b:LL} (hb:∀ r∈b,r.length<=1048576) (hl:b.length<=1099511627776) (ha:a.length<=1099511627776):Jl (gy a b) (· = decide (∀ o∈a,o∈b)):=by
 unfold gy;refine Jl.sum (PS:=λ_=>∀ o∈a,o∈b) (PW:=(· = decide (∀ o∈a,o∈b))) ?_ λ_ he => .pure (decide_eq_true he).symm;refine Jl.loop (λi=>(0<=i/\i<=(a.length:Int))/\∀ (j:Nat) (o:LI),(j:Int)<i->a[j]? = some o->o∈b) (λi=>((a.length:Int)-i).toNat) ⟨⟨Mx _,by omega⟩,λj o hj=>by omega⟩ λi ⟨⟨h1,h2⟩,h3⟩ => ?_;unfold kE;refine .bifD (λhlt => .gdD ⟨h1,hlt⟩ ?_) λhge => .pure ?_
 ·have hi:i.toNat<a.length:=by omega
  have eb:a.getD i.toNat default=a[i.toNat]:=by simp [List.getD,hi]
  rw [eb];refine (Fj hb hl).bind λv hv=>?_;subst hv;rw [<- decide_not];refine .bifD (λhn => .pure ?_) λhn => .gdI (by omega)<|.pure ⟨⟨⟨by omega,by omega⟩,λj o hj ho=>?_⟩,by omega⟩
  ·exact (decide_eq_false λh=>hn<|h _<|MG hi).symm
  by_cases e:j=i.toNat
  ·subst e;rw [geq hi] at ho;rw [<- osl ho];exact Decidable.not_not.1 hn
  exact h3 j o (by omega) ho
 simp only [];intro o hm;obtain ⟨j,hj,rfl⟩:=MP hm;exact h3 j _ (by omega)<|geq hj
section
variable {p:List (List Ji)}
structure RunL (p:List (List Ji)) (O:List Int->Prop) (q:List (List Int)):Prop where
 run:Run O q
 row:∀ r∈q,r.length=3*p.length+3
theorem RunL.small (hp:PV p) {O:LI->Prop} {q:LL} (h:RunL p O q):(∀ r∈q,r.length<=1048576)/\q.length<=1099511627776:=by
 have := hp.vs.1;have := h.run.len;exact ⟨λr hr=>by rw [h.row r hr];omega,by omega⟩
theorem Im (hp:PV p) (hv:aJ p=some true):Jl (eM p) (RunL p<|E9 p):=(Dg hp hv).mono λq h=>⟨h,λr hr=>Dh hp<|(h.mem r).1 hr⟩
theorem xM {a b:LL} (ha:(∀ r∈a,r.length<=1048576)/\a.length<=1099511627776) (hb:(∀ r∈b,r.length<=1048576)/\b.length<=1099511627776):Jl (dC a b) λv=>(v != 0) = !(decide (∀ o∈a,o∈b)&&decide (∀ o∈b,o∈a)):=by
 unfold dC;refine (qG hb.1 hb.2 ha.2).bind λv1 e1=>(qG ha.1 ha.2 hb.2).bind λv2 e2=>?_;subst e1 e2;refine Jl.bind (P:=(· = (decide (∀ o∈a,o∈b)&&decide (∀ o∈b,o∈a)))) (.bif (λh => .pure<|by rw [h];rfl) λh => .pure<|by rw [h];rfl) λv3 e3=>?_;rw [<- e3];exact .bif (λh => .pure<|by rw [h];rfl) λh => .bif (λ_ => .pure<|by rw [h];rfl) λ_ => .bif (λ_ => .pure<|by rw [h];rfl) λ_ => .pure (by rw [h];rfl)
end
theorem Di (s:List Ji) (h:s.length<=1048576):Jl (bg s s) (· = true):=by
 unfold bg;refine .bif (λh=>by simp at h) λ_=>Jl.sum (PS:=λ_=>True) (PW:=(· = true)) ?_ λ_ _ => .pure rfl;refine Jl.loop (λi=>0<=i/\i<=(s.length:Int)) (λi=>((s.length:Int)-i).toNat) ⟨Mx _,by omega⟩ λi ⟨h1,h2⟩ => ?_;unfold cJ;refine .bifD (λh3 => .gdD ⟨h1,h3⟩<|.gdD ⟨h1,h3⟩<|.bif (λh=>by simp at h) λ_ => .gdI (by omega)<|.pure ⟨⟨by omega,by omega⟩,by omega⟩) λ_ => .pure trivial
theorem Dj (p:List<|List Ji) (h:p.length<=1048576) (hr:∀ r∈p,r.length<=1048576):Jl (dN p p) (· = true):=by
 unfold dN;refine Jl.bind (P:=(· = true)) ?_ λv hv => .pure hv;unfold aC;refine .bif (λh=>by simp at h) λ_=>Jl.sum (PS:=λ_=>True) (PW:=(· = true)) ?_ λ_ _ => .pure rfl;refine Jl.loop (λi=>0<=i/\i<=(p.length:Int)) (λi=>((p.length:Int)-i).toNat) ⟨Mx _,by omega⟩ λi ⟨h1,h2⟩ => ?_;unfold aI;refine .bifD (λh3 => .gdD ⟨h1,h3⟩<|.gdD ⟨h1,h3⟩ ?_) λ_ => .pure trivial;have hi:i.toNat<p.length:=by omega
 have hm:p.getD i.toNat default∈p:=by
  rw [gdq,geq hi];exact MG _
 unfold gP;refine Jl.bind (Jl.bind (Di _<|hr _ hm) λv hv => .pure (P:=(· = true)) hv) λv hv=>?_;subst hv;exact .bif (λh=>by simp at h) λ_ => .gdI (by omega)<|.pure ⟨⟨by omega,by omega⟩,by omega⟩
section
variable {α:Type} {r:Option α}
theorem iG {n:Int} {x:Option α} (h : -9223372036854775808<=n/\n<=9223372036854775807) (hx:x=r):gd (Jg .i64 n) x=r:=by rw [mo (Ee h)];exact hx
theorem oQ {A:Prop} [Decidable A] {x:Option α} (h:A) (hx:x=r):gd (decide A) x=r:=by rw [mo (decide_eq_true h)];exact hx
theorem BW {b:Bool} {x y:Option α} (h:b=true) (hx:x=r):(bif b then x else y)=r:=by rw [h];exact hx
theorem xO {b:Bool} {x y:Option α} (h:b=false) (hx:y=r):(bif b then x else y)=r:=by rw [h];exact hx
theorem qf {β:Type} {o:Option β} {k:β->Option α} {v:β} (h:o=some v) (hx:k v=r):o.bind k=r:=by rw [h];exact hx
end
def Bts (b:LI):Prop:=b.length<=1048576/\∀ y∈b,0<=y/\y<=255
theorem Bts.get {b:LI} (h:Bts b) (k:Nat):0<=b.getD k default/\b.getD k default<=255:=by
 rw [gdq]
 by_cases hk:k<b.length
 ·rw [geq hk];exact h.2 _<|MG _
 rw [gen (by omega)];exact ⟨by decide,by decide⟩
theorem Dk {m n:Int} (hm:0<=m/\m<=1000000000000) (hn:0<=n/\n<=1000000000000):0<=HM .i64 m n:=by
 have e1:∀ x:Int,0<=x->x<=1000000000000->(MZ 64 x).toNat<2 ^ 62:=by
  intro x h1 h2;rw [BitVec.toNat_ofInt];have : x % ((2:Nat) ^ 64:Nat)=x:=by
   rw [Int.emod_eq_of_lt h1];omega
  omega
 have h3:(MZ 64 m ^^^ MZ 64 n).toNat<2 ^ 62:=by
  rw [BitVec.toNat_xor];exact Nat.xor_lt_two_pow (e1 m hm.1 hm.2)<|e1 n hn.1 hn.2
 have h4:=IntWalk.i64_in (((MZ 64 m ^^^ MZ 64 n).toNat:Nat):Int) ⟨by omega,by omega⟩;unfold HM;rw [show IntKind.i64.bits=64 from rfl,h4];omega
theorem Dl {a n:Int} (ha:0<=a) (hn:0<n):0<=a.tmod n/\a.tmod n<n:=by
 rw [Int.tmod_eq_emod_of_nonneg ha];exact ⟨Int.emod_nonneg _ (by omega),Int.emod_lt_of_pos _ hn⟩
theorem GQ {a n:Int} (ha:0<=a) (hn:0<=n):0<=a.tdiv n/\a.tdiv n<=a:=by
 rw [Int.tdiv_eq_ediv_of_nonneg ha];exact ⟨Int.ediv_nonneg ha hn,Int.ediv_le_self _ ha⟩
theorem BZ {b:LI} {p:Int} (hb:Bts b) (hp:0<=p/\p<=100000000) (n:Int):∃ v,bD ⟨b,p⟩ n=some (⟨b,p+1⟩,v)/\0<=v/\(v<n\/v=0):=by
 have hl:=hb.1;have e1:p+1-1=p:=by omega
 unfold bD;simp only [e1]
 by_cases h0:n<1\/b.length=0
 ·refine ⟨0,?_,Mx _,.inr rfl⟩;refine iG (by omega) ?_;refine qf (v:=true) ?_<|BW rfl rfl
  by_cases hn:n<1
  ·exact BW (by simp [hn]) rfl
  refine xO (by simp [hn]) ?_;have : b.length=0:=by omega
  simp [this]
 have hn:1<=n:=by omega
 have hl0:0<(b.length:Int):=by omega
 by_cases hlt:p<(b.length:Int)
 ·have hg:=hb.get p.toNat;have hv:=Dl hg.1 (show (0:Int)<n by omega);refine ⟨(b.getD p.toNat default).tmod n,?_,hv.1,.inl hv.2⟩;refine iG (by omega) ?_;refine qf (v:=false) (xO (by simp;omega)<|congrArg some<|beq_eq_false_iff_ne.2<|by omega) (xO rfl ?_);refine iG (by omega)<|BW (by simpa using hlt) ?_;exact oQ (by omega)<|iG (by omega)<|oQ (by omega) rfl
 have h1:=Dl hp.1 hl0;have h2:=GQ hp.1 (show 0<=(b.length:Int) by omega);have h3:=Dl (a:=p*7+3) (by omega) hl0;have h4:=hb.get (p.tmod (b.length:Int)).toNat;have h5:=hb.get ((p*7+3).tmod (b.length:Int)).toNat;have hx:0<=(b.getD (p.tmod (b.length:Int)).toNat default)*131+(b.getD ((p*7+3).tmod (b.length:Int)).toNat default)*1117+p*29+p.tdiv (b.length:Int)*53 /\
  (b.getD (p.tmod (b.length:Int)).toNat default)*131+(b.getD ((p*7+3).tmod (b.length:Int)).toNat default)*1117+p*29+p.tdiv (b.length:Int)*53<=1000000000000:=by omega
 have h6:=GQ hx.1 (show (0:Int)<=64 by omega);have h7:=Dk hx ⟨h6.1,Int.le_trans h6.2 hx.2⟩;have hv:=Dl h7 (show (0:Int)<n by omega);refine ⟨_,?_,hv.1,.inl hv.2⟩;refine iG (by omega) ?_;refine qf (v:=false) (xO (by simp;omega)<|congrArg some<|beq_eq_false_iff_ne.2<|by omega) (xO rfl ?_);refine iG (by omega)<|xO (by simpa using hlt) ?_;refine oQ (by omega)<|oQ h1<|iG (by omega)<|iG (by omega)<|iG (by omega)<|iG (by omega)<|oQ h3<|iG (by omega) ?_;refine iG (by omega)<|iG (by omega)<|iG (by omega)<|iG (by omega)<|iG (by omega)<|iG (by omega)<|iG (by omega) ?_;refine oQ (by omega)<|iG (by omega)<|oQ (by omega) rfl
theorem GR {b:LI} {p:Int} (hb:Bts b) (hp:0<=p/\p<=100000000) (l:LI) (hl:l≠[]):∃ v,fq ⟨b,p⟩ l=some (⟨b,p+1⟩,v)/\v∈l:=by
 obtain ⟨v,h1,h2,h3⟩:=BZ hb hp (l.length:Int);have hpos:0<l.length:=Nu.2 hl;have h4:v<(l.length:Int):=by omega
 refine ⟨l.getD v.toNat default,?_,?_⟩
 ·unfold fq;exact qf h1<|oQ ⟨h2,h4⟩ rfl
 rw [gdq,geq (by omega)];exact MG _
theorem Fq {b:LI} (hb:Bts b):∃ b',gY b=some ⟨b',0⟩/\Bts b':=by
 unfold gY
 by_cases h:(2000:Int)<(b.length:Int)
 ·refine ⟨_,qf (BW (by simpa using h)<|oQ (by omega) rfl) rfl,?_,λy hy=>?_⟩
  ·rw [List.length_take];omega
  exact hb.2 y<|Nr<|List.mem_of_mem_take hy
 exact ⟨b,qf (xO (by simpa using h) rfl) rfl,hb⟩
def Rd (k:Int) (r:au):Prop:=Bts r.b/\0<=r.p/\r.p<=k
theorem Rd.mk' {k:Int} {r:au} (h:Rd k r):Rd k ⟨r.b,r.p⟩:=h
theorem rB {k:Int} {r:au} (h:Rd k r) (hk:k<=100000000) (n:Int):Jl (bD r n) λv=>Rd (k+1) v.1/\0<=v.2/\(v.2<n\/v.2=0):=by
 obtain ⟨b,p⟩:=r;obtain ⟨h1,h2,h3⟩:=h;obtain ⟨v,e,h4,h5⟩:=BZ h1 (p:=p) ⟨h2,by simp only at h3;omega⟩ n;exact ⟨_,e,⟨h1,by simp only at h2 ⊢;omega,by simp only at h3 ⊢;omega⟩,h4,h5⟩
theorem Fs {k:Int} {r:au} (h:Rd k r) (hk:k<=100000000) (l:LI) (hl:l≠[]):Jl (fq r l) λv=>Rd (k+1) v.1/\v.2∈l:=by
 obtain ⟨b,p⟩:=r;obtain ⟨h1,h2,h3⟩:=h;obtain ⟨v,e,h4⟩:=GR h1 (p:=p) ⟨h2,by simp only at h3;omega⟩ l hl;exact ⟨_,e,⟨h1,by simp only at h2 ⊢;omega,by simp only at h3 ⊢;omega⟩,h4⟩
theorem Dm {b:LI} (h:Bts b):Jl (gY b) (Rd 0):=by
 obtain ⟨b',e,h'⟩:=Fq h;exact ⟨_,e,h',Mx _,Mx _⟩

def Le {α:Type} (a b:Option α):Prop:=∀ q,a=some q->b=some q
theorem Le.refl {α:Type} (a:Option α):Le a a:=λ_ h=>h
theorem Le.bind {α β:Type} {a b:Option α} {k l:α->Option β} (h:Le a b) (hk:∀ x,Le (k x)<|l x):Le (a.bind k) (b.bind l):=λq hq=>by
 obtain ⟨x,h1,h2⟩:=Nv.1 hq;exact Nv.2 ⟨x,h x h1,hk x q h2⟩
theorem Le.gd {α:Type} {a b:Option α} (c:Bool) (h:Le a b):Le (gd c a) (gd c b):=λq hq=>by
 obtain ⟨h1,h2⟩:=gdL hq;rw [mo h1];exact h q h2
theorem Le.bif {α:Type} {a b a' b':Option α} (c:Bool) (h:Le a a') (h':Le b b'):Le (bif c then a else b) (bif c then a' else b'):=by
 cases c
 ·exact h'
 exact h
theorem Le.ifc {α:Type} {a b a' b':Option α} (c:Prop) [Decidable c] (h:Le a a') (h':Le b b'):Le (if c then a else b) (if c then a' else b'):=by
 split
 ·exact h
 exact h'
theorem Le.sumK {S W:Type} {a b:Option (S ⊕ W)} {k l:S->Option W} (h:Le a b) (hk:∀ x,Le (k x)<|l x):Le (sumK a k) (sumK b l):=λq hq=>by
 cases a with
 | none=>cases hq
 | some z=>
  rw [h z rfl]
  cases z with
  | inl s=>exact hk s q hq
  | inr w=>exact hq
def B0 {S E:Type} (n:Nat) (step:S->Option (S ⊕ E)) (s:S):Option E:=
 Nat.rec (motive:=λ_=>S->Option E) (λ_=>none) (λ_ ih s=>match step s with
  | none=>none
  | some (.inl s')=>ih s'
  | some (.inr e)=>some e) n s
theorem Le.loop {S E:Type} {n:Nat} {step step':S->Option (S ⊕ E)} (h:∀ s,Le (step s)<|step' s) (s:S):Le (B0 n step s) (bQ step' s):=by
 induction n generalizing s with
 | zero=>intro q hq;cases hq
 | succ n ih=>
  intro q hq;rw [qZ]
  change (match step s with
   | none=>none
   | some (.inl s')=>B0 n step s'
   | some (.inr e)=>some e)=some q at hq
  match hs:step s with
  | none=>rw [hs] at hq;cases hq
  | some (.inl s')=>
   rw [hs] at hq;rw [h s _ hs];exact ih s' q hq
  | some (.inr e)=>
   rw [hs] at hq;rw [h s _ hs];exact hq
def Io {α:Type} (e:Bool) (_ b:Option α):Option α:=bif e then none else b
theorem Le.nilK {α:Type} {e:Bool} {a b a' b':Option α} (_:Le a a') (h:Le b b'):Le (Io e a b) (nilK e a' b'):=λq hq=>by
 cases e with
 | true=>cases hq
 | false=>
  unfold Go.Proofs.YtjcmfddobaplbaaGreat.nilK;exact h q hq
open Go.RowKit

def smI (x:Ji):Bool:=decide<|(-1<=x.Op/\x.Op<=6)/\(-1<=x.Loc/\x.Loc<=3)/\(-1<=x.Reg/\x.Reg<=3)/\(-1<=x.Val/\x.Val<=4)

open Go.RowKit
open Go.RowKit
theorem vg {α:Type} {m:Nat}:∀ {p:List (List α)},(∀ r∈p,r.length<=m)->total p<=p.length*m
 | [],_=>by simp [total]
 | r::p,h=>by
  have h1:=vg (p:=p) λx hx=>h x<|MU _ hx;have h2:=h r<|MB;simp only [total,MO,List.sum_cons,llc,Nat.add_mul,Nat.one_mul] at h1 ⊢;omega
def Sm (p:List<|List Ji):Prop:=p.length<=9/\∀ r∈p,r.length<=9/\∀ x∈r,smI x=true
theorem Sm.sz {p:List (List Ji)} (h:Sm p):p.length<=1048576/\total p<=1048576:=by
 have h1:=vg (m:=9) λr hr=>(h.2 r hr).1;have h2:p.length*9<=81:=by have := h.1;omega
 exact ⟨by have := h.1;omega,by omega⟩
def iT:Option Int:=
 some (1296:Int)
theorem m8:Le (iT ) (gB ):=by
 unfold iT gB
 solve_by_elim (maxDepth:=9999) only [*,Le.gd,Le.bif,Le.bind,Le.sumK,Le.loop,Le.nilK,Le.ifc,Le.refl]
def lJ (x:Int) (low:Int) (high:Int):Option Bool:=
 Mw (bif decide (low<=x) then
  some (decide<|x<=high)
 else
  some false
 ) λs1=>
 some s1
theorem qQ (x:Int) (low:Int) (high:Int):Le (lJ x low high) (jv x low high):=by
 unfold lJ jv
 solve_by_elim (maxDepth:=9999) only [*,Le.gd,Le.bif,Le.bind,Le.sumK,Le.loop,Le.nilK,Le.ifc,Le.refl]
def iH:Option (List Ji):=
 some ([(⟨(2:Int),(0:Int),(0:Int),(1:Int)⟩:Ji),(⟨(2:Int),(1:Int),(0:Int),(1:Int)⟩:Ji),(⟨(1:Int),(0:Int),(0:Int),(0:Int)⟩:Ji),(⟨(1:Int),(1:Int),(1:Int),(0:Int)⟩:Ji),(⟨(4:Int),(0:Int),(0:Int),(0:Int)⟩:Ji),(⟨(5:Int),(0:Int),(2:Int),(2:Int)⟩:Ji)]:List Ji)
theorem mH:Le (iH ) (fS ):=by
 unfold iH fS
 solve_by_elim (maxDepth:=9999) only [*,Le.gd,Le.bif,Le.bind,Le.sumK,Le.loop,Le.nilK,Le.ifc,Le.refl]
def jh (n:Int):Option (List<|List Ji):=
 Mw (iH ) λv1=>
 gd (decide<|(216:Int)≠0) <|
 gd (Jg .i64<|n.tdiv (216:Int)) <|
 gd (decide<|0<=(n.tdiv (216:Int))/\(n.tdiv (216:Int))<(v1.length:Int)) <|
 gd (decide<|(36:Int)≠0) <|
 gd (Jg .i64<|n.tdiv (36:Int)) <|
 gd (decide<|(6:Int)≠0) <|
 gd (decide<|0<=((n.tdiv (36:Int)).tmod (6:Int))/\((n.tdiv (36:Int)).tmod (6:Int))<(v1.length:Int)) <|
 gd (Jg .i64<|n.tdiv (6:Int)) <|
 gd (decide<|0<=((n.tdiv (6:Int)).tmod (6:Int))/\((n.tdiv (6:Int)).tmod (6:Int))<(v1.length:Int)) <|
 gd (decide<|0<=(n.tmod (6:Int))/\(n.tmod (6:Int))<(v1.length:Int)) <|
 some ([([(v1.getD (n.tdiv (216:Int)).toNat default),(v1.getD ((n.tdiv (36:Int)).tmod (6:Int)).toNat default)]:List Ji),([(v1.getD ((n.tdiv (6:Int)).tmod (6:Int)).toNat default),(v1.getD (n.tmod (6:Int)).toNat default)]:List Ji)]:List<|List Ji)
theorem nP (n:Int):Le (jh n) (ia n):=by
 unfold jh ia
 solve_by_elim (maxDepth:=9999) only [*,mH,Le.gd,Le.bif,Le.bind,Le.sumK,Le.loop,Le.nilK,Le.ifc,Le.refl]
def ji (n:Int):Option ((List<|List Ji)×Bool):=
 Mw (iT ) λv1=>
 gd (Jg .i64<|v1-(1:Int)) <|
 Mw (lJ n (0:Int)<|v1-(1:Int)) λv3=>
 bif !v3 then
  some (([]:List<|List Ji),false)
 else
  Mw (jh n) λv5=>
  some (v5,true)
theorem nQ (n:Int):Le (ji n) (fu n):=by
 unfold ji fu
 solve_by_elim (maxDepth:=9999) only [*,m8,qQ,nP,Le.gd,Le.bif,Le.bind,Le.sumK,Le.loop,Le.nilK,Le.ifc,Le.refl]
def ic:Option (List Ji):=
 some ([(⟨(2:Int),(0:Int),(0:Int),(1:Int)⟩:Ji),(⟨(2:Int),(1:Int),(0:Int),(1:Int)⟩:Ji),(⟨(1:Int),(0:Int),(0:Int),(0:Int)⟩:Ji),(⟨(1:Int),(1:Int),(1:Int),(0:Int)⟩:Ji),(⟨(4:Int),(0:Int),(0:Int),(0:Int)⟩:Ji),(⟨(5:Int),(0:Int),(2:Int),(2:Int)⟩:Ji)]:List Ji)
theorem j3:Le (ic ) (fA ):=by
 unfold ic fA
 solve_by_elim (maxDepth:=9999) only [*,Le.gd,Le.bif,Le.bind,Le.sumK,Le.loop,Le.nilK,Le.ifc,Le.refl]
def iU:Option Int:=
 Mw (ic ) λv1=>
 gd (Jg .i64<|(v1.length:Int)*(v1.length:Int)) <|
 gd (Jg .i64<|((v1.length:Int)*(v1.length:Int))*(v1.length:Int)) <|
 gd (Jg .i64<|(((v1.length:Int)*(v1.length:Int))*(v1.length:Int))*(v1.length:Int)) <|
 some ((((v1.length:Int)*(v1.length:Int))*(v1.length:Int))*(v1.length:Int))
theorem m9:Le (iU ) (gD ):=by
 unfold iU gD
 solve_by_elim (maxDepth:=9999) only [*,j3,Le.gd,Le.bif,Le.bind,Le.sumK,Le.loop,Le.nilK,Le.ifc,Le.refl]
def iV (v1:(List Ji)):((List<|List Ji)×Int×Int)->Option (((List<|List Ji)×Int×Int) ⊕ (List<|List Ji)):=λs6=>
 bif decide ((0:Int)<=s6.2.1) then
  gd (decide<|(2:Int)≠0) <|
  gd (Jg .i64<|s6.2.1.tdiv (2:Int)) <|
  gd (decide<|(v1.length:Int)≠0) <|
  gd (decide<|0<=(s6.2.2.tmod (v1.length:Int))/\(s6.2.2.tmod (v1.length:Int))<(v1.length:Int)) <|
  gd (decide<|0<=(s6.2.1.tdiv (2:Int))/\(s6.2.1.tdiv (2:Int))<(s6.1.length:Int)) <|
  gd (fo (([(v1.getD (s6.2.2.tmod (v1.length:Int)).toNat default)]:List Ji).length+(s6.1.getD ((s6.2.1.tdiv (2:Int)).toNat) default).length) 32) <|
  gd (Jg .i64<|s6.2.2.tdiv (v1.length:Int)) <|
  gd (Jg .i64<|s6.2.1-(1:Int)) <|
  some (.inl ((s6.1.set ((s6.2.1.tdiv (2:Int)).toNat)<|([(v1.getD (s6.2.2.tmod (v1.length:Int)).toNat default)]:List Ji)++(s6.1.getD ((s6.2.1.tdiv (2:Int)).toNat) default)),(s6.2.1-(1:Int)),(s6.2.2.tdiv (v1.length:Int))))
 else
  some (.inr s6.1)
theorem ng (v1:(List Ji)) (sQ:_):Le (iV v1 sQ) (gF v1 sQ):=by
 unfold iV gF
 solve_by_elim (maxDepth:=9999) only [*,Le.gd,Le.bif,Le.bind,Le.sumK,Le.loop,Le.nilK,Le.ifc,Le.refl]
def kK (n:Int):Option (List<|List Ji):=
 Mw (ic ) λv1=>
 Mw (
  B0 40 (iV v1) (([([]:List Ji),([]:List Ji)]:List<|List Ji),(3:Int),n)
 ) λs2=>
 some s2
theorem qg (n:Int):Le (kK n) (ja n):=by
 unfold kK ja
 solve_by_elim (maxDepth:=9999) only [*,j3,ng,Le.gd,Le.bif,Le.bind,Le.sumK,Le.loop,Le.nilK,Le.ifc,Le.refl]
def jk (n:Int):Option ((List<|List Ji)×Bool):=
 Mw (bif decide (n<(0:Int)) then
  some true
 else
  Mw (iU ) λv3=>
  some (decide<|v3<=n)
 ) λs1=>
 bif s1 then
  some (([]:List<|List Ji),false)
 else
  Mw (kK n) λv5=>
  some (v5,true)
theorem nR (n:Int):Le (jk n) (fB n):=by
 unfold jk fB
 solve_by_elim (maxDepth:=9999) only [*,m9,qg,Le.gd,Le.bif,Le.bind,Le.sumK,Le.loop,Le.nilK,Le.ifc,Le.refl]
instance decIns:DecidableEq Ji:=λa b=>decidable_of_iff (a.Op=b.Op/\a.Loc=b.Loc/\a.Reg=b.Reg/\a.Val=b.Val) ⟨λ⟨h1,h2,h3,h4⟩=>by cases a;cases b;simp only at h1 h2 h3 h4;rw [h1,h2,h3,h4],λh=>by rw [h];exact ⟨rfl,rfl,rfl,rfl⟩⟩
def GU (n:Int):Bool:=match ji n,jk n with
 | some a,some b=>decide (a.1=b.1)&&(a.2==b.2)&&decide (a.1.length<=2)&&a.1.all λr=>decide (r.length<=2)
 | _,_=>false
theorem Ca:((My 1298).all λk=>GU<|(k:Int)-1)=true:=by decide +kernel
theorem GV {n:Int} (h : -1<=n/\n<=1296):∃ a,fu n=some a/\fB n=some a/\a.1.length<=2/\∀ r∈a.1,r.length<=2:=by
 have h1:=MM.1 Ca (n+1).toNat (by rw [MJ];omega);rw [show (((n+1).toNat:Nat):Int)-1=n by omega] at h1;unfold GU at h1
 split at h1
 ·rename_i a b ea eb;simp only [bae,dte,MM,beq_iff_eq] at h1;obtain ⟨⟨⟨g1,g2⟩,g3⟩,g4⟩:=h1;have : a=b:=Prod.ext g1 g2;subst this;exact ⟨a,nQ n _ ea,nR n _ eb,g3,g4⟩
 cases h1
section
variable {p:List (List Ji)}
end
end
end Go.Proofs.YtjcmfddobaplbaaGreat
