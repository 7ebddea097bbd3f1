/- Texts joined. No conditions. -/
import Derived.Test.YtjcmfddobaplbaaGreatProg
import Derived.Lib.Bytealg
import Derived.Laws.Externs
import Derived.Deep.RegionWith
import Derived.Test.YtjcmfddobaplbaaGreatZ8
namespace Go.Proofs.YtjcmfddobaplbaaGreat
noncomputable section
open _root_.Int renaming le_refl -> RV, eq_ofNat_of_zero_le -> RZ
open _root_.List renaming append_assoc -> RY, mem_range -> R4, getElem_mem -> R5, length_nil -> R7, mem_map -> R8, range -> R9, mem_append -> Sa, all_eq_true -> Sc, getElem?_map -> Sd, map_congr_left -> Se, getElem?_cons_succ -> Si, mem_singleton -> Sj, flatMap_cons -> Sn, mem_flatMap -> Sq, map_map -> Ss, take_length -> Sv, cons_append -> Sw, append_inj -> Sy, flatMap_append -> Sz, mem_cons -> SB, map_id -> SC, take_succ_eq_append_getElem -> SE, mem_cons_of_mem -> SF, getElem?_range -> SG, contains_eq_mem -> SI
open _root_.Nat renaming le_refl -> R3, zero_le -> R6, le_trans -> Sb, lt_or_ge -> Sf, mul_le_mul -> Sr
open _root_.Bool renaming or_eq_true -> Sg, not_eq_true' -> Su
open _root_.List.cons renaming injEq -> Sk
open _root_.Option renaming getD_some -> SA, bind -> SD
open _root_.Array renaming getElem?_eq_some_iff -> SJ
set_option maxHeartbeats 4000000
open Go.RowKit
set_option maxRecDepth 100000
section
variable {p:List (List MI)} {s:au}
theorem Cr (h:IW p s) {t:Nat} (ht:t<3) (R:Z33) (q:ae×aa):AW (Jo s t R q)=⟨ud (AW s).pc t<|(AW s).pc t+1,rgF R,liF q.1,owF q.2⟩:=by
 have h1:=h.iv.pc t ht;refine RS.ext ?_ rfl rfl rfl;show pcF (Z3b.set s.values.pc t _)=ud (pcF s.values.pc) t (pcF s.values.pc t+1);rw [AR _ ht]
 congr 1
 have : pcF s.values.pc t=(Z3b.get s.values.pc t).toNat:=if_pos ht;rw [this];omega
theorem Io {t k:Nat} {x:MI} (ht:t<3) (hx:InR x) (hr:rdX x=true):rgF (Be s t k x)=ud (rgF s.values.reg) t (ud (rgF s.values.reg t) x.Reg (Ii s x k).value):=by
 unfold Be;rw [if_pos hr];exact AU _ ht ⟨hx.2.2.1,hx.2.2.2.1⟩ _
theorem Ip (h:IW p s) (hs:SmL s) {t k:Nat} {x:MI} (ht:t<3) (hx:InR x) (hr:rdX x=true) (hk:k<(ae.get s.lists x.Loc).length):owF (wX s t k x)=ud (owF s.own) t (joV (owF s.own t)<|vwF (Ii s x k).view):=by
 unfold wX;rw [if_pos hr,Fv _ ht,KJ (h.vbo hs ht) (h.vbw hs ⟨hx.1,hx.2.1⟩<|uV (k:=(k:Int)) (by omega)<|by omega),uk _ ht]
theorem KQ {x:MI} (hx:InR x) {k:Nat}:(AW s).li x.Loc=(ae.get s.lists x.Loc).map vW:=uj _ ⟨hx.1,hx.2.1⟩
theorem Cs {x:MI} (hx:InR x) {k:Nat} (hk:k<(ae.get s.lists x.Loc).length):((AW s).li x.Loc)[k]? = some (vW<|(ae.get s.lists x.Loc).getD k default):=by
 rw [KQ (k:=k) hx,Sd,geq hk,gdq,geq hk]
 rfl
theorem G3 {x:MI} (hx:InR x) {t:Nat} (ht:t<3):(AW s).ow t x.Loc=(ah.get (aa.get s.own t) x.Loc).toNat:=by
 show owF s.own t x.Loc=_;rw [uk _ ht];exact if_pos ⟨hx.1,hx.2.1⟩
theorem Iq (h:IW p s) {t:Nat} (ht:t<3) {x:MI} (o:x.Op=4) (k:Nat):AW (afW s t k x)=pcR (AW s) t:=by
 have hr : ¬ rdX x=true:=by simp [rdX,o]
 have e:afW s t k x=Jo s t s.values.reg (s.lists,s.own):=by
  unfold afW Dn Be wX;rw [if_neg hr,if_neg hr,if_neg (by omega),if_neg (by omega)]
 rw [e,Cr h ht]
 rfl
theorem KR (h:IW p s) (hs:SmL s) {t k:Nat} (ht:t<3) {x:MI} (hx:InR x) (o:x.Op=1) (hk:k<(ae.get s.lists x.Loc).length):AW (afW s t k x)=rdR (AW s) t x (vW<|(ae.get s.lists x.Loc).getD k default):=by
 have hr:rdX x=true:=by simp [rdX,o]
 have e:afW s t k x=Jo s t (Be s t k x) (s.lists,wX s t k x):=by
  unfold afW Dn;rw [if_neg (by omega),if_neg (by omega)]
 rw [e,Cr h ht,Io ht hx hr,Ip h hs ht hx hr hk]
 rfl
theorem Lp (h:IW p s) (hs:SmL s):∀ j,0<=j/\j<=2->∀ w∈ae.get s.lists j,VB 254 w.view:=λ_ hj _ hw=>h.vbw hs hj hw
theorem Md (hs:SmL s) {O:aa} (h:OB s.lists O):∀ u:Nat,u<3->VB 254 (aa.get O u):=λu hu j hj=>by
 have h1:=h u hu j hj;have h2:=hs j hj;omega
theorem LH {t:Nat} (ht:t<3) {x:MI} (hx:InR x):su s.values t x=Ib (AW s) t x:=by
 unfold su Ib
 split
 ·show _=rgF s.values.reg t x.Reg;rw [zI,if_pos ⟨ht,hx.2.2.1,hx.2.2.2.1⟩]
 rfl
theorem KS (h:IW p s) (hs:SmL s) {t k:Nat} (ht:t<3) {x:MI} (hx:InR x) (o:x.Op=2\/x.Op=3):AW (afW s t ((k+1:Nat):Int) x)=Dl (pcR (AW s) t) t x.Loc (k+1) (Ib (AW s) t x):=by
 have hr : ¬ rdX x=true:=by rcases o with o | o <;> simp [rdX,o]
 have e:afW s t ((k+1:Nat):Int) x=Jo s t s.values.reg (Fw s.lists s.own t x.Loc ((k+1:Nat):Int)<|su s.values t x):=by
  unfold afW Dn Be wX;rw [if_neg hr,if_neg hr,if_pos o]
 rw [e,Cr h ht,Im ht ⟨hx.1,hx.2.1⟩ (by omega) (Lp h hs) (Md hs h.ob),LH ht hx]
 rfl
theorem KT (h:IW p s) (hs:SmL s) {t k:Nat} (ht:t<3) {x:MI} (hx:InR x) (o:x.Op=5) (hk:k<(ae.get s.lists x.Loc).length) :
  AW (afW s t k x)=lkR (Dl (rdR (AW s) t x<|vW<|(ae.get s.lists x.Loc).getD k default) t x.Loc (k+1) x.Val) x.Loc k:=by
 have hr:rdX x=true:=by simp [rdX,o]
 have e:afW s t k x=Jo s t (Be s t k x) (GX (Fw s.lists (wX s t k x) t x.Loc ((k+1:Nat):Int) x.Val).1 x.Loc k,(Fw s.lists (wX s t k x) t x.Loc ((k+1:Nat):Int) x.Val).2):=by
  unfold afW Dn;rw [if_neg (by omega),if_pos o]
  rfl
 have hO:=Il h ht hx (k:=k) λ_=>hk;have hins:=Im (L:=s.lists) (O:=wX s t k x) (t:=t) (l:=x.Loc) (k:=k+1) (v:=x.Val) ht ⟨hx.1,hx.2.1⟩ (by omega) (Lp h hs) (Md hs hO) (ud (AW s).pc t<|(AW s).pc t+1)<|rgF<|Be s t k x;have hlen:k<(ae.get (Fw s.lists (wX s t k x) t x.Loc ((k+1:Nat):Int) x.Val).1 x.Loc).length:=by
  rw [yG _ _ _ _ _ _ (by omega)];show k<(ae.get (Fx _ _ _ _) _).length;rw [rS ⟨hx.1,hx.2.1⟩ _ ⟨hx.1,hx.2.1⟩];omega
 rw [e,Cr h ht];simp only;rw [Ju ⟨hx.1,hx.2.1⟩ hlen];have e2:(⟨ud (AW s).pc t<|(AW s).pc t+1,rgF<|Be s t k x,liF s.lists,owF<|wX s t k x⟩:RS)=rdR (AW s) t x (vW<|(ae.get s.lists x.Loc).getD k default):=by
  rw [Io ht hx hr,Ip h hs ht hx hr hk]
  rfl
 rw [e2] at hins;rw [<- hins]
 rfl
theorem Jv (h:IW p s) (hs:SmL s) {t k:Nat} (ht:t<3) (hc:qb s.values t=true) (hx:InR<|jp s.values t) (hk:zQ s t (jp s.values t) k):StR (prg p) (AW s) (AW<|afW s t k<|jp s.values t):=by
 have hp:=(kg h.iv.up ht (h.iv.pc t ht).1).1 hc;have how:=G3 (s:=s) hx ht;have h0:=(h.ow t ht _ ⟨hx.1,hx.2.1⟩).1;rcases hk with ⟨o,rfl⟩ | ⟨o,k1,k2⟩ | ⟨o,k1,k2,k3⟩ | ⟨o,k1,k2,k3⟩
 ·rw [Iq h ht o];exact .fen hp o
 ·rw [KR h hs ht hx o k2];exact .ld (k:=k) hp o (by rw [how];omega) (Cs hx k2)
 ·rw [KT h hs ht hx o k2];exact .sw (k:=k) hp o (by rw [how];omega) (Cs hx k2) k3
 obtain ⟨j,rfl⟩:∃ j,k=j+1:=⟨k-1,by omega⟩;rw [KS h hs ht hx o];exact .st (k:=j) hp o (by rw [how];omega) (Cs hx<|by omega) k3
theorem Jw (h:IW p s) (hs:SmL s) (hp:∀ (t k:Nat) (x:MI),(prg p t)[k]? = some x->InR x) (h3:p.length<=3) {b:RS} (hb:StR (prg p) (AW s) b):∃ t k:Nat,t<p.length/\qb s.values t=true/\zQ s t (jp s.values t) k/\AW (afW s t k<|jp s.values t)=b:=by
 have get:∀ {t:Nat} {x:MI},(prg p t)[(AW s).pc t]? = some x->t<p.length/\qb s.values t=true/\x=jp s.values t/\InR x/\t<3:=λ{t x} hx=>by
  have ht:=zK hx;obtain ⟨e1,e2⟩:=(kg h.iv.up (by omega:t<3) (h.iv.pc t<|by omega).1).2 x hx;exact ⟨ht,e1,e2,hp _ _ _ hx,by omega⟩
 have len:∀ {x:MI} {k:Nat} {m:Ms},InR x->((AW s).li x.Loc)[k]? = some m->k<(ae.get s.lists x.Loc).length/\m=vW ((ae.get s.lists x.Loc).getD k default):=λ{x k m} hx hm=>by
  have h1:=(ges hm).1;rw [KQ (k:=k) hx,llm] at h1;refine ⟨h1,?_⟩;rw [Cs hx h1] at hm;exact (osl hm).symm
 cases hb with
 | @fen t x h1 o=>
  obtain ⟨g1,g2,rfl,g4,g5⟩:=get h1;exact ⟨t,0,g1,g2,.inl ⟨o,rfl⟩,Iq h g5 o 0⟩
 | @ld t k x m h1 o hk hm=>
  obtain ⟨g1,g2,rfl,g4,g5⟩:=get h1;obtain ⟨k2,rfl⟩:=len g4 hm;have h0:=(h.ow t g5 _ ⟨g4.1,g4.2.1⟩).1;rw [G3 g4 g5] at hk;exact ⟨t,k,g1,g2,.inr<|.inl ⟨o,by omega,k2⟩,KR h hs g5 g4 o k2⟩
 | @st t k x m h1 o hk hm hl=>
  obtain ⟨g1,g2,rfl,g4,g5⟩:=get h1;obtain ⟨k2,rfl⟩:=len g4 hm;have h0:=(h.ow t g5 _ ⟨g4.1,g4.2.1⟩).1;rw [G3 g4 g5] at hk;exact ⟨t,k+1,g1,g2,.inr<|.inr<|.inr ⟨o,by omega,by omega,hl⟩,KS h hs g5 g4 o⟩
 | @sw t k x m h1 o hk hm hl=>
  obtain ⟨g1,g2,rfl,g4,g5⟩:=get h1;obtain ⟨k2,rfl⟩:=len g4 hm;have h0:=(h.ow t g5 _ ⟨g4.1,g4.2.1⟩).1;rw [G3 g4 g5] at hk;exact ⟨t,k,g1,g2,.inr<|.inr<|.inl ⟨o,by omega,k2,hl⟩,KT h hs g5 g4 o k2⟩
end
section
variable {p:List (List MI)} {s:au}
theorem Dr (hp:PV p) (h:IW p s) (hs:SmL s) {t:Nat} (ht:t<p.length) (hx:qb s.values t=true->InR (jp s.values t)) (ho:qb s.values t=true->1<=(jp s.values t).Op/\(jp s.values t).Op<=5) :
  MN (fO s t) λv=>(∀ k:Int,k∈v↔∃ n:Nat,k=n/\qb s.values t=true/\zQ s t (jp s.values t) n)/\v.length<=14:=by
 have hl:=hp.vs.1;unfold fO;refine (AP hp h.iv ht).bind λv ⟨g1,g2⟩ => .bif (λhb => .pure ?_) λhb=>?_
 ·have : qb s.values t=false:=by rw [<- g1];simpa using hb
  refine ⟨λk=>?_,by decide⟩;rw [this];simp
 have hc:qb s.values t=true:=by rw [<- g1];simpa using hb
 have g3:=g2<|g1.trans hc;have hx:=hx hc;have ho:=ho hc;rw [<- g3] at hx ho ⊢;generalize hvx:v.1=x at hx ho ⊢;obtain ⟨x1,x2,_,_,_,_⟩:=hx;refine .bif (λh4 => .pure ?_) λh4 => .gdD ⟨x1,by omega⟩<|.gdD ⟨by omega,by omega⟩ ?_
 ·have h4:x.Op=4:=by simpa using h4
  refine ⟨λk=>?_,by simp⟩;rw [Sj];refine ⟨λe=>⟨0,e,hc,.inl ⟨h4,rfl⟩⟩,λ⟨n,e,_,hk⟩ => ?_⟩;rcases hk with ⟨_,rfl⟩ | ⟨o,_⟩ | ⟨o,_⟩ | ⟨o,_⟩
  ·exact e
  ·omega
  ·omega
  omega
 have h4:x.Op≠4:=by simpa using h4
 have hln:=hs x.Loc ⟨x1,x2⟩;have hse:=h.ow t (by omega) x.Loc ⟨x1,x2⟩;have hfin:∀ n:Nat,zQ s t x n->ah.get (aa.get s.own t) x.Loc<=n/\n<=(ae.get s.lists x.Loc).length:=λn hk=>by
  rcases hk with ⟨o,_⟩ | ⟨_,k1,k2⟩ | ⟨_,k1,k2,_⟩ | ⟨_,k1,k2,_⟩ <;> omega
 refine .gdI (by omega) (MN.bind ?_ λv hv => .pure hv);refine MN.loop (λz=>(ah.get (aa.get s.own t) x.Loc<=z.2/\z.2<=((ae.get s.lists x.Loc).length:Int)+1)/\(∀ k:Int,k∈z.1↔∃ n:Nat,k=n/\k<z.2/\zQ s t x n)/\(z.1.length:Int)<=z.2) (λz=>(((ae.get s.lists x.Loc).length:Int)+1-z.2).toNat) ⟨⟨RV _,by simp only [];omega⟩,λk=>⟨λhk=>by simp at hk,λ⟨n,e,hk,hp⟩=>by
  have := (hfin n hp).1;simp only at hk;omega⟩,by simpa using hse.1⟩ λz ⟨⟨h1,h2⟩,h3,h5⟩ => ?_
 obtain ⟨l,i⟩:=z;simp only at h1 h2 h3 h5;obtain ⟨n,rfl⟩:=RZ (show 0<=i by omega);unfold fM;simp only [hvx];refine .bifD (λhle=>?_) λhge => .pure ⟨λk=>?_,by omega⟩
 ·refine MN.bind (P:=λv:LI=>(∀ k:Int,k∈v↔∃ m:Nat,k=m/\k<(n:Int)+1/\zQ s t x m)/\v.length<=l.length+1) ?_ λv ⟨hv1,hv2⟩ => .gdI (by omega)<|.pure ⟨⟨⟨by omega,by omega⟩,hv1,by simp only [];omega⟩,by simp only [];omega⟩;refine MN.bind (P:=λb:Bool=>b=true↔zQ s t x n) ?_ λb hb => .bif (λhbt => .gd (dZ (by omega) rfl)<|.pure ⟨λk=>?_,by simp⟩) λhbf => .pure ⟨λk=>?_,by omega⟩
  ·refine .bif (λo => .pure ?_) λo1 => .bif (λo=>MN.bind (P:=λb:Bool=>b=true↔zQ s t x n) ?_ λv hv => .pure hv) λo5=>MN.bind (P:=λb:Bool=>b=true↔zQ s t x n) ?_ λv hv => .pure hv
   ·have o:x.Op=1:=by simpa using o
    rw [dte];refine ⟨λhk => .inr<|.inl ⟨o,h1,by omega⟩,λhk=>?_⟩;rcases hk with ⟨o',_⟩ | ⟨_,_,k2⟩ | ⟨o',_⟩ | ⟨o',_⟩
    ·omega
    ·omega
    ·omega
    omega
   ·have o:x.Op=5:=by simpa using o
    refine .bifD (λhk => .gdD ⟨by omega,hk⟩<|.pure ?_) λhk => .pure ?_
    ·rw [tnn,Su];refine ⟨λhk2 => .inr<|.inr<|.inl ⟨o,h1,by omega,hk2⟩,λhk=>?_⟩;rcases hk with ⟨o',_⟩ | ⟨o',_⟩ | ⟨_,_,_,k3⟩ | ⟨o',_⟩
     ·omega
     ·omega
     ·exact k3
     omega
    refine ⟨λhh=>Bool.noConfusion hh,λhk2=>?_⟩;rcases hk2 with ⟨o',_⟩ | ⟨o',_⟩ | ⟨_,_,k2,_⟩ | ⟨o',_⟩
    ·omega
    ·omega
    ·omega
    omega
   have o1:x.Op≠1:=by simpa using o1
   have o5:x.Op≠5:=by simpa using o5
   have o:x.Op=2\/x.Op=3:=by omega
   refine .bifD (λhk => .gdI (by omega)<|.gdD ⟨by omega,by omega⟩<|.pure ?_) λhk => .pure ?_
   ·rw [show ((n:Int)-1).toNat=n-1 by omega,Su];refine ⟨λhk2 => .inr<|.inr<|.inr ⟨o,hk,by omega,hk2⟩,λhk=>?_⟩;rcases hk with ⟨o',_⟩ | ⟨o',_⟩ | ⟨o',_⟩ | ⟨_,_,_,k3⟩
    ·omega
    ·omega
    ·omega
    exact k3
   refine ⟨λhh=>Bool.noConfusion hh,λhk2=>?_⟩;rcases hk2 with ⟨o',_⟩ | ⟨o',_⟩ | ⟨o',_⟩ | ⟨_,k1,_,_⟩
   ·omega
   ·omega
   ·omega
   exact absurd k1 hk
  ·rw [Sa,h3,Sj]
   constructor
   ·rintro (⟨m,e,hm,hk⟩ | e)
    ·exact ⟨m,e,by omega,hk⟩
    exact ⟨n,e,by omega,hb.1 hbt⟩
   rintro ⟨m,e,hm,hk⟩
   by_cases g:m=n
   ·exact .inr (by rw [e,g])
   exact .inl ⟨m,e,by omega,hk⟩
  rw [h3]
  constructor
  ·rintro ⟨m,e,hm,hk⟩;exact ⟨m,e,by omega,hk⟩
  rintro ⟨m,e,hm,hk⟩;refine ⟨m,e,?_,hk⟩;have : m≠n:=λg=>by
   rw [g] at hk;rw [hb.2 hk] at hbf
   cases hbf
  omega
 rw [h3]
 constructor
 ·rintro ⟨m,e,_,hk⟩;exact ⟨m,e,hc,hk⟩
 rintro ⟨m,e,_,hk⟩;have := (hfin m hk).2;exact ⟨m,e,by omega,hk⟩
theorem mW (hp:PV p) (h:IW p s) (hs:SmL s) (hx:∀ t,t<p.length->qb s.values t=true->InR (jp s.values t)/\1<=(jp s.values t).Op/\(jp s.values t).Op<=5) :
  MN (bW s) λv=>(∀ m:Int,m∈v↔∃ t k:Nat,t<p.length/\qb s.values t=true/\zQ s t (jp s.values t) k/\m=3*(k:Int)+t)/\v.length<=42:=by
 have hl:=hp.vs.1;unfold bW;refine MN.bind (P:=λv:LI=>(∀ m:Int,m∈v↔∃ t k:Nat,t<p.length/\qb s.values t=true/\zQ s t (jp s.values t) k/\m=3*(k:Int)+t)/\v.length<=42) ?_ λv ⟨h1,h2⟩=>MN.bind (P:=(· = JY v)) (.gdD (by omega)<|.pure rfl) λw e => .pure ?_
 ·refine MN.loop (λz=>(0<=z.2/\z.2<=(p.length:Int))/\(∀ m:Int,m∈z.1↔∃ t k:Nat,(t:Int)<z.2/\qb s.values t=true/\zQ s t (jp s.values t) k/\m=3*(k:Int)+t)/\(z.1.length:Int)<=14*z.2) (λz=>((p.length:Int)-z.2).toNat) ⟨⟨RV _,by simp only [];omega⟩,λm=>⟨λhm=>by simp at hm,λ⟨t,k,hh,_⟩=>by simp only at hh;omega⟩,by simp⟩ λz ⟨⟨h1,h2⟩,h3,h4⟩ => ?_;obtain ⟨l,i⟩:=z;simp only at h1 h2 h3 h4;obtain ⟨t,rfl⟩:=RZ h1;unfold ic;simp only [h.iv.up];refine .bifD (λhlt=>?_) λhge => .pure ⟨λm=>?_,by omega⟩
  ·refine MN.bind (P:=λv:LI=>(∀ m:Int,m∈v↔∃ t' k:Nat,(t':Int)<(t:Int)+1/\qb s.values t'=true/\zQ s t' (jp s.values t') k/\m=3*(k:Int)+t')/\(v.length:Int)<=14*((t:Int)+1)) ?_ λv ⟨hv1,hv2⟩ => .gdI (by omega)<|.pure ⟨⟨⟨by omega,by omega⟩,hv1,hv2⟩,by simp only [];omega⟩;refine (Dr hp h hs (by omega) (λhc=>(hx t (by omega) hc).1) λhc=>(hx t (by omega) hc).2).bind λw ⟨hw1,hw2⟩ => ?_;have hbnd:∀ j,j<w.length->0<=w.getD j default/\w.getD j default<=13:=λj hj=>by
    have hm:w.getD j default∈w:=by
     rw [gdq,geq hj];exact R5 _
    obtain ⟨n,e,hc,hk⟩:=(hw1 _).1 hm;have hxx:=(hx t (by omega) hc).1;have := hs _ ⟨hxx.1,hxx.2.1⟩;rcases hk with ⟨_,k1⟩ | ⟨_,_,k1⟩ | ⟨_,_,k1,_⟩ | ⟨_,_,k1,_⟩ <;> omega
   refine (MN.loop (R:=λv:LI=>v=l++w.map λk=>3*k+(t:Int)) (λz=>(0<=z.2/\z.2<=(w.length:Int))/\z.1=l++(w.take z.2.toNat).map λk=>3*k+(t:Int)) (λz=>((w.length:Int)-z.2).toNat) ⟨⟨RV _,by simp only [];omega⟩,by simp⟩ λz ⟨⟨k1,k2⟩,k3⟩ => ?_).mono λv hv=>?_
   rotate_left
   ·obtain ⟨l',i⟩:=z;simp only at k1 k2 k3;obtain ⟨j,rfl⟩:=RZ k1;unfold gF;simp only [tnn] at k3 ⊢;refine .bifD (λhlt2=>?_) λhge2 => .pure ?_
    ·have hj:j<w.length:=by omega
     have hb:=hbnd j hj;have hll:l'.length<=l.length+w.length:=by rw [k3];simp;omega
     refine .gdD ⟨k1,hlt2⟩<|.gdI (by omega)<|.gdI (by omega)<|.gd (dZ (by omega) rfl)<|.gdI (by omega)<|.pure ⟨⟨⟨by omega,by omega⟩,?_⟩,by omega⟩;simp only;rw [show ((j:Int)+1).toNat=j+1 by omega,k3,SE hj,List.map_append,<- RY,gdq,geq hj]
     rfl
    simp only;rw [k3,show j=w.length by omega,Sv]
   subst hv;refine ⟨λm=>?_,by rw [lla,llm];omega⟩;rw [Sa,h3,R8]
   constructor
   ·rintro (⟨t',k,q1,q2,q3,q4⟩ | ⟨k,q1,q2⟩)
    ·exact ⟨t',k,by omega,q2,q3,q4⟩
    obtain ⟨n,rfl,q3,q4⟩:=(hw1 k).1 q1;exact ⟨t,n,by omega,q3,q4,q2.symm⟩
   rintro ⟨t',k,q1,q2,q3,q4⟩
   by_cases g:t'=t
   ·subst g;exact .inr ⟨k,(hw1 _).2 ⟨k,rfl,q2,q3⟩,q4.symm⟩
   exact .inl ⟨t',k,by omega,q2,q3,q4⟩
  rw [h3]
  constructor
  ·rintro ⟨t',k,q1,q⟩;exact ⟨t',k,by omega,q⟩
  rintro ⟨t',k,q1,q⟩;exact ⟨t',k,by omega,q⟩
 subst e;exact ⟨λm=>((mP v).mem_iff).trans<|h1 m,by rw [(mP v).length_eq];exact h2⟩
end
def w0:ai:=⟨0,false,⟨0,0,0⟩⟩
def rT (p:List<|List MI):au:=⟨v0 p,⟨[w0],[w0],[w0]⟩,⟨⟨0,0,0⟩,⟨0,0,0⟩,⟨0,0,0⟩⟩⟩
section
variable {p:List (List MI)} {s:au}
theorem G5 (p:List<|List MI):MN (jl p) (· = rT p):=by
 unfold jl;refine MN.bind (P:=(· = ([w0],[w0],[w0]))) ?_ λv hv => .pure (by rw [hv];rfl);refine MN.loop (λz=>(z.2.2.2=0/\(z.1,z.2.1,z.2.2.1)=([],[],[]))\/(z.2.2.2=1/\(z.1,z.2.1,z.2.2.1)=([w0],[],[]))\/(z.2.2.2=2/\(z.1,z.2.1,z.2.2.1)=([w0],[w0],[]))\/(z.2.2.2=3/\(z.1,z.2.1,z.2.2.1)=([w0],[w0],[w0]))) (λz=>(3-z.2.2.2).toNat) (.inl ⟨rfl,rfl⟩) λz hz=>?_;obtain ⟨a,b,c,i⟩:=z;unfold mf;simp only [Prod.mk.injEq] at hz;rcases hz with ⟨rfl,rfl,rfl,rfl⟩ | ⟨rfl,rfl,rfl,rfl⟩ | ⟨rfl,rfl,rfl,rfl⟩ | ⟨rfl,rfl,rfl,rfl⟩
 ·exact .bifD (λ_ => .gdD (by decide)<|.gdI (by simp only [];omega)<|.pure ⟨.inr<|.inl ⟨rfl,rfl⟩,by simp only [];omega⟩) λh=>absurd (by decide) h
 ·exact .bifD (λ_ => .gdD (by decide)<|.gdI (by simp only [];omega)<|.pure ⟨.inr<|.inr<|.inl ⟨rfl,rfl⟩,by simp only [];omega⟩) λh=>absurd (by decide) h
 ·exact .bifD (λ_ => .gdD (by decide)<|.gdI (by simp only [];omega)<|.pure ⟨.inr<|.inr<|.inr ⟨rfl,rfl⟩,by simp only [];omega⟩) λh=>absurd (by decide) h
 exact .bifD (λh=>absurd h<|by decide) λ_ => .pure rfl
theorem zR (l:List ai) (j:Int):ae.get ⟨l,l,l⟩ j=l:=by
 unfold ae.get
 split <;> (try split) <;> rfl
theorem Ir (v:ah) (j:Int):aa.get ⟨v,v,v⟩ j=v:=by
 unfold aa.get
 split <;> (try split) <;> rfl
theorem FB (z j:Int):ah.get ⟨z,z,z⟩ j=z:=by
 unfold ah.get
 split <;> (try split) <;> rfl
theorem IW.start (p:List<|List MI):IW p (rT p):=by
 refine ⟨Iv.start p,rfl,λl _=>?_,λl _ w hw=>?_,λt _ j _=>?_⟩
 ·show 1<=(ae.get ⟨[w0],[w0],[w0]⟩ l).length;rw [zR];decide
 ·replace hw:w∈ae.get ⟨[w0],[w0],[w0]⟩ l:=hw;rw [zR,Sj] at hw;subst hw;refine ⟨by decide,λj _=>?_⟩;show 0<=ah.get ⟨0,0,0⟩ j/\ah.get ⟨0,0,0⟩ j<((ae.get ⟨[w0],[w0],[w0]⟩ j).length:Int);rw [FB,zR];decide
 show 0<=ah.get (aa.get ⟨⟨0,0,0⟩,⟨0,0,0⟩,⟨0,0,0⟩⟩ t) j/\ah.get (aa.get ⟨⟨0,0,0⟩,⟨0,0,0⟩,⟨0,0,0⟩⟩ t) j<((ae.get ⟨[w0],[w0],[w0]⟩ j).length:Int);rw [Ir,FB,zR];decide
theorem KU:vwF ⟨0,0,0⟩=λ_=>0:=by
 funext l
 unfold vwF;rw [FB]
 split <;> rfl
theorem Ct (p:List<|List MI):AW (rT p)=a0R:=by
 obtain ⟨h1,h2,_⟩:=yx p;refine RS.ext h1 h2 ?_ ?_
 ·funext l
  show liF ⟨[w0],[w0],[w0]⟩ l=_;unfold liF;rw [zR]
  split
  ·show [vW w0]=[_];unfold vW w0;simp only [KU]
  rfl
 funext t
 show owF ⟨⟨0,0,0⟩,⟨0,0,0⟩,⟨0,0,0⟩⟩ t=_;unfold owF;rw [Ir,KU]
 split <;> rfl
theorem LJ (hp:PW p) (l:Int):WT (prg p) l<=12:=by
 have h:∀ t,(evs (prg p) t).countP (fwL l)<=MP (prg p t):=λt=>by
  refine Sb List.countP_le_length ?_;unfold evs MP;rw [<- List.countP_eq_length_filter];exact R3 _
 have h0:=h 0;have h1:=h 1;have h2:=h 2;have := hp.ev;unfold WT sW;omega
theorem Iu (hp:PW p) (h:Rch (StR<|prg p) a0R<|AW s):SmL s:=λl hl=>by
 have h1:=Ig hp.pv.prg0 h l;have h2:wC (prg p) l (MQ (prg p)<|AW s)<=WT (prg p) l:=GQ _ _;have h3:=LJ hp l;have h4:(AW s).li l=(ae.get s.lists l).map vW:=uj _ hl;rw [h4,llm] at h1;omega
theorem Jy (hp:PW p) (h:IW p s):∀ t,t<p.length->qb s.values t=true->InR (jp s.values t)/\1<=(jp s.values t).Op/\(jp s.values t).Op<=5:=λt ht hc=>by
 have hl:=hp.pv.vs.1;have hx:=(kg h.iv.up (by omega:t<3) (h.iv.pc t<|by omega).1).1 hc;exact ⟨hp.pv.prg _ _ _ hx,hp.op _ _ _ hx⟩
def pq (L:List ai):Int:=(L.getD (L.length-1) default).value
def Mm (s:au):Z3b:=⟨pq s.lists.x0,pq s.lists.x1,pq s.lists.x2⟩
def vX (s:au):MJ:=⟨s.values.p,s.values.pc,s.values.reg,Mm s⟩
theorem LK (u:MJ):dA u=(aQ u).map λl=>(u,l):=by
 unfold aQ dA;have e1:dS u=cn u:=rfl;have e2:dK u=bY u:=rfl;rw [e1,e2]
 cases bA (cn u) ([],0) with
 | none=>rfl
 | some v=>
  simp only [Option.bind_some]
  cases bA (bY u) (v,0) <;> rfl
theorem FC {L:List ai} (h:1<=L.length):∃ w∈L,pq L=w.value:=by
 refine ⟨L.getD (L.length-1) default,?_,rfl⟩;rw [gdq,geq (by omega)];exact R5 _
theorem Cu (h:IW p s):Iv p (vX s):=⟨h.iv.up,h.iv.pc,h.iv.rv,λl hl=>by
 have key:∀ j:Int,0<=j/\j<=2->0<=pq (ae.get s.lists j)/\pq (ae.get s.lists j)<=3:=λj hj=>by
  obtain ⟨w,h1,h2⟩:=FC<|h.ln j hj;rw [h2];exact (h.wv j hj w h1).1
 have k0:=key 0 (by decide);have k1:=key 1 (by decide);have k2:=key 2 (by decide);obtain rfl | rfl | rfl:l=0\/l=1\/l=2:=by omega
 ·exact k0
 ·exact k1
 exact k2⟩
theorem mD (hp:PV p) (h:IW p s) (hs:SmL s):MN (bT s) (· = wT (vX s)):=by
 unfold bT;refine MN.bind (P:=(· = (pq s.lists.x0,pq s.lists.x1,pq s.lists.x2))) ?_ λv hv=>?_
 ·have ln:∀ j:Int,0<=j/\j<=2->1<=(ae.get s.lists j).length/\(ae.get s.lists j).length<=13:=λj hj=>⟨h.ln j hj,hs j hj⟩;have l0:=ln 0 (by decide);have l1:=ln 1 (by decide);have l2:=ln 2 (by decide);have tn:∀ n:Nat,1<=n->((n:Int)-1).toNat=n-1:=λn hn=>by omega
  refine MN.loop (λz=>(z.2.2.2=0/\(z.1,z.2.1,z.2.2.1)=(s.values.mem.x0,s.values.mem.x1,s.values.mem.x2))\/(z.2.2.2=1/\(z.1,z.2.1,z.2.2.1)=(pq s.lists.x0,s.values.mem.x1,s.values.mem.x2))\/(z.2.2.2=2/\(z.1,z.2.1,z.2.2.1)=(pq s.lists.x0,pq s.lists.x1,s.values.mem.x2))\/(z.2.2.2=3/\(z.1,z.2.1,z.2.2.1)=(pq s.lists.x0,pq s.lists.x1,pq s.lists.x2))) (λz=>(3-z.2.2.2).toNat) (.inl ⟨rfl,rfl⟩) λz hz=>?_;obtain ⟨a,b,c,i⟩:=z;unfold jm;simp only [Prod.mk.injEq] at hz;rcases hz with ⟨rfl,rfl,rfl,rfl⟩ | ⟨rfl,rfl,rfl,rfl⟩ | ⟨rfl,rfl,rfl,rfl⟩ | ⟨rfl,rfl,rfl,rfl⟩
  ·refine .bifD (λ_ => .gdD (by simp only [];omega)<|.gdI (by simp only [];omega)<|.gdD (by simp only [];omega)<|.gdI (by simp only [];omega)<|.pure ⟨.inr<|.inl ⟨rfl,?_⟩,by simp only [];omega⟩) λh=>absurd (by simp only [];omega) h;simp only [tn _ l0.1]
   rfl
  ·refine .bifD (λ_ => .gdD (by simp only [];omega)<|.gdI (by simp only [];omega)<|.gdD (by simp only [];omega)<|.gdI (by simp only [];omega)<|.pure ⟨.inr<|.inr<|.inl ⟨rfl,?_⟩,by simp only [];omega⟩) λh=>absurd (by simp only [];omega) h;simp only [tn _ l1.1]
   rfl
  ·refine .bifD (λ_ => .gdD (by simp only [];omega)<|.gdI (by simp only [];omega)<|.gdD (by simp only [];omega)<|.gdI (by simp only [];omega)<|.pure ⟨.inr<|.inr<|.inr ⟨rfl,?_⟩,by simp only [];omega⟩) λh=>absurd (by simp only [];omega) h;simp only [tn _ l2.1]
   rfl
  exact .bifD (λh=>absurd h<|by simp only [];omega) λ_ => .pure rfl
 subst hv;rw [LK];have := yu hp<|Cu h;obtain ⟨o,h1,h2⟩:=this;refine MN.bind (P:=λz:MJ×LI=>z.2=wT (vX s)) ?_ λz hz => .pure hz;refine ⟨(vX s,o),?_,h2⟩;show (aQ<|vX s).map _=_;rw [h1]
 rfl
theorem KV {l:Int} (hl:0<=l/\l<=2) (h:IW p s):Ji (AW s) l=pq (ae.get s.lists l):=by
 unfold Ji;have h1:(AW s).li l=(ae.get s.lists l).map vW:=uj _ hl;have h2:=h.ln l hl;rw [h1,List.getLast?_map,List.getLast?_eq_getElem?,geq (by omega)];unfold pq;rw [gdq,geq (by omega)]
 rfl
theorem Jz (hp:PV p) (h:IW p s):Ic p.length (AW s)=wT (vX s):=by
 have hl:=hp.vs.1;unfold Ic wT tC JZ;have hup:(vX s).p=p:=h.iv.up;rw [hup]
 congr 1
 ·refine Ja λt ht=>Se λg hg=>?_;have ht:=R4.1 ht;have hg:=R4.1 hg;show rgF s.values.reg t g=_;rw [zI,if_pos ⟨by omega,by omega,by omega⟩]
  rfl
 refine Se λl hl=>?_;have hl:=R4.1 hl;rw [KV ⟨by omega,by omega⟩ h];obtain rfl | rfl | rfl:l=0\/l=1\/l=2:=by omega
 ·rfl
 ·rfl
 rfl
theorem FD (hp:PV p) (h:IW p s):(tz s.values).isEmpty=true↔DnR (prg p) (AW s):=by
 have hl:=hp.vs.1;rw [List.isEmpty_iff];refine ⟨λg t=>?_,λg=>?_⟩
 ·rcases Sf t p.length with ht | ht
  ·refine Decidable.byContradiction λk=>?_;have := ((kg h.iv.up (by omega:t<3) (h.iv.pc t<|by omega).1).2 _<|geq<|Nat.lt_of_not_le k).1;have : (t:Int)∈tz s.values:=jq.2 ⟨t,by rw [h.iv.up];exact ht,rfl,this⟩;rw [g] at this;cases this
  unfold prg;rw [gdq,gen ht];exact R6 _
 refine List.eq_nil_iff_forall_not_mem.2 λm hm=>?_;obtain ⟨t,ht,rfl,hc⟩:=jq.1 hm;rw [h.iv.up] at ht;have := (ges<|(kg h.iv.up (by omega:t<3) (h.iv.pc t<|by omega).1).1 hc).1;have h2:=g t;simp only [AW] at h2;omega
theorem FE {n m:Int} {v w:ah} (hv:VB n v) (hw:VB m w) (h:vwF v=vwF w):v=w:=by
 have key:∀ j:Int,0<=j/\j<=2->ah.get v j=ah.get w j:=λj hj=>by
  have := congrFun h j;unfold vwF at this;rw [if_pos hj,if_pos hj] at this;have h1:=hv j hj;have h2:=hw j hj;omega
 have k0:=key 0 (by decide);have k1:=key 1 (by decide);have k2:=key 2 (by decide);obtain ⟨a,b,c⟩:=v;obtain ⟨a',b',c'⟩:=w;have e0:a=a':=k0;have e1:b=b':=k1;have e2:c=c':=k2;rw [e0,e1,e2]
theorem Cv:∀ {L K:List ai},(∀ w∈L,VB 254 w.view)->(∀ w∈K,VB 254 w.view)->L.map vW=K.map vW->L=K
 | [],[],_,_,_=>rfl
 | [],_::_,_,_,h=>by cases h
 | _::_,[],_,_,h=>by cases h
 | a::L,b::K,hL,hK,h=>by
  simp only [List.map_cons,Sk] at h;have h2:=Cv (λw hw=>hL w<|SF _ hw) (λw hw=>hK w<|SF _ hw) h.2;have h1:=h.1;unfold vW at h1;injection h1 with e1 e2 e3;have e4:=FE (hL a List.mem_cons_self) (hK b List.mem_cons_self) e3;obtain ⟨av,at_,aw⟩:=a;obtain ⟨bv,bt,bw⟩:=b;simp only at e1 e2 e4;rw [e1,e2,e4,h2]
theorem KW {s t:au} (hs:IW p s) (ht:IW p t) (ss:SmL s) (st:SmL t) (h:AW s=AW t):s=t:=by
 have h1:pcF s.values.pc=pcF t.values.pc:=congrArg RS.pc h;have h2:rgF s.values.reg=rgF t.values.reg:=congrArg RS.rg h;have h3:liF s.lists=liF t.lists:=congrArg RS.li h;have h4:owF s.own=owF t.own:=congrArg RS.ow h;have hL:∀ j:Int,0<=j/\j<=2->ae.get s.lists j=ae.get t.lists j:=λj hj=>by
  have := congrFun h3 j;rw [uj _ hj,uj _ hj] at this;exact Cv (Lp hs ss j hj) (Lp ht st j hj) this
 have hO:∀ u:Nat,u<3->aa.get s.own u=aa.get t.own u:=λu hu=>by
  have := congrFun h4 u;rw [uk _ hu,uk _ hu] at this;exact FE (hs.vbo ss hu) (ht.vbo st hu) this
 have hpc:∀ u:Nat,u<3->Z3b.get s.values.pc u=Z3b.get t.values.pc u:=λu hu=>by
  have := congrFun h1 u;unfold pcF at this;rw [if_pos hu,if_pos hu] at this;have a:=hs.iv.pc u hu;have b:=ht.iv.pc u hu;omega
 have hrg:∀ u g:Nat,u<3->g<3->Z3b.get (Z33.get s.values.reg u) g=Z3b.get (Z33.get t.values.reg u) g:=λu g hu hg=>by
  have := congrFun (congrFun h2 u) (g:Int);rw [zI,zI,if_pos ⟨hu,by omega,by omega⟩,if_pos ⟨hu,by omega,by omega⟩] at this;exact this
 have hup:=hs.iv.up.trans ht.iv.up.symm;have hm:=hs.m0.trans ht.m0.symm;have l0:=hL 0 (by decide);have l1:=hL 1 (by decide);have l2:=hL 2 (by decide);have o0:=hO 0 (by decide);have o1:=hO 1 (by decide);have o2:=hO 2 (by decide);have p0:=hpc 0 (by decide);have p1:=hpc 1 (by decide);have p2:=hpc 2 (by decide);have r00:=hrg 0 0 (by decide) (by decide);have r01:=hrg 0 1 (by decide) (by decide);have r02:=hrg 0 2 (by decide) (by decide);have r10:=hrg 1 0 (by decide) (by decide);have r11:=hrg 1 1 (by decide) (by decide);have r12:=hrg 1 2 (by decide) (by decide);have r20:=hrg 2 0 (by decide) (by decide);have r21:=hrg 2 1 (by decide) (by decide);have r22:=hrg 2 2 (by decide) (by decide);clear hL hO hpc hrg h1 h2 h3 h4 h hs ht ss st;obtain ⟨⟨P,⟨a0,a1,a2⟩,⟨⟨b0,b1,b2⟩,⟨c0,c1,c2⟩,⟨d0,d1,d2⟩⟩,M⟩,⟨x0,x1,x2⟩,⟨y0,y1,y2⟩⟩:=s;obtain ⟨⟨P',⟨a0',a1',a2'⟩,⟨⟨b0',b1',b2'⟩,⟨c0',c1',c2'⟩,⟨d0',d1',d2'⟩⟩,M'⟩,⟨x0',x1',x2'⟩,⟨y0',y1',y2'⟩⟩:=t;simp only [ae.get,aa.get,Z3b.get,Z33.get] at l0 l1 l2 o0 o1 o2 p0 p1 p2 r00 r01 r02 r10 r11 r12 r20 r21 r22 hup hm;simp at l0 l1 l2 o0 o1 o2 p0 p1 p2 r00 r01 r02 r10 r11 r12 r20 r21 r22;subst l0 l1 l2 o0 o1 o2 p0 p1 p2 r00 r01 r02 r10 r11 r12 r20 r21 r22 hup hm
 rfl
end
def vwL (v:ah):LI:=[v.x0,v.x1,v.x2]
def FG (w:ai):LI:=[w.value,if w.taken=true then 1 else 0]++vwL w.view
def Dt (L:List ai):LI:=(L.length:Int)::L.flatMap FG
def G6 (s:au) (n:Nat):LI:=(R9 n).flatMap λl:Nat=>Dt<|ae.get s.lists l
def ownN (s:au) (n:Nat):LI:=(R9 n).flatMap λt:Nat=>vwL<|aa.get s.own t
def G7 (s:au):LI:=keyL s.values++G6 s 3++ownN s 3
theorem vY (L:List ai):(L.flatMap FG).length=5*L.length:=by
 induction L with
 | nil=>rfl
 | cons a L ih=>rw [Sn,lla,ih,llc];simp [FG,vwL];omega
theorem G8 {a b:ai} (h:FG a=FG b):a=b:=by
 obtain ⟨av,at_,⟨a0,a1,a2⟩⟩:=a;obtain ⟨bv,bt,⟨b0,b1,b2⟩⟩:=b;simp only [FG,vwL,Sw,List.nil_append,Sk,and_true] at h;obtain ⟨rfl,h1,rfl,rfl,rfl⟩:=h
 cases at_ <;> cases bt <;> simp_all
theorem zS:∀ {L K:List ai},L.length=K.length->L.flatMap FG=K.flatMap FG->L=K
 | [],[],_,_=>rfl
 | [],_::_,h,_=>by cases h
 | _::_,[],h,_=>by cases h
 | a::L,b::K,h,e=>by
  rw [Sn,Sn] at e;obtain ⟨e1,e2⟩:=Sy e rfl;rw [G8 e1,zS (by simpa using h) e2]
theorem Bg {L K:List ai} {R S:LI} (h:Dt L++R=Dt K++S):L=K/\R=S:=by
 unfold Dt at h;rw [Sw,Sw,Sk] at h;have hl:L.length=K.length:=by have := h.1;omega
 obtain ⟨e1,e2⟩:=Sy h.2 (by rw [vY,vY,hl]);exact ⟨zS hl e1,e2⟩
theorem G9 {s t:au} (hp:s.values.p=t.values.p) (h:G7 s=G7 t):s=t:=by
 unfold G7 at h;rw [RY,RY] at h;obtain ⟨e1,e2⟩:=Sy h rfl;have e3:=uM hp e1;replace e2:Dt s.lists.x0++(Dt s.lists.x1++(Dt s.lists.x2++([]:LI)))++ownN s 3=Dt t.lists.x0++(Dt t.lists.x1++(Dt t.lists.x2++[]))++ownN t 3:=e2;rw [RY,RY,RY,RY,RY,RY] at e2;obtain ⟨l0,e2⟩:=Bg e2;obtain ⟨l1,e2⟩:=Bg e2;obtain ⟨l2,e2⟩:=Bg e2;replace e2:[s.own.x0.x0,s.own.x0.x1,s.own.x0.x2,s.own.x1.x0,s.own.x1.x1,s.own.x1.x2,s.own.x2.x0,s.own.x2.x1,s.own.x2.x2]=[t.own.x0.x0,t.own.x0.x1,t.own.x0.x2,t.own.x1.x0,t.own.x1.x1,t.own.x1.x2,t.own.x2.x0,t.own.x2.x1,t.own.x2.x2]:=e2;obtain ⟨u,⟨x0,x1,x2⟩,⟨⟨a0,a1,a2⟩,⟨b0,b1,b2⟩,⟨c0,c1,c2⟩⟩⟩:=s;obtain ⟨u',⟨x0',x1',x2'⟩,⟨⟨a0',a1',a2'⟩,⟨b0',b1',b2'⟩,⟨c0',c1',c2'⟩⟩⟩:=t;simp only [Sk,and_true] at e2 e3 l0 l1 l2;obtain ⟨rfl,rfl,rfl,rfl,rfl,rfl,rfl,rfl,rfl⟩:=e2;subst e3 l0 l1 l2
 rfl
section
variable {p:List (List MI)} {s:au}
theorem FH (s:au) (n:Nat):G6 s (n+1)=G6 s n++Dt (ae.get s.lists n):=by
 unfold G6;rw [List.range_succ,Sz];simp
theorem FI (s:au) (n:Nat):ownN s (n+1)=ownN s n++vwL (aa.get s.own n):=by
 unfold ownN;rw [List.range_succ,Sz];simp
theorem yJ (hp:PV p) (h:IW p s) (hs:SmL s):MN (cN s) (· = strOfNums (G7 s)):=by
 unfold cN;refine (BZ s.values).bind λv hv=>?_;subst hv;have hk:(keyL s.values).length=15:=rfl;have hsz:(strOfNums<|keyL s.values).size=15:=by
  have := congrArg List.length<|strOfNums_data<|keyL s.values;simpa [hk] using this
 refine .gdD (by rw [hsz];decide) ?_;rw [xO (ug hp h.iv)];refine MN.bind (P:=λv=>v=keyL s.values++G6 s 3/\v.length<=215) ?_ λv ⟨hv,hvl⟩ => ?_
 ·refine MN.loop (λz=>(0<=z.2/\z.2<=3)/\z.1=keyL s.values++G6 s z.2.toNat/\(z.1.length:Int)<=15+66*z.2) (λz=>(3-z.2).toNat) ⟨⟨RV _,by simp only [];omega⟩,by simp [G6],by simp only [hk];omega⟩ λz ⟨⟨h1,h2⟩,h3,h4⟩ => ?_;obtain ⟨l,i⟩:=z;simp only at h1 h2 h3 h4;obtain ⟨n,rfl⟩:=RZ h1;simp only [tnn] at h3;unfold iZ;refine .bifD (λhlt=>?_) λhge => .pure ⟨by rw [h3,show n=3 by omega],by omega⟩;have hln:=hs n ⟨by omega,by omega⟩;refine MN.bind (P:=λv=>v=l++Dt (ae.get s.lists n)/\v.length<=l.length+66) (.gdD ⟨by omega,by omega⟩<|.gdY (by simp only [];omega)<|.gd (dZ (by simp only [];omega) rfl) ?_) λv ⟨hv1,hv2⟩ => .gdI (by omega) (.pure ⟨⟨⟨by omega,by omega⟩,?_,by simp only [];omega⟩,by simp only [];omega⟩)
  ·refine MN.loop (λz=>(0<=z.2/\z.2<=((ae.get s.lists n).length:Int))/\z.1=l++[((ae.get s.lists n).length:Int)]++((ae.get s.lists n).take z.2.toNat).flatMap FG) (λz=>(((ae.get s.lists n).length:Int)-z.2).toNat) ⟨⟨RV _,by simp only [];omega⟩,by simp⟩ λz ⟨⟨k1,k2⟩,k3⟩ => ?_;obtain ⟨l',j⟩:=z;simp only at k1 k2 k3;obtain ⟨j,rfl⟩:=RZ k1;simp only [tnn] at k3;unfold iG;simp only [tnn];have hll:l'.length<=l.length+66:=by
    rw [k3,lla,lla,vY,List.length_take];simp only [llc,R7];omega
   refine .bifD (λhlt2=>?_) λhge2 => .pure ⟨?_,hll⟩
   ·have hj:j<(ae.get s.lists n).length:=by omega
    refine .gdD ⟨k1,hlt2⟩ (MN.bind (P:=(· = if ((ae.get s.lists n).getD j default).taken=true then (1:Int) else 0)) (.bif (λg => .pure<|by rw [if_pos g]) λg => .pure<|by rw [if_neg (by rw [g];decide)]) λb hb => .gd (dZ (by simp only [llc,R7];omega) rfl)<|.gd (dZ (by simp only [lla,llc,R7];omega) rfl)<|.gdI (by omega)<|.pure ⟨⟨⟨by omega,by omega⟩,?_⟩,by omega⟩);subst hb;simp only;rw [show ((j:Int)+1).toNat=j+1 by omega,k3,SE hj,Sz,gdq,geq hj];simp only [SA,Sn,List.flatMap_nil,List.append_nil,FG,vwL,RY]
   rw [k3,show j=(ae.get s.lists n).length by omega,Sv,RY]
   rfl
  simp only;rw [show ((n:Int)+1).toNat=n+1 by omega,hv1,h3,FH,RY]
 subst hv;refine MN.bind (P:=(· = G7 s)) ?_ λv hv => .pure (by rw [hv]);refine MN.loop (λz=>(0<=z.2/\z.2<=3)/\z.1=keyL s.values++G6 s 3++ownN s z.2.toNat/\(z.1.length:Int)<=215+3*z.2) (λz=>(3-z.2).toNat) ⟨⟨RV _,by simp only [];omega⟩,by simp [ownN],by simp only [];omega⟩ λz ⟨⟨h1,h2⟩,h3,h4⟩ => ?_;obtain ⟨l,i⟩:=z;simp only at h1 h2 h3 h4;obtain ⟨n,rfl⟩:=RZ h1;simp only [tnn] at h3;unfold iH;refine .bifD (λhlt => .gdD ⟨by omega,by omega⟩<|.gd (dZ (by simp only [llc,R7];omega) rfl)<|.gdI (by omega)<|.pure ⟨⟨⟨by simp only [];omega,by simp only [];omega⟩,?_,by simp only [lla,llc,R7];omega⟩,by simp only [];omega⟩) λhge => .pure (by rw [h3,show n=3 by omega];rfl);simp only;rw [show ((n:Int)+1).toNat=n+1 by omega,h3,FI];simp only [vwL,RY]
theorem FJ (hp:PV p) (h:IW p s) (hs:SmL s):∀ x∈G7 s,0<=x/\x<=255:=λx hx=>by
 have vw:∀ (v:ah),VB 254 v->∀ x∈vwL v,0<=x/\x<=255:=λv hv x hx=>by
  have v0:=hv 0 (by decide);have v1:=hv 1 (by decide);have v2:=hv 2 (by decide);have e0:ah.get v 0=v.x0:=rfl;have e1:ah.get v 1=v.x1:=rfl;have e2:ah.get v 2=v.x2:=rfl;simp only [vwL,SB,List.not_mem_nil,or_false] at hx;rcases hx with rfl | rfl | rfl <;> omega
 unfold G7 at hx;rcases Sa.1 hx with hx | hx
 ·rcases Sa.1 hx with hx | hx
  ·exact ug hp h.iv x hx
  unfold G6 at hx;obtain ⟨l,hl,hx⟩:=Sq.1 hx;have hl:=R4.1 hl;have hl2:0<=(l:Int)/\(l:Int)<=2:=⟨by omega,by omega⟩;unfold Dt at hx;rcases SB.1 hx with rfl | hx
  ·have := hs l hl2;omega
  obtain ⟨w,hw,hx⟩:=Sq.1 hx;have h1:=(h.wv l hl2 w hw).1;have h2:=h.vbw hs hl2 hw;unfold FG at hx;rcases Sa.1 hx with hx | hx
  ·simp only [SB,List.not_mem_nil,or_false] at hx;rcases hx with rfl | rfl
   ·omega
   split <;> decide
  exact vw _ h2 x hx
 unfold ownN at hx;obtain ⟨t,ht,hx⟩:=Sq.1 hx;exact vw _ (h.vbo hs<|R4.1 ht) x hx
end
section
variable {p:List (List MI)}
theorem JA (f:MI->Bool) (hf:∀ x,f x=true->x.Op≠4) (l:List MI):(l.filter λx=>x.Op != 4).countP f=l.countP f:=by
 rw [List.countP_filter];refine List.countP_congr λx _=>?_
 constructor
 ·intro h;exact (bae _ _ ▸ h).1
 intro h;rw [bae];exact ⟨h,by simpa using hf x h⟩
theorem Iw (f:MI->Bool) (g:Ins->Bool) (hf:∀ x,f x=true->x.Op≠4) (hg:∀ x,f x=true->g (gq x)=true) (hl:p.length<=3):sW (List.countP f) (prg p)<=mF g (p.map λr=>r.map gq):=by
 have he:∀ l:List MI,(l.filter λx=>x.Op != 4).countP f<=(l.map gq).countP g:=λl=>by
  rw [JA f hf,List.countP_map];exact List.countP_mono_left λx _ h=>hg x h
 have hd:(default:List MI)=[]:=rfl;unfold sW mF evs prg
 match p,hl with
 | [],_=>simp [hd]
 | [a],_=>have := he a;simp [hd];simpa using this
 | [a,b],_=>have := he a;have := he b;simp [hd] at *;omega
 | [a,b,c],_=>have := he a;have := he b;have := he c;simp [hd] at *;omega
 | _::_::_::_::_,hl=>simp at hl
theorem KX (h:dh (p.map λr=>r.map gq)=true) (e:Nat->Nat):phi (prg p) e<=3000:=by
 have hl:=(PV.of h).vs.1;have hx:kV (p.map λr=>r.map gq)<=3000:=by
  simp only [dh,bae,dte] at h;exact h.2
 have hw:∀ l:Int,WT (prg p) l<=cw (p.map λr=>r.map gq) l:=λl=>Iw _ _ (λx hx=>by
  simp only [fwL,wrX,bae,Sg,beq_iff_eq] at hx;omega) (λx hx=>by
  simp only [fwL,wrX,bae,Sg,beq_iff_eq] at hx;simp only [cf,wrB,wrO,gq,bae,Sg,beq_iff_eq];omega) hl
 have hr:∀ l:Int,RT (prg p) l<=cr (p.map λr=>r.map gq) l:=λl=>Iw _ _ (λx hx=>by
  simp only [flL,bae,beq_iff_eq] at hx;omega) (λx hx=>by
  simp only [flL,bae,beq_iff_eq] at hx;simp only [cf,rdB,rdO,gq,bae,Sg,beq_iff_eq];omega) hl
 have hp:∀ l:Nat,phl (prg p) l e<=Ll (p.map λr=>r.map gq) l:=λl=>by
  refine Sb (KH _ _) ?_;unfold Ll;refine Sr (Sb (Nat.pow_le_pow_left (Nat.succ_le_succ<|hw l) _)<|Nat.pow_le_pow_right (by omega)<|hr l)<|Cm<|hw l
 refine Sb ?_ hx;unfold phi kV;simp only [pT,Nat.one_mul];exact Sr (Sr (hp 0)<|hp 1)<|hp 2
def uy:Mac au where
 mv s:=(bW s).getD default
 af s m:=(bX s m).getD default
 ky s:=(cN s).getD default
 dn s:=(da s).getD default
 oc s:=(bT s).getD default
theorem eO {α:Type} [Inhabited α] {x:Option α} {P:α->Prop} (h:MN x P):P (x.getD default)/\MN x (· = x.getD default):=by
 obtain ⟨v,h1,h2⟩:=h;rw [h1];exact ⟨h2,v,rfl,rfl⟩
theorem zT (hp:PV p) {s:au} (h:IW p s):MN (da s) (· = (tz s.values).isEmpty):=by
 unfold da;exact (vR hp h.iv).bind λv hv => .pure hv
theorem JB {t k:Nat} (ht:t<3):(3*(k:Int)+t).tmod 3=(t:Int)/\(3*(k:Int)+t).tdiv 3=(k:Int):=by
 rw [Int.tmod_eq_emod_of_nonneg (by omega),Int.tdiv_eq_ediv_of_nonneg (by omega)];omega
theorem Bh (hp:PW p) {s:au} (h:IW p s) (hs:SmL s) {t k:Nat} (ht:t<p.length) (hc:qb s.values t=true) (hk:zQ s t (jp s.values t) k):MN (bX s<|3*(k:Int)+t) (· = afW s t k (jp s.values t)):=by
 have hl:=hp.pv.vs.1;obtain ⟨hx,ho⟩:=Jy hp h t ht hc;obtain ⟨m1,m2⟩:=JB (k:=k) (show t<3 by omega);have hln:=hs _ ⟨hx.1,hx.2.1⟩;refine Dq hp.pv h hs m1 m2 ht hc hx ho ?_ (λo=>?_) λo=>?_
 ·rcases hk with ⟨_,k1⟩ | ⟨_,_,k1⟩ | ⟨_,_,k1,_⟩ | ⟨_,_,k1,_⟩ <;> omega
 ·rcases hk with ⟨o',k1⟩ | ⟨o',_,k1⟩ | ⟨o',_,k1,_⟩ | ⟨o',_,k1,_⟩ <;> omega
 rcases hk with ⟨o',k1⟩ | ⟨o',_,k1⟩ | ⟨o',_,k1,_⟩ | ⟨o',_,k1,_⟩ <;> omega
def IS (p:List<|List MI) (s:au):Prop:=IW p s/\SmL s
theorem vZ (hp:PW p):Bis uy (rT p) (StR<|prg p) a0R (DnR<|prg p) (Ic p.length) (IS p) AW where
 i0:=⟨IW.start p,Iu hp<|by rw [Ct];exact .base⟩
 h0:=Ct p
 fw:=λs m ⟨h,hs⟩ hr hm=>by
  have hl:=hp.pv.vs.1;obtain ⟨t,k,ht,hc,hk,rfl⟩:=((eO<|mW hp.pv h hs<|Jy hp h).1.1 m).1 hm;obtain ⟨hx,_⟩:=Jy hp h t ht hc;have e:uy.af s (3*(k:Int)+t)=afW s t k (jp s.values t):=(eO<|Bh hp h hs ht hc hk).1;rw [e];have hst:=Jv h hs (by omega) hc hx hk;exact ⟨⟨GZ h (by omega) hc hx hk,Iu hp<|hr.step hst⟩,hst⟩
 bw:=λs b ⟨h,hs⟩ hr hb=>by
  obtain ⟨t,k,ht,hc,hk,e1⟩:=Jw h hs hp.pv.prg hp.pv.vs.1 hb;refine ⟨3*(k:Int)+t,((eO<|mW hp.pv h hs<|Jy hp h).1.1 _).2 ⟨t,k,ht,hc,hk,rfl⟩,?_⟩;have e:uy.af s (3*(k:Int)+t)=afW s t k (jp s.values t):=(eO<|Bh hp h hs ht hc hk).1;rw [e,e1]
 dn:=λs ⟨h,hs⟩ hr=>by
  have e:uy.dn s=(tz s.values).isEmpty:=(eO<|zT hp.pv h).1;rw [e];exact FD hp.pv h
 oc:=λs ⟨h,hs⟩ hr _=>by
  have e:uy.oc s=wT (vX s):=(eO<|mD hp.pv h hs).1;rw [e,Jz hp.pv h]
theorem Ha (hp:PW p) (hv:dh (p.map λr=>r.map gq)=true):Mok uy (rT p) 816293376000:=
 (vZ hp).mok (λs t ⟨hs,ss⟩ ⟨ht,st⟩ _ _ h=>by
  have e1:uy.ky s=strOfNums (G7 s):=(eO (yJ hp.pv hs ss)).1;have e2:uy.ky t=strOfNums (G7 t):=(eO (yJ hp.pv ht st)).1;rw [e1,e2] at h;exact G9 (hs.iv.up.trans ht.iv.up.symm) (nI (FJ hp.pv hs ss) (FJ hp.pv ht st) h))
  (λs t ⟨hs,ss⟩ ⟨ht,st⟩ h=>KW hs ht ss st h) (Ml hp.pv.prg0 hp.pv.prg hp.op hp.pv.vs.2 hp.ev<|KX hv)
theorem Hd (hp:PW p):Mrt bW bX cN da bT uy (rT p):=by
 have B:=vZ hp;refine ⟨λs hs=>(eO<|mW hp.pv (B.rea hs).1.1 (B.rea hs).1.2<|Jy hp (B.rea hs).1.1).2,λs m hs hm=>?_,λs hs=>(eO<|yJ hp.pv (B.rea hs).1.1 (B.rea hs).1.2).2,λs hs=>(eO<|zT hp.pv (B.rea hs).1.1).2,λs hs _=>(eO<|mD hp.pv (B.rea hs).1.1 (B.rea hs).1.2).2,λs hs=>?_⟩
 ·obtain ⟨h,hs'⟩:=(B.rea hs).1;obtain ⟨t,k,ht,hc,hk,rfl⟩:=((eO<|mW hp.pv h hs'<|Jy hp h).1.1 m).1 hm;exact (eO<|Bh hp h hs' ht hc hk).2
 have := (eO<|mW hp.pv (B.rea hs).1.1 (B.rea hs).1.2<|Jy hp (B.rea hs).1.1).1.2;show ((bW s).getD default).length<=_;omega
def RaO (p:List<|List MI):LI->Prop:=Lm (prg p) p.length
structure RunV (O:List Int->Prop) (q:List (List Int)):Prop where
 lt:q.Pairwise ltL
 mem:∀ o,o∈q↔O o
 len:q.length<=816293376000
theorem He (hp:PW p) (hb:dh (p.map λr=>r.map gq)=true) (hv:aA p=some true):MN (mg p) (RunV<|RaO p):=by
 have B:=vZ hp;have e:fB (rT p)=Kj bW bX cN da bT aR (rT p):=rfl;have hQ:∀ l:LL,l.length<=816293376000->(∀ o∈l,I2 uy (rT p) o)->MN (aR l) λq=>Sor l q/\l.length<=816293376000:=λl hl ho=>(tv (by omega) λr hr=>by
  obtain ⟨s,h1,_,rfl⟩:=ho r hr;have h2:=(B.rea h1).1;have h3:=hp.pv.vs.1;have e:uy.oc s=wT (vX s):=(eO (mD hp.pv h2.1 h2.2)).1;rw [e,uN];have : (vX s).p=p:=h2.1.iv.up;rw [this];omega).mono λq h=>⟨h,hl⟩
 unfold mg;rw [hv];refine MN.bind (P:=(· = true)) (.pure rfl) λb hbt => .bif (λh=>absurd h<|by rw [hbt];decide) λ_=>?_;refine (G5 p).bind λv ev=>?_;subst ev;refine MN.bind (P:=λq:LL×Int=>RunV (RaO p) q.1) ?_ λq hq => .pure hq;rw [e];exact (AL (Q:=λl q=>Sor l q/\l.length<=816293376000) (Ha hp hb) (Hd hp) (by decide) hQ).mono λq ⟨l,⟨h1,h3⟩,h2,_⟩=>⟨h1.lt,λo=>(h1.mem o).trans<|(h2 o).trans<|B.outs o,Sb h1.len h3⟩
end
open Go.RowKit
theorem JC {a b:LI} (ha:a.length<=1099511627776):MN (lj a b) (· = decide (a=b)):=by
 unfold lj;refine .bif (λh => .pure (decide_eq_false λe=>?_).symm) λh=>?_
 ·rw [e] at h;simp at h
 have hl:a.length=b.length:=by
  have : (a.length:Int)=(b.length:Int):=by simpa using h
  omega
 refine MN.sum (PS:=λ_=>a=b) (PW:=(· = decide (a=b))) ?_ λ_ he => .pure (decide_eq_true he).symm;refine MN.loop (λi=>(0<=i/\i<=(a.length:Int))/\∀ j:Nat,(j:Int)<i->a[j]? = b[j]?) (λi=>((a.length:Int)-i).toNat) ⟨⟨RV _,by omega⟩,λj hj=>by omega⟩ λi ⟨⟨h1,h2⟩,h3⟩ => ?_;unfold nV;refine .bifD (λhlt => .gdD ⟨h1,hlt⟩<|.gdD ⟨h1,by omega⟩<|.bif (λhn => .pure ?_) λhn => .gdI (by omega)<|.pure ⟨⟨⟨by omega,by omega⟩,λj hj=>?_⟩,by omega⟩) λhge => .pure<|List.ext_getElem? λj=>?_
 ·refine (decide_eq_false λe=>?_).symm;rw [e] at hn;simp at hn
 ·by_cases e:j=i.toNat
  ·subst e;have hi:i.toNat<a.length:=by omega
   have hi2:i.toNat<b.length:=by omega
   have : a.getD i.toNat default=b.getD i.toNat default:=by simpa using hn
   rw [gdq,gdq,geq hi,geq hi2] at this;rw [geq hi,geq hi2];exact congrArg some this
  exact h3 j (by omega)
 rcases Sf j a.length with g | g
 ·exact h3 j (by omega)
 rw [gen g,gen (by omega)]
section
variable {p:List (List MI)}
abbrev nRa:ByteArray:=⟨#[114,97]⟩
structure OkQ (q:List (List Int)):Prop where
 lt:q.Pairwise ltL
 sm:(∀ r∈q,r.length<=1048576)/\q.length<=1099511627776
theorem OkQ.nil:OkQ []:=⟨.nil,⟨λ_ h=>(nomatch h),R6 _⟩⟩
end
def sN (i k:Nat):Nat->Nat:=λt=>bM t i k
theorem FK (i k t:Nat):sN i k (sN i k t)=t:=lN t i k
section
variable {n i k x y:Nat}
theorem JD (h1:1<=n) (h3:n<=3) (hi:i<n) (hk:k<n) (a:TS):outT n (thS (sN i k) a)=tF n i k 0 0 (outT n a):=by
 obtain rfl | rfl | rfl:n=1\/n=2\/n=3:=by omega
 ·obtain rfl:i=0:=by omega
  obtain rfl:k=0:=by omega
  rfl
 ·obtain rfl | rfl:i=0\/i=1:=by omega
  all_goals (obtain rfl | rfl:k=0\/k=1:=by omega)
  all_goals rfl
 obtain rfl | rfl | rfl:i=0\/i=1\/i=2:=by omega
 all_goals (obtain rfl | rfl | rfl:k=0\/k=1\/k=2:=by omega)
 all_goals rfl
theorem JE (h1:1<=n) (h3:n<=3) (hi:i<n) (hk:k<n) (a:RS):Ic n (thR (sN i k) a)=tF n i k 0 0 (Ic n a):=by
 obtain rfl | rfl | rfl:n=1\/n=2\/n=3:=by omega
 ·obtain rfl:i=0:=by omega
  obtain rfl:k=0:=by omega
  rfl
 ·obtain rfl | rfl:i=0\/i=1:=by omega
  all_goals (obtain rfl | rfl:k=0\/k=1:=by omega)
  all_goals rfl
 obtain rfl | rfl | rfl:i=0\/i=1\/i=2:=by omega
 all_goals (obtain rfl | rfl | rfl:k=0\/k=1\/k=2:=by omega)
 all_goals rfl
theorem Cw (h1:1<=n) (hi:i<n) (hk:k<n) (hx:x<=2) (hy:y<=2) {o:LI} (ho:o.length=3*n+3):tF n i k x y (tF n i k x y o)=o:=by
 have get:∀ j,j<3*n+3->(tF n i k x y o).getD j default=if j<3*n then o.getD (3*bM (j / 3) i k+j % 3) default else o.getD (3*n+bM (j-3*n) x y) default:=λj hj=>by
  unfold tF;rw [gdq,Sd,SG hj]
  rfl
 conv=>rhs;rw [Ia ho]
 conv=>lhs;unfold tF
 refine Se λj hj=>?_;have hj:=R4.1 hj
 by_cases h:j<3*n
 ·have h2:=mi (t:=j / 3) (show j / 3<n by omega) hi hk;have h4:=Nat.mod_lt j (show 0<3 by decide);rw [if_pos h];have := get (3*bM (j / 3) i k+j % 3) (by omega);unfold tF at this;rw [this,if_pos (by omega),show (3*bM (j / 3) i k+j % 3) / 3=bM (j / 3) i k by omega,show (3*bM (j / 3) i k+j % 3) % 3=j % 3 by omega,lN]
  congr 1
  omega
 have h2:=mi (t:=j-3*n) (n:=3) (i:=x) (k:=y) (by omega) (by omega) (by omega);rw [if_neg h];have := get (3*n+bM (j-3*n) x y) (by omega);unfold tF at this;rw [this,if_neg (by omega),show 3*n+bM (j-3*n) x y-3*n=bM (j-3*n) x y by omega,lN]
 congr 1
 omega
end
section
variable {p q:List (List MI)}
def MO (p:List<|List MI):Nat->LI->Prop
 | 0=>Gr p
 | 1=>FX p false
 | 2=>FX p true
 | _=>RaO p
def nmO:Nat->ByteArray
 | 0=>Ma
 | 1=>Mb
 | 2=>Mc
 | _=>nRa
structure RunM (p:List (List MI)) (j:Nat) (l:List (List Int)):Prop where
 lt:l.Pairwise ltL
 mem:∀ o,o∈l↔MO p j o
 len:l.length<=1099511627776
theorem FL (hp:PW p) (hb:dh (p.map λr=>r.map gq)=true) (hv:aA p=some true) {j:Nat} (hj:j<4):MN (aK p<|nmO j) (RunM p j):=by
 obtain rfl | rfl | rfl | rfl:j=0\/j=1\/j=2\/j=3:=by omega
 ·exact (Gy hp.pv hv).mono λq h=>⟨h.run.lt,h.run.mem,by have := h.run.len;omega⟩
 ·exact (Gz hp hv).mono λq h=>⟨h.run.lt,h.run.mem,by have := h.run.len;omega⟩
 ·exact (GA hp hv).mono λq h=>⟨h.run.lt,h.run.mem,by have := h.run.len;omega⟩
 show MN (aK p nRa) (RunM p 3);unfold aK;refine .bifD (λe=>absurd e<|by decide) λ_ => .bifD (λe=>absurd e<|by decide) λ_ => .bifD (λe=>absurd e<|by decide) λ_ => .bifD (λ_=>?_) λh=>absurd rfl h;exact (He hp hb hv).bind λq h => .pure ⟨h.lt,h.mem,by have := h.len;omega⟩
theorem yK (hp:PV p) {u:MJ} (h:Iv p u):(wT u).length=3*p.length+3/\∀ v∈wT u,0<=v/\v<=3:=by
 have hl:=hp.vs.1;refine ⟨by rw [uN,h.up],λv hv=>?_⟩;unfold wT tC JZ at hv;rcases Sa.1 hv with hv | hv
 ·obtain ⟨t,ht,hv⟩:=Sq.1 hv;obtain ⟨g,hg,rfl⟩:=R8.1 hv;have ht:=R4.1 ht;rw [h.up] at ht;exact h.rv t g (by omega)<|R4.1 hg
 obtain ⟨l,hl,rfl⟩:=R8.1 hv;exact h.mv l<|R4.1 hl
theorem Cy (hp:PW p) {j:Nat} {o:LI} (h:MO p j o):o.length=3*p.length+3/\∀ v∈o,0<=v/\v<=3:=by
 have buf:∀ sp,FX p sp o->o.length=3*p.length+3/\∀ v∈o,0<=v/\v<=3:=λsp h=>by
  obtain ⟨s,h1,_,rfl⟩:=((zL hp sp).outs o).2 h;have h2:=(zL hp sp).rea h1;exact yK hp.pv<|h2.1.iv<|InT.of hp.pv.prg h2.2
 match j with
 | 0=>
  obtain ⟨s,h1,_,rfl⟩:=h;exact yK hp.pv<|qA hp.pv (Iv.start p) h1
 | 1=>exact buf false h
 | 2=>exact buf true h
 | j+3=>
  obtain ⟨s,h1,_,rfl⟩:=((vZ hp).outs o).2 h;have h2:=((vZ hp).rea h1).1;have e:uy.oc s=wT (vX s):=(eO<|mD hp.pv h2.1 h2.2).1;rw [e];exact yK hp.pv<|Cu h2.1
theorem KY (hp:PW p) (hq:PW q) {i k:Nat} (hi:i<p.length) (hk:k<p.length) (hl:q.length=p.length) (hpr:prg q=λt=>prg p<|sN i k t) {j:Nat} {o:LI} (h:MO p j o):MO q j (tF p.length i k 0 0 o):=by
 have h3:=hp.pv.vs.1;have buf:∀ d cl,J0 (prg p) d cl p.length o->J0 (prg q) d cl q.length (tF p.length i k 0 0 o):=λd cl h=>by
  rw [hpr,hl];exact KG (FK i k) (λa=>JD (by omega) h3 hi hk a) h
 match j with
 | 0=>exact (yz hq.pv id _).2 (buf _ _<|(yz hp.pv id _).1 h)
 | 1=>exact buf _ _ h
 | 2=>exact buf _ _ h
 | j+3=>
  show Lm (prg q) q.length _;rw [hpr,hl];exact Jj (FK i k) (λa=>JE (by omega) h3 hi hk a) h
theorem JF {b:LL} {o:LI} (hb:b.length<=1099511627776) (hr:∀ r∈b,r.length<=1048576):MN (gu b o) (· = decide (o∈b)):=by
 unfold gu;refine MN.sum (PS:=λ_=>o∉b) (PW:=(· = decide (o∈b))) ?_ λ_ he => .pure (decide_eq_false he).symm;refine MN.loop (λi=>(0<=i/\i<=(b.length:Int))/\∀ j:Nat,(j:Int)<i->b[j]? ≠ some o) (λi=>((b.length:Int)-i).toNat) ⟨⟨RV _,by omega⟩,λj hj=>by omega⟩ λi ⟨⟨h1,h2⟩,h3⟩ => ?_;unfold lM;refine .bifD (λhlt => .gdD ⟨h1,hlt⟩ ?_) λhge => .pure ?_
 ·have hi:i.toNat<b.length:=by omega
  have eb:b.getD i.toNat default=b[i.toNat]:=by simp [List.getD,hi]
  rw [eb];refine (JC (by have := hr _<|R5 hi;omega)).bind λv hv=>?_;subst hv;refine .bifD (λhe => .pure ?_) λhne => .gdI (by omega)<|.pure ⟨⟨⟨by omega,by omega⟩,λj hj=>?_⟩,by omega⟩
  ·exact (decide_eq_true<|he ▸ R5 hi).symm
  by_cases e:j=i.toNat
  ·subst e;rw [geq hi];exact λh=>hne<|osl h
  exact h3 j (by omega)
 intro hm;obtain ⟨j,hj,rfl⟩:=List.getElem_of_mem hm;exact h3 j (by omega)<|geq hj
end
theorem JG (p:List<|List Ins):toP (ofP p)=p:=by
 simp only [toP,ofP,Ss];have : (List.map gq ∘ List.map Df)=(id:List Ins->List Ins):=by
  funext l
  simp only [Function.comp,Ss];have : (gq ∘ Df)=(id:Ins->Ins):=rfl;rw [this,SC,id]
 show List.map ((λr=>List.map gq r) ∘ λr=>List.map Df r) p=p;rw [show ((λr=>List.map gq r) ∘ λr=>List.map Df r)=(id:List Ins->List Ins) from this,SC]
theorem zU (x:MI):MN (jv x) λ_=>True:=by
 unfold jv;exact MN.bind (P:=λ_=>True) (.bif (λ_ => .pure trivial) λ_ => .pure trivial) λ_ _=>MN.bind (P:=λ_=>True) (.bif (λ_ => .pure trivial) λ_ => .pure trivial) λ_ _ => .pure trivial
theorem Bi (x:MI):MN (kv x) λ_=>True:=by
 unfold kv;exact MN.bind (P:=λ_=>True) (.bif (λ_ => .pure trivial) λ_ => .pure trivial) λ_ _ => .pure trivial
theorem Sm.row {p:List (List MI)} (h:Sm p) (i:Nat):(p.getD i default).length<=9:=by
 by_cases hi:i<p.length
 ·have : p.getD i default=p[i]:=by simp [hi]
  rw [this];exact (h.2 _<|R5 hi).1
 rw [gdq,gen (Nat.le_of_not_lt hi)];exact R6 _
theorem wh {p:List (List MI)} (hp:Sm p) (loc:Int) (wr:Bool):MN (iS p loc wr) λv=>0<=v/\v<=81:=by
 unfold iS;have hpl:=hp.1;refine MN.bind (P:=λv:Int=>0<=v/\v<=81) ?_ λv hv => .pure hv;refine MN.loop (λs=>0<=s.1/\s.1<=(p.length:Int)/\0<=s.2/\s.2<=9*s.1) (λs=>((p.length:Int)-s.1).toNat) ⟨RV _,by simp only [];omega,RV _,RV _⟩ λs ⟨h1,h2,h3,h4⟩ => ?_;unfold mU;refine .bifD (λh0=>?_) λh0 => .pure ⟨h3,by omega⟩;have hrow:=hp.row s.1.toNat;refine MN.bind (P:=λv:Int=>0<=v/\v<=9*s.1+9) ?_ λv ⟨g1,g2⟩ => .gdI (by omega)<|.pure ⟨⟨by simp only [];omega,by simp only [];omega,g1,by simp only [];omega⟩,by simp only [];omega⟩;refine MN.loop (λt=>0<=t.1/\t.1<=((p.getD s.1.toNat default).length:Int)/\0<=t.2/\t.2<=9*s.1+t.1) (λt=>(((p.getD s.1.toNat default).length:Int)-t.1).toNat) ⟨RV _,by simp only [];omega,h3,by simp only [];omega⟩ λt ⟨k1,k2,k3,k4⟩ => ?_;unfold mo;refine .gdD ⟨h1,h0⟩<|.bifD (λhk=>?_) λhk => .pure ⟨k3,by omega⟩;refine MN.bind (P:=λv:Int=>0<=v/\v<=t.2+1) ?_ λv ⟨g1,g2⟩ => .gdI (by omega)<|.pure ⟨⟨by simp only [];omega,by simp only [];omega,g1,by simp only [];omega⟩,by simp only [];omega⟩;refine .gdD ⟨k1,hk⟩<|MN.bind (P:=λ_=>True) ?_ λb _ => .bif (λ_ => .gdI (by omega)<|.pure ⟨by omega,by omega⟩) λ_ => .pure ⟨k3,by omega⟩;refine .bif (λ_=>?_) λ_ => .pure trivial;refine MN.bind (P:=λ_=>True) (.bif (λ_=>(zU _).bind λ_ _ => .pure trivial) λ_ => .pure trivial) λ_ _=>?_;refine MN.bind (P:=λ_=>True) (.bif (λ_ => .pure trivial) λ_=>?_) λ_ _ => .pure trivial;exact MN.bind (P:=λ_=>True) (.bif (λ_=>(Bi _).bind λ_ _ => .pure trivial) λ_ => .pure trivial) λ_ _ => .pure trivial
theorem Bj {p:List (List MI)} (hp:Sm p) {most:Int} (hm:0<=most/\most<=10000):MN (kx p most) λ_=>True:=by
 unfold kx;refine MN.bind (P:=λv:Int=>0<=v/\v<=1000000000) ?_ λv ⟨h1,h2⟩ => .bifD (λ_ => .gdI (by omega)<|.pure trivial) λ_ => .pure trivial;refine MN.loop (λs=>0<=s.1/\s.1<=3/\0<=s.2/\s.2<=1000000000) (λs=>(3-s.1).toNat) ⟨RV _,by decide,by decide,by decide⟩ λs ⟨h1,h2,h3,h4⟩ => ?_;unfold mV;refine .bifD (λh0=>?_) λh0 => .pure ⟨h3,h4⟩;refine MN.bind (P:=λv:Int=>0<=v/\v<=1000000000) ?_ λv ⟨g1,g2⟩ => .gdI (by omega)<|.pure ⟨⟨by simp only [];omega,by simp only [];omega,g1,g2⟩,by simp only [];omega⟩;refine (wh hp _ _).bind λw ⟨w1,w2⟩=>MN.bind (P:=λv:Int=>0<=v/\v<=1000000000) ?_ λv ⟨g1,g2⟩ => ?_
 ·refine MN.loop (λt=>0<=t.1/\t.1<=81/\0<=t.2/\t.2<=1000000000) (λt=>(81-t.1).toNat) ⟨RV _,by simp only [];omega,h3,h4⟩ λt ⟨k1,k2,k3,k4⟩ => ?_;unfold mq;refine (wh hp _ _).bind λc ⟨c1,c2⟩=>MN.bind (P:=λb=>b=(decide (t.1<c)&&decide (t.2<=most))) (.bifD (λh => .pure<|by simp [h]) λh => .pure<|by simp [h]) λb hb => .bif (λht=>?_) λ_ => .pure ⟨k3,k4⟩;rw [hb] at ht;simp only [bae,dte] at ht;have e1:0<=t.2*(w+1)/\t.2*(w+1)<=10000*82:=⟨Int.mul_nonneg k3 (by omega),Int.mul_le_mul (by omega) (by omega) (by omega)<|by omega⟩;exact .gdI (by omega)<|.gdI (by omega)<|.gdI (by omega)<|.pure ⟨⟨by simp only [];omega,by simp only [];omega,e1.1,by simp only [];omega⟩,by simp only [];omega⟩
 refine MN.loop (λt=>2<=t.1/\t.1<=82/\0<=t.2/\t.2<=1000000000) (λt=>(82-t.1).toNat) ⟨RV _,by simp only [];omega,g1,g2⟩ λt ⟨k1,k2,k3,k4⟩ => ?_;unfold mr;refine MN.bind (P:=λb=>b=(decide (t.1<=w)&&decide (t.2<=most))) (.bifD (λh => .pure<|by simp [h]) λh => .pure<|by simp [h]) λb hb => .bif (λht=>?_) λ_ => .pure ⟨k3,k4⟩;rw [hb] at ht;simp only [bae,dte] at ht;have e1:0<=t.2*t.1/\t.2*t.1<=10000*82:=⟨Int.mul_nonneg k3 (by omega),Int.mul_le_mul (by omega) (by omega) (by omega)<|by omega⟩;exact .gdI (by omega)<|.gdI (by omega)<|.pure ⟨⟨by simp only [];omega,by simp only [];omega,e1.1,by simp only [];omega⟩,by simp only [];omega⟩
theorem LM:uS (⟨#[120,61,49,59,97,61,121,124,121,61,49,59,97,61,120]⟩:ByteArray)=true:=by decide +kernel
theorem Bl {k:Int} {r:ak} (h:Rd k r) (hk:k<=10000):MN (kz r) λv=>Rd (k+46) v.1/\smP v.2=true:=by
 unfold kz;refine (Dk h.mk' hk GL).bind λv ⟨a1,a2⟩=>(Bj (Ch a2)<|by decide).bind λn _ => .bifD (λ_ => .pure ⟨a1.mk',a2⟩) λ_=>?_;exact (xS LM).bind λu hu => .pure ⟨a1.mk',hu⟩
theorem Du {p q:List (List Ins)} (h:q.Perm p):dh q=dh p:=by
 have hc:∀ f,mF f q=mF f p:=λf=>by
  unfold mF;exact (h.map _).sum_nat
 have ha:q.all rowOk=p.all rowOk:=by
  rw [Bool.eq_iff_iff,Sc,Sc];exact ⟨λg x hx=>g x<|h.mem_iff.2 hx,λg x hx=>g x<|h.mem_iff.1 hx⟩
 have he:kV q=kV p:=by
  unfold kV;simp only [pT,Ll,cw,cr,hc]
 have hn:=hc p9;unfold dh mb;rw [ha,hn,he,h.length_eq]
theorem KZ (a b c:List Ins):[c,b,a].Perm [a,b,c]:=List.reverse_perm [a,b,c]
theorem Dv {p:List (List Ins)} (h3:p.length<=3) {i k:Nat} (hi:i<p.length) (hk:k<p.length):(ig p i k).Perm p:=by
 match p,h3 with
 | [],_=>exact absurd hi (by simp)
 | [a],_=>
  simp only [llc,R7] at hi hk;obtain rfl:i=0:=by omega
  obtain rfl:k=0:=by omega
  exact .refl _
 | [a,b],_=>
  simp only [llc,R7] at hi hk;rcases (show i=0\/i=1 by omega) with rfl | rfl <;> rcases (show k=0\/k=1 by omega) with rfl | rfl
  ·exact .refl _
  ·exact .swap _ _ _
  ·exact .swap _ _ _
  exact .refl _
 | [a,b,c],_=>
  simp only [llc,R7] at hi hk;rcases (show i=0\/i=1\/i=2 by omega) with rfl | rfl | rfl <;> rcases (show k=0\/k=1\/k=2 by omega) with rfl | rfl | rfl
  ·exact .refl _
  ·exact .swap _ _ _
  ·exact KZ a b c
  ·exact .swap _ _ _
  ·exact .refl _
  ·exact .cons _<|.swap _ _ _
  ·exact KZ a b c
  ·exact .cons _<|.swap _ _ _
  exact .refl _
section
variable {p q:List (List MI)}
theorem Mo {f:LI->LI} {a b:LL} {T:LI->Option (List Int×Bool)} {g:Int->Option (Int ⊕ (Unit ⊕ (Unit ⊕ (Int ⊕ (Unit ⊕ Bool)))))} (ha:a.length<=1099511627776) (hb:b.length<=1099511627776) (hr:∀ r∈b,r.length<=1048576)
  (hT:∀ o∈a,MN (T o) (· = (f o,true))) (hm:∀ o∈a,f o∈b)
  (hg:∀ z,g z=bif decide (z<(a.length:Int)) then (gd (decide<|0<=z/\z<(a.length:Int))<|SD (T<|a.getD z.toNat default) λv31=>SD (bif !v31.2 then some true else SD (gu b v31.1) λv34=>some<|!v34) λs32=>bif s32 then some (.inr<|.inr<|.inr<|.inr<|.inr false) else gd (MG .i64<|z+(1:Int))<|some<|.inl<|z+(1:Int)) else some (.inr<|.inl ())) :
  MN (bA g (0:Int)) (· = .inl ()):=by
 refine MN.loop (λi=>0<=i/\i<=(a.length:Int)) (λi=>((a.length:Int)-i).toNat) ⟨RV _,by omega⟩ λi ⟨h1,h2⟩ => ?_;rw [hg];refine .bifD (λhlt => .gdD ⟨h1,hlt⟩ ?_) λhge => .pure rfl;have hi:i.toNat<a.length:=by omega
 have eb:a.getD i.toNat default=a[i.toNat]:=by simp [List.getD,hi]
 rw [eb];have hmem:=R5 hi;refine (hT _ hmem).bind λv hv=>?_;subst hv;refine MN.bind (P:=(· = false)) (.bif (λh=>by cases h) λ_=>(JF hb hr).bind λv hv => .pure<|by rw [hv,decide_eq_true (hm _ hmem)];rfl) λs hs=>?_;subst hs;exact .bif (λh=>by cases h) λ_ => .gdI (by omega)<|.pure ⟨⟨by omega,by omega⟩,by omega⟩
theorem Hf {j:Nat} (hj:j<4):(([(⟨#[115,101,113]⟩:ByteArray),(⟨#[116,115,111]⟩:ByteArray),(⟨#[112,115,111]⟩:ByteArray),(⟨#[114,97]⟩:ByteArray)]:List ByteArray).getD j default)=nmO j:=by
 obtain rfl | rfl | rfl | rfl:j=0\/j=1\/j=2\/j=3:=by omega
 all_goals rfl
theorem Hg {j:Nat} {f:LI->LI} {a b:LL} (ha:RunM p j a) (hb:RunM q j b) (h1:∀ o,MO p j o->MO q j (f o)) (h2:∀ o,MO q j o->MO p j (f o)) (hff:∀ o,MO p j o->f (f o)=o) (hgg:∀ o,MO q j o->f (f o)=o):a.length=b.length:=by
 have few:∀ {x y:LL},y.Pairwise ltL->(∀ o∈y,∃ o',o'∈x/\f o'=o)->y.length<=x.length:=λ{x y} hy h=>by
  have := List.Nodup.length_le_of_subset (hy.imp λh=>Kl h) (l₂:=x.map f) λo ho=>by
   obtain ⟨o',h1,h2⟩:=h o ho;exact R8.2 ⟨o',h1,h2⟩
  simpa using this
 have e1:=few (x:=a) hb.lt λo ho=>⟨f o,(ha.mem _).2<|h2 o<|(hb.mem o).1 ho,hgg o<|(hb.mem o).1 ho⟩;have e2:=few (x:=b) ha.lt λo ho=>⟨f o,(hb.mem _).2<|h1 o<|(ha.mem o).1 ho,hff o<|(ha.mem o).1 ho⟩;omega
theorem RunM.row (hp:PW p) {j:Nat} {l:LL} (h:RunM p j l):∀ r∈l,r.length<=1048576:=λr hr=>by
 have h1:=(Cy hp<|(h.mem r).1 hr).1;have h2:=hp.pv.vs.1;omega
end
theorem Dw {b:LI} (hb:Bts b):MN (ek b) λv=>Sm v.1:=by
 unfold ek;refine MN.bind (P:=λv:List (List MI)×Int×Int=>Sm v.1) ?_ λv hv => .pure hv;unfold nJ;exact (GK hb).bind λr h=>(Bl h.mk'<|by omega).bind λv ⟨a1,a2⟩=>(zP a1.mk' (by omega) a2).bind λu ⟨b1,b2⟩=>(qN b1.mk' (by omega) _<|by simp).bind λx ⟨c1,_⟩=>(qN c1.mk' (by omega) _<|by simp).bind λy _ => .pure b2
theorem LN {b:LI} (hb:Bts b):dE b=some true:=by
 refine MN.eq ?_;unfold dE;refine .bifD (λ_ => .pure rfl) λ_=>(Dw hb).bind λv hp=>?_;obtain ⟨p,i,k⟩:=v;simp only at hp ⊢;have hsz:=hp.sz;have hi:gW p i k=some (ofP (fE (toP p) i k).1,(fE (toP p) i k).2):=kQ<|decide_eq_true hsz;have hs:gX p i k=some (ofP (fE (toP p) i k).1,(fE (toP p) i k).2):=kQ<|decide_eq_true hsz;refine (MN.of (P:=(· = (ofP (fE (toP p) i k).1,(fE (toP p) i k).2))) hi rfl).bind λv4 e4=>(MN.of (P:=(· = (ofP (fE (toP p) i k).1,(fE (toP p) i k).2))) hs rfl).bind λv5 e5=>?_;subst e4 e5;have hq:(ofP (fE (toP p) i k).1).length<=9/\∀ r∈ofP (fE (toP p) i k).1,r.length<=9:=by
  unfold fE
  split
  ·refine ⟨by simp only [ofP,llm,mh,toP];exact hp.1,λr hr=>?_⟩;obtain ⟨r',h1,rfl⟩:=R8.1 hr;obtain ⟨t,ht,rfl⟩:=R8.1 h1;rw [llm,gdq];rcases Sf (bM t i.toNat k.toNat) (toP p).length with g | g
   ·rw [geq g,SA];have hm:=R5 g;unfold toP at hm;obtain ⟨r0,h2,h3⟩:=R8.1 hm;have : ((toP p)[bM t i.toNat k.toNat]).length=r0.length:=by
     have h3':r0.map gq=(toP p)[bM t i.toNat k.toNat]:=h3;rw [<- h3',llm]
    rw [this];exact (hp.2 r0 h2).1
   rw [gen g];exact R6 _
  exact ⟨R6 _,λr hr=>by cases hr⟩
 have hsame:=GH (ofP (fE (toP p) i k).1) (by omega) λr hr=>by have := hq.2 r hr;omega
 refine MN.bind (P:=(· = false)) (.bif (λh=>by simp at h) λ_=>hsame.bind λv hv => .pure<|by rw [hv];rfl) λs5 h5=>?_;subst h5;refine MN.bind (P:=(· = !(fE (toP p) i k).2)) (.bif (λh=>by cases h) λ_ => .pure rfl) λs8 h8=>?_;subst h8;refine .bif (λ_=>?_) λhok=>?_
 ·exact MN.bind (P:=(· = true)) (.bif (λ_=>hsame.bind λv hv => .pure hv) λh=>by simp at h) λs hs => .pure hs
 have hc:(Ce (toP p) i&&Ce (toP p) k)=true:=by
  unfold fE at hok
  split at hok
  ·assumption
  cases hok
 have hR:fE (toP p) i k=(ig (toP p) i.toNat k.toNat,true):=by unfold fE;rw [if_pos hc]
 simp only [hR];simp only [Ce,MM,bae,dte] at hc;obtain ⟨⟨hvb,hi0,hi1⟩,_,hk0,hk1⟩:=hc;have hpl:(toP p).length=p.length:=by simp [toP]
 rw [hpl] at hi1 hk1;obtain ⟨i,rfl⟩:=RZ hi0;obtain ⟨k,rfl⟩:=RZ hk0;simp only [tnn];have hwp:=PW.of hvb;have h3:=hwp.pv.vs.1;have hin:i<p.length:=by omega
 have hkn:k<p.length:=by omega
 have hvq:dh (toP<|ofP<|ig (toP p) i k)=true:=by
  rw [JG,Du (Dv (by omega) (by omega)<|by omega)];exact hvb
 have hwq:=PW.of hvq;have hlq:(ofP<|ig (toP p) i k).length=p.length:=by simp [ofP,mh,toP]
 have hvalp:aA p=some true:=by
  have : aA p=some (dh<|p.map λr=>r.map gq):=kQ<|decide_eq_true hsz;rw [this];exact congrArg some hvb
 have hszq:(ofP<|ig (toP p) i k).length<=1048576/\total (ofP<|ig (toP p) i k)<=1048576:=by
  have := hq;rw [hR] at this;simp only [tnn] at this;have ht:=uT this.2;refine ⟨by omega,?_⟩;have h9:(ofP<|ig (toP p) i k).length*9<=81:=by have := this.1;omega
  omega
 have hvalq:aA (ofP<|ig (toP p) i k)=some true:=by
  have : aA (ofP<|ig (toP p) i k)=some (dh<|(ofP<|ig (toP p) i k).map λr=>r.map gq):=kQ<|decide_eq_true hszq;rw [this];exact congrArg some hvq
 have hpr:prg (ofP<|ig (toP p) i k)=λt=>prg p (sN i k t):=by
  funext t
  have e:ofP (ig (toP p) i k)=(R9 p.length).map λt=>p.getD (bM t i k) []:=by
   unfold ofP ig;rw [Ss,hpl];refine Se λu hu=>?_;have hu:=R4.1 hu;have hlt:=mi hu hin hkn;simp only [Function.comp,toP];rw [gdq,Sd,geq hlt,gdq,geq hlt];simp only [Option.map_some,SA,Ss]
   conv=>rhs;rw [<- SC p[bM u i k]]
   exact Se λx _=>rfl
  unfold prg sN;rw [e];rcases Sf t p.length with g | g
  ·rw [gdq,Sd,SG g]
   rfl
  have : bM t i k=t:=by unfold bM;rw [if_neg (by omega),if_neg (by omega)]
  rw [this,gdq,gen (by simpa using g),gdq,gen g]
 generalize ofP (ig (toP p) i k)=q at hvq hwq hlq hszq hvalq hpr ⊢;have hprb:prg p=λt=>prg q (sN i k t):=by
  rw [hpr]
  funext t
  simp only [FK]
 have fw:∀ j o,MO p j o->MO q j (tF p.length i k 0 0 o):=λj o h=>KY hwp hwq hin hkn hlq hpr h;have bw:∀ j o,MO q j o->MO p j (tF p.length i k 0 0 o):=λj o h=>by
  have := KY hwq hwp (by omega) (by omega) hlq.symm hprb h
  rwa [hlq] at this
 refine MN.sum (PS:=λ_=>True) (PW:=(· = true)) ?_ λ_ _ => .pure rfl;refine MN.loop (λz=>0<=z/\z<=4) (λz=>(4-z).toNat) ⟨RV _,by decide⟩ λz ⟨h1,h2⟩ => ?_;unfold je;refine .bifD (λhlt=>?_) λ_ => .pure trivial;have hlt4:z<4:=by simpa using hlt
 refine MN.sum (PS:=λ_=>True) ?_ λ_ _ => .gdI (by omega)<|.pure ⟨⟨by omega,by omega⟩,by omega⟩;obtain ⟨j,rfl⟩:=RZ h1;have hj:j<4:=by omega
 refine MN.mono (P:=(· = .inl ())) (.gdD ⟨h1,hlt⟩ ?_) λz hz=>by subst hz;trivial
 simp only [tnn,Hf hj];refine (FL hwp hvb hvalp hj).bind λa ha=>(FL hwq hvq hvalq hj).bind λb' hb' => ?_;have hlen:=Hg ha hb' (fw j) (bw j) (λo ho=>Cw (by omega) hin hkn (by decide) (by decide) (Cy hwp ho).1) λo ho=>Cw (by omega) hin hkn (by decide) (by decide) (by rw [(Cy hwq ho).1,hlq]);refine MN.sum (PS:=λ_=>True) (PW:=(· = .inl ())) ((Mo (f:=tF p.length i k 0 0) (T:=λo=>eM p o i k (0:Int) (0:Int)) (g:=jd (p,(i:Int),(k:Int)) a b') ha.len hb'.len (hb'.row hwq) (λo ho=>?_) (λo ho=>(hb'.mem _).2<|fw j o<|(ha.mem o).1 ho) λz=>rfl).mono λz hz=>by subst hz;trivial) λ_ _ => .bif (λh=>?_) λ_ => .pure rfl
 ·have hbd:=Cy hwp<|(ha.mem o).1 ho;exact Fq hvalp h3 hbd.1 hbd.2 hin hkn (x:=0) (y:=0) (by decide) (by decide)
 rw [hlen] at h;simp at h
theorem MR:TyF Tryz.prog 3 false 1:=⟨by kernel_rfl,by kernel_rfl,by kernel_rfl,by kernel_rfl⟩
theorem zs3:TyZ Tryz.prog 3 [I (0:Int)]:=⟨by kernel_rfl,by kernel_rfl⟩
theorem ty4:TyF Tryz.prog 4 false 1:=⟨by kernel_rfl,by kernel_rfl,by kernel_rfl,by kernel_rfl⟩
theorem bt4:nu Tryz.prog 4=true:=by kernel_rfl
theorem MS:TyF Tryz.prog 5 false 1:=⟨by kernel_rfl,by kernel_rfl,by kernel_rfl,by kernel_rfl⟩
theorem zs5:TyZ Tryz.prog 5 [Y (0:Int)]:=⟨by kernel_rfl,by kernel_rfl⟩
theorem ty9:TyF Tryz.prog 9 false 1:=⟨by kernel_rfl,by kernel_rfl,by kernel_rfl,by kernel_rfl⟩
theorem zs9:TyZ Tryz.prog 9 [St (⟨#[]⟩:ByteArray)]:=⟨by kernel_rfl,by kernel_rfl⟩
theorem yT:TyF Tryz.prog 22 false 1:=⟨by kernel_rfl,by kernel_rfl,by kernel_rfl,by kernel_rfl⟩
theorem Mq:TyZ Tryz.prog 22 [.nil]:=⟨by kernel_rfl,by kernel_rfl⟩
theorem FM:TyF Tryz.prog 24 false 1:=⟨by kernel_rfl,by kernel_rfl,by kernel_rfl,by kernel_rfl⟩
theorem DJ:TyF Tryz.prog 41 false 1:=⟨by kernel_rfl,by kernel_rfl,by kernel_rfl,by kernel_rfl⟩
theorem Mr:TyZ Tryz.prog 41 [.nil]:=⟨by kernel_rfl,by kernel_rfl⟩
theorem zV:TyF Tryz.prog 66 false 1:=⟨by kernel_rfl,by kernel_rfl,by kernel_rfl,by kernel_rfl⟩
theorem Mt:TyZ Tryz.prog 66 [.nil]:=⟨by kernel_rfl,by kernel_rfl⟩
theorem lS:TyF Tryz.prog 69 true 4:=⟨by kernel_rfl,by kernel_rfl,by kernel_rfl,by kernel_rfl⟩
theorem ul:TyZ Tryz.prog 69 [I (0:Int),I (0:Int),I (0:Int),I (0:Int)]:=⟨by kernel_rfl,by kernel_rfl⟩
theorem jY:TyS Tryz.prog 69 [(0,1),(1,1),(2,1),(3,1)]:=⟨by kernel_rfl⟩
theorem Mv:TyE Tryz.prog 69:=⟨by kernel_rfl,by kernel_rfl,by kernel_rfl⟩
theorem JH:TyF Tryz.prog 91 false 1:=⟨by kernel_rfl,by kernel_rfl,by kernel_rfl,by kernel_rfl⟩
theorem Mw:TyZ Tryz.prog 91 [.v .nilIface]:=⟨by kernel_rfl,by kernel_rfl⟩
theorem Mx:TyZ Tryz.prog 99 [.nil,I (0:Int)]:=⟨by kernel_rfl,by kernel_rfl⟩
theorem DK:TyS Tryz.prog 99 [(0,1),(1,1)]:=⟨by kernel_rfl⟩
theorem uz:TyF Tryz.prog 115 true 3:=⟨by kernel_rfl,by kernel_rfl,by kernel_rfl,by kernel_rfl⟩
theorem LO:TyZ Tryz.prog 115 [Y (0:Int),Y (0:Int),Y (0:Int)]:=⟨by kernel_rfl,by kernel_rfl⟩
theorem LP:TyF Tryz.prog 116 true 9:=⟨by kernel_rfl,by kernel_rfl,by kernel_rfl,by kernel_rfl⟩
theorem K3:TyF Tryz.prog 118 true 16:=⟨by kernel_rfl,by kernel_rfl,by kernel_rfl,by kernel_rfl⟩
theorem Hh:TyZ Tryz.prog 118 [.nil,Y (0:Int),Y (0:Int),Y (0:Int),Y (0:Int),Y (0:Int),Y (0:Int),Y (0:Int),Y (0:Int),Y (0:Int),Y (0:Int),Y (0:Int),Y (0:Int),Y (0:Int),Y (0:Int),Y (0:Int)]:=⟨by kernel_rfl,by kernel_rfl⟩
theorem jS:TyS Tryz.prog 118 [(0,1),(1,3),(4,9),(13,3)]:=⟨by kernel_rfl⟩
theorem K4:TyF Tryz.prog 120 true 16:=⟨by kernel_rfl,by kernel_rfl,by kernel_rfl,by kernel_rfl⟩
theorem K5:TyZ Tryz.prog 120 [.nil,Y (0:Int),Y (0:Int),Y (0:Int),Y (0:Int),Y (0:Int),Y (0:Int),Y (0:Int),Y (0:Int),Y (0:Int),Y (0:Int),Y (0:Int),Y (0:Int),Y (0:Int),Y (0:Int),Y (0:Int)]:=⟨by kernel_rfl,by kernel_rfl⟩
theorem FN:TyS Tryz.prog 120 [(0,16)]:=⟨by kernel_rfl⟩
theorem bq:TyF Tryz.prog 127 false 1:=⟨by kernel_rfl,by kernel_rfl,by kernel_rfl,by kernel_rfl⟩
theorem JI:TyF Tryz.prog 128 true 3:=⟨by kernel_rfl,by kernel_rfl,by kernel_rfl,by kernel_rfl⟩
theorem cg:TyF Tryz.prog 129 true 3:=⟨by kernel_rfl,by kernel_rfl,by kernel_rfl,by kernel_rfl⟩
theorem JJ:TyZ Tryz.prog 129 [Y (0:Int),Y (0:Int),Y (0:Int)]:=⟨by kernel_rfl,by kernel_rfl⟩
theorem LQ:TyF Tryz.prog 130 true 9:=⟨by kernel_rfl,by kernel_rfl,by kernel_rfl,by kernel_rfl⟩
theorem K6:TyF Tryz.prog 132 true 28:=⟨by kernel_rfl,by kernel_rfl,by kernel_rfl,by kernel_rfl⟩
theorem K7:TyZ Tryz.prog 132 [.nil,Y (0:Int),Y (0:Int),Y (0:Int),Y (0:Int),Y (0:Int),Y (0:Int),Y (0:Int),Y (0:Int),Y (0:Int),Y (0:Int),Y (0:Int),Y (0:Int),Y (0:Int),Y (0:Int),Y (0:Int),.nil,.nil,.nil,Y (0:Int),Y (0:Int),Y (0:Int),Y (0:Int),Y (0:Int),Y (0:Int),Y (0:Int),Y (0:Int),Y (0:Int)]:=⟨by kernel_rfl,by kernel_rfl⟩
theorem cu:TyS Tryz.prog 132 [(0,16),(16,3),(19,9)]:=⟨by kernel_rfl⟩
theorem FO:TyF Tryz.prog 134 true 5:=⟨by kernel_rfl,by kernel_rfl,by kernel_rfl,by kernel_rfl⟩
theorem wY:TyZ Tryz.prog 134 [Y (0:Int),Bo false,Y (0:Int),Y (0:Int),Y (0:Int)]:=⟨by kernel_rfl,by kernel_rfl⟩
theorem jT:TyS Tryz.prog 134 [(0,1),(1,1),(2,3)]:=⟨by kernel_rfl⟩
theorem uA:TyF Tryz.prog 150 false 1:=⟨by kernel_rfl,by kernel_rfl,by kernel_rfl,by kernel_rfl⟩
theorem K8:TyF Tryz.prog 152 true 18:=⟨by kernel_rfl,by kernel_rfl,by kernel_rfl,by kernel_rfl⟩
theorem K9:TyZ Tryz.prog 152 [.nil,Y (0:Int),Y (0:Int),Y (0:Int),Y (0:Int),Y (0:Int),Y (0:Int),Y (0:Int),Y (0:Int),Y (0:Int),Y (0:Int),Y (0:Int),Y (0:Int),Y (0:Int),Y (0:Int),Y (0:Int),Bo false,.nil]:=⟨by kernel_rfl,by kernel_rfl⟩
theorem nM:TyS Tryz.prog 152 [(0,16),(16,1),(17,1)]:=⟨by kernel_rfl⟩
theorem oh:SlT Tryz.prog 22 5 false 1 [Y (0:Int)] 1:=⟨Tryz.underlying22,MS,zs5,rfl,rfl,by kernel_rfl⟩
theorem kD:SlT Tryz.prog 24 66 false 1 [.nil] 24:=⟨Tryz.underlying24,zV,Mt,rfl,rfl,by kernel_rfl⟩
theorem wK:SlT Tryz.prog 34 41 false 1 [.nil] 24:=⟨Tryz.underlying34,DJ,Mr,rfl,rfl,by kernel_rfl⟩
theorem Bm:SlT Tryz.prog 40 9 false 1 [St (⟨#[]⟩:ByteArray)] 16:=⟨Tryz.underlying40,ty9,zs9,rfl,rfl,by kernel_rfl⟩
theorem j3:SlT Tryz.prog 41 3 false 1 [I (0:Int)] 8:=⟨Tryz.underlying41,MR,zs3,rfl,rfl,by kernel_rfl⟩
theorem sD:SlT Tryz.prog 66 69 true 4 [I (0:Int),I (0:Int),I (0:Int),I (0:Int)] 32:=⟨Tryz.underlying66,lS,ul,rfl,rfl,by kernel_rfl⟩
theorem yL:KeyA Tryz.prog 9 1 sM:=Kg Tryz.underlying9
theorem mI:SlT Tryz.prog 110 91 false 1 [.v .nilIface] 16:=⟨Tryz.underlying110,JH,Mw,rfl,rfl,by kernel_rfl⟩
theorem fD:SlT Tryz.prog 127 134 true 5 [Y (0:Int),Bo false,Y (0:Int),Y (0:Int),Y (0:Int)] 5:=⟨Tryz.underlying127,FO,wY,rfl,rfl,by kernel_rfl⟩
theorem qf:SlT Tryz.prog 150 22 false 1 [.nil] 24:=⟨Tryz.underlying150,yT,Mq,rfl,rfl,by kernel_rfl⟩
section
variable {P:Program} {o:Oper} {ρ ρ':Operand->AV} {H:AH} {K K':AV->AH->Prop}
theorem OpG.congr {R:AV->AH->Prop} (h:OpG P o ρ H R) (he:∀ x∈o.op.operands,ρ x=ρ' x):OpG P o ρ' H R:=
 λc a K Q hH hr hxs hK=>h c a K Q hH hr (λx hx=>by rw [he x hx];exact hxs x hx) hK
theorem OpG.mono {R R':AV->AH->Prop} (h:OpG P o ρ H R) (hR:∀ r G,R r G->R' r G):OpG P o ρ H R':=
 λc a K Q hH hr hxs hK=>h c a K Q hH hr hxs λv c' r hr1 hr2 hr3 hr4=>hK v c' r (hR _ _ hr1) hr2 hr3 hr4
theorem MB.opG {r:AV} {H':AH} (h:MB P o ρ H r H'):OpG P o ρ H λr' G=>r'=r/\G=H':=
 λc a K Q hH hr hxs hK=>h c a K Q hH hr hxs λv c' hc hr2 hr3 hr4=>hK v c' r ⟨rfl,hc⟩ hr2 hr3 hr4
abbrev Xc:=Bool×List Nat
def agr (F:List Nat) (G H:AH):Prop:=∀ b∈F,G[b]? = H[b]?
theorem agr.a0 {b:Nat} {F:List Nat} {G H:AH} (h:agr (b::F) G H) {x:Option ABlk} (hx:H[b]? = some x):G[b]? = some x:=(h b<|by simp).trans hx
theorem agr.a1 {b c:Nat} {F:List Nat} {G H:AH} (h:agr (c::b::F) G H) {x:Option ABlk} (hx:H[b]? = some x):G[b]? = some x:=(h b<|by simp).trans hx
theorem agr.a2 {a b c:Nat} {F:List Nat} {G H:AH} (h:agr (a::c::b::F) G H) {x:Option ABlk} (hx:H[b]? = some x):G[b]? = some x:=(h b<|by simp).trans hx
def qU (W:List Nat) (H H':AH):Prop:=∀ b,b<H.length->b∉W->H'[b]? = H[b]?
theorem lD {b:Nat} {X:Option ABlk}:qU [b] H (H.set b X):=λc _ hc=>List.getElem?_set_ne λe=>hc (by simp [e])
theorem Hk {L:AH}:qU [] H (H++L):=λ_ hb _=>gal hb
def wm (P:Program) (o:Oper) (ρ:Operand->AV) (H:AH) (b:Xc) (K:AV->AH->Prop):Prop:=match b.1 with
 | false=>∃ r,(∀ c∈b.2,c<H.length)/\(∀ G,agr b.2 G H->MB P o ρ G r G)/\K r H
 | true=>OpG P o ρ H λr H'=>qU b.2 H H'/\K r H'
theorem wm.mono {b:Xc} (h:wm P o ρ H b K) (hK:∀ r G,K r G->K' r G):wm P o ρ H b K':=by
 obtain ⟨b,F⟩:=b
 cases b with
 | false=>
  obtain ⟨r,h0,h1,h2⟩:=h;exact ⟨r,h0,h1,hK _ _ h2⟩
 | true=>
  show OpG P o ρ H λr H'=>qU F H H'/\K' r H';exact OpG.mono (R:=λr H'=>qU F H H'/\K r H') h λr G hr=>⟨hr.1,hK _ _ hr.2⟩
theorem wm.congr {b:Xc} (h:wm P o ρ H b K) (he:∀ x∈o.op.operands,ρ x=ρ' x):wm P o ρ' H b K:=by
 obtain ⟨b,F⟩:=b
 cases b with
 | false=>
  obtain ⟨r,h0,h1,h2⟩:=h;exact ⟨r,h0,λG hG=>(h1 G hG).congr he,h2⟩
 | true=>
  show OpG P o ρ' H λr H'=>qU F H H'/\K r H';exact OpG.congr (R:=λr H'=>qU F H H'/\K r H') h he
theorem wm.opG {b:Xc} (h:wm P o ρ H b K):OpG P o ρ H K:=by
 obtain ⟨b,F⟩:=b
 cases b with
 | false=>
  obtain ⟨r,_,h1,h2⟩:=h;refine (MB.opG<|h1 H λ_ _=>rfl).mono ?_;rintro r' G ⟨rfl,rfl⟩;exact h2
 | true=>exact OpG.mono (R:=λr H'=>qU F H H'/\K r H') h λr G hr=>hr.2
def Hl (a b:Xc):Bool := !b.1||a.2.all λx => !b.2.contains x
def Hm (P:Program) (ops:Array Oper) (cls:Nat->Xc) (Q:Env->AH->Prop):Nat->Array Bool->Env->AH->Prop
 | 0,listed,e,H=>Region.ready .any ops listed=[]/\Q e H
 | fuel+1,listed,e,H=>(Region.ready .any ops listed=[]->Q e H) /\
  ∀ i∈Region.ready .any ops listed,∃ o,ops[i]? = some o/\wm P o (rho e) H (cls i) λr H'=>Hm P ops cls Q fuel (listed.setIfInBounds i true) (m8 e o.dst r) H'
theorem Dx {ops:Array Oper} {cls:Nat->Xc} {Q:Env->AH->Prop} {i:Nat} {oi:Oper} {r:AV} {F:List Nat} (hi:ops[i]? = some oi) (hci:cls i=(false,F)) :
  ∀ (fuel:Nat) (listed:Array Bool) (e:Env) (H:AH),
   (∀ (j:Nat) (oj:Oper),ops[j]? = some oj->j≠i->listed.getD j true=false->(∀ ed∈oj.after,Region.binds .any ed=true->ed.on≠i)->oi.apart ops oj=true/\Hl (cls i) (cls j)=true) ->
   i∈Region.ready .any ops listed->(∀ c∈F,c<H.length)->(∀ G,agr F G H->MB P oi (rho e) G r G)->Hm P ops cls Q fuel (listed.setIfInBounds i true) (m8 e oi.dst r) H->Hm P ops cls Q (fuel+1) listed e H:=by
 intro fuel
 induction fuel with
 | zero=>
  intro listed e H _ hr hF hy hA;refine ⟨λh=>(by rw [h] at hr;cases hr),λj hj=>?_⟩
  by_cases hji:j=i
  ·subst hji;exact ⟨oi,hi,by rw [hci];exact ⟨r,hF,hy,hA⟩⟩
  have := ready_mono hj hji;rw [hA.1] at this
  cases this
 | succ fuel ih=>
  intro listed e H hfree hr hF hy hA;refine ⟨λh=>(by rw [h] at hr;cases hr),λj hj=>?_⟩
  by_cases hji:j=i
  ·subst hji;exact ⟨oi,hi,by rw [hci];exact ⟨r,hF,hy,hA⟩⟩
  obtain ⟨oj,hoj,hsj⟩:=hA.2 j<|ready_mono hj hji;obtain ⟨hjun,oj',hoj',hall⟩:=mem_ready.1 hj;rw [hoj] at hoj';injection hoj' with hoj';subst hoj';have hnot:∀ ed∈oj.after,Region.binds .any ed=true->ed.on≠i:=λed he hb heq=>by
   have h1:=hall ed he hb;have h0:=(mem_ready.1 hr).1;rw [heq] at h1;rcases Sf i listed.size with h' | h'
   ·simp [h'] at h0 h1;rw [h0] at h1;cases h1
   simp [Array.getElem?_eq_none h'] at h1
  obtain ⟨hap,hcm⟩:=hfree j oj hoj hji hjun hnot;obtain ⟨h1,h2,h3⟩:=Oper.apart_spec hap;have ej:=rE (e:=e) (r:=r) h1;have hfree':∀ (k:Nat) (ok:Oper),ops[k]? = some ok->k≠i->(listed.setIfInBounds j true).getD k true=false->(∀ ed∈ok.after,Region.binds .any ed=true->ed.on≠i)->oi.apart ops ok=true/\Hl (cls i) (cls k)=true:=λk ok hk hki hun hno=>by
   refine hfree k ok hk hki ?_ hno
   by_cases hjk:j=k
   ·subst hjk;exact hjun
   rw [getD_set_ne true hjk] at hun;exact hun
  have hsj':=hsj.congr ej;have go:∀ q Hj,(∀ c∈F,c<Hj.length)->(∀ c∈F,Hj[c]? = H[c]?)->Hm P ops cls Q fuel ((listed.setIfInBounds i true).setIfInBounds j true) (m8 (m8 e oi.dst r) oj.dst q) Hj->Hm P ops cls Q (fuel+1) (listed.setIfInBounds j true) (m8 e oj.dst q) Hj:=λq Hj hF' hHj hAj=>by
   have ei:=rE (e:=e) (oi:=oj) (r:=q) h3;refine ih (listed.setIfInBounds j true) (m8 e oj.dst q) Hj hfree' (ready_mono hr<|Ne.symm hji) hF' (λG hG=>(hy G λc hc=>(hG c hc).trans<|hHj c hc).congr λx hx=>(ei x hx).symm) ?_;rw [Array.setIfInBounds_comm _ _ hji,zg (λd hd=>λhd'=>h2 d (by simpa using hd')<|by simpa using hd)];exact hAj
  refine ⟨oj,hoj,?_⟩;rw [hci] at hcm;generalize cls j=cj at hsj' hcm ⊢;obtain ⟨b,W⟩:=cj
  cases b with
  | false=>
   obtain ⟨q,q0,q1,q2⟩:=hsj';exact ⟨q,q0,q1,go q H hF (λ_ _=>rfl) q2⟩
  | true=>
   simp only [Hl,Bool.not_true,Bool.false_or,Sc,Su,SI,decide_eq_false_iff_not] at hcm;show OpG P oj (rho e) H λr1 H1=>qU W H H1/\Hm P ops cls Q (fuel+1) (listed.setIfInBounds j true) (m8 e oj.dst r1) H1;refine OpG.mono (R:=λr1 H1=>qU W H H1/\Hm P ops cls Q fuel ((listed.setIfInBounds i true).setIfInBounds j true) (m8 (m8 e oi.dst r) oj.dst r1) H1) hsj' λq Hj ⟨k1,k2⟩=>⟨k1,go q Hj (λc hc=>?_) (λc hc=>k1 c (hF c hc)<|hcm c hc) k2⟩;have := k1 c (hF c hc)<|hcm c hc;rw [geq (hF c hc)] at this;exact (ges this).1
def La (ops:Array Oper) (cls:Nat->Xc):List Nat->Array Bool->Bool
 | [],listed=>(Region.ready .any ops listed).isEmpty
 | i::l,listed=>(match ops[i]? with
  | some oi=>if (cls i).1 then Region.ready .any ops listed==[i] else (Region.ready .any ops listed).contains i&&(R9 ops.size).all λj=>j==i||listed.getD j true||(match ops[j]? with
   | some oj=>(oj.after.any λed=>Region.binds .any ed&&ed.on==i)||(oi.apart ops oj&&Hl (cls i) (cls j))
   | none=>true)
  | none=>false)&&La ops cls l (listed.setIfInBounds i true)
def TX (P:Program) (ops:Array Oper) (cls:Nat->Xc):List Nat->(Env->AH->Prop)->Env->AH->Prop
 | [],K,e,H=>K e H
 | i::l,K,e,H=>∃ o,ops[i]? = some o/\wm P o (rho e) H (cls i) λr H'=>TX P ops cls l K (m8 e o.dst r) H'
theorem Bn {ops:Array Oper} {cls:Nat->Xc} {Q:Env->AH->Prop}:∀ (l:List Nat) (listed:Array Bool) (e:Env) (H:AH),La ops cls l listed=true->TX P ops cls l Q e H->Hm P ops cls Q l.length listed e H
 | [],listed,e,H,hc,h=>⟨by simpa [La] using hc,h⟩
 | i::l,listed,e,H,hc,h=>by
  obtain ⟨oi,hi,hs⟩:=h;simp only [La,hi,bae] at hc;obtain ⟨hc1,hc2⟩:=hc;generalize hci:cls i=ci at hc1 hs;obtain ⟨b,F⟩:=ci
  cases b with
  | true=>
   simp only [if_true,beq_iff_eq] at hc1;refine ⟨λhn=>(by rw [hc1] at hn;cases hn),λj hj=>?_⟩;rw [hc1,Sj] at hj;subst hj;exact ⟨oi,hi,by rw [hci];exact wm.mono (b:=(true,F)) hs λr G hr=>Bn l _ _ _ hc2 hr⟩
  | false=>
   obtain ⟨r,hF,hy,hK⟩:=hs;simp only [Bool.false_eq_true,if_false,bae,SI,dte,Sc,R4] at hc1;refine Dx hi hci l.length listed e H (λj oj hj hne hun hno=>?_) hc1.1 hF hy<|Bn l _ _ _ hc2 hK;have hjs:j<ops.size:=(SJ.1 hj).1;have := hc1.2 j hjs;simp only [hj,hun,Sg,beq_iff_eq,hne,false_or,Bool.false_eq_true,bae] at this;rw [hci];rcases this with h1 | h1
   ·rw [Array.any_eq_true'] at h1;obtain ⟨ed,h2,h3⟩:=h1;simp only [bae,beq_iff_eq] at h3;exact absurd h3.2<|hno ed h2 h3.1
   exact h1
theorem xU {nt:Nat} {ops:Array Oper} {cls:Nat->Xc} {Q:Exit->Env->AH->Prop} (hd:Ec nt ops.toList=true) (hg:ops.all (λo=>o.guard.isNone)=true):∀ (fuel:Nat) (listed:Array Bool) (e:Env) (H:AH),Hm P ops cls (Q .normal) fuel listed e H ->
  ∀ (c c0:Cx) (a:Act),c.H=H->Ext c0 c->SRel c nt e a->wpAny P .any ops (J7 nt c0 Q) fuel listed a c.w
 | 0,listed,e,H,h,c,c0,a,hH,hx,hs=>⟨h.1,trivial,c,e,rfl,hx,hs,hH ▸ h.2⟩
 | fuel+1,listed,e,H,h,c,c0,a,hH,hx,hs=>by
  refine ⟨λhr=>⟨trivial,c,e,rfl,hx,hs,hH ▸ h.1 hr⟩,λi hi=>?_⟩;obtain ⟨o,ho,hst⟩:=h.2 i hi;have hm:o∈ops.toList:=by rw [Array.mem_toList_iff];exact Array.mem_of_getElem? ho
  have hgn:o.guard=none:=by
   rw [Array.all_eq_true] at hg;obtain ⟨hlt,rfl⟩:=SJ.1 ho;simpa using hg i hlt
  have hw:Region.wanted o (yielded ops a.tmps)=true:=by simp [Region.wanted,hgn]
  unfold wpOp;simp only [ho];rw [if_pos hw];refine .inl<|hst.opG c a _ _ hH hs.heap (λx _=>hs.rho x) λv c' r hA hr' hx' hv=>?_;exact xU hd hg fuel _ _ _ hA c' c0 _ rfl (hx.trans hx')<|hs.put o.dst (mN hd hm) hx' hr' hv
end
section
variable {P:Program} {nt b0:Nat} {Q:Exit->Env->AH->Prop} {e:Env} {H H':AH} {r:AV}
theorem T.drawX {i:Nat} {ops:Array Oper} (ord:List Nat) (cls:Nat->Xc) (hm:P.follows .mixedOrders=true) (hg:ops.all (λo=>o.guard.isNone)=true) (hc:(La ops cls ord (Array.replicate ops.size false)&&(ord.length==ops.size))=true) (h:TX P ops cls ord (Q .normal) e H):T P nt b0 (.region i ops true) Q e H:=by
 intro hok c c0 a hH hb hx hs;simp only [codeOk] at hok;simp only [bae,beq_iff_eq] at hc;refine wp_region_any hm ?_;have hlex:=Bn ord (Array.replicate ops.size false) e H hc.1 h;have := xU hok hg ord.length _ e H hlex c.drew c0 a hH (hx.trans c.drew_ext) ⟨hs.size,hs.defers,λt=>(hs.rel t).ext hs.heap c.drew_ext,Cx.drew_rel hs.heap⟩;rw [hc.2] at this;exact this
variable {d:Tmp} {op:Op} {ty:TypeId} {pos:String} {af:Array Edge} {en:List (Nat×AV)} {cls:Nat->Xc} {ops:Array Oper} {i:Nat} {K:Env->AH->Prop} {l:List Nat}
theorem TX.nil (h:K e H):TX P ops cls [] K e H:=h
theorem xN (h0:ops[i]? = some ⟨some d,op,ty,pos,af,none⟩) (hc:cls i=(false,[])) (hv:MF P (rho<|ax en) op r) (h:TX P ops cls l K (ax ((d,r)::en)) H):TX P ops cls (i::l) K (ax en) H:=
 ⟨_,h0,by rw [hc];exact ⟨r,λ_ h=>(by cases h),λG _=>hv _ rfl G,h⟩⟩
theorem xR (F:List Nat) (h0:ops[i]? = some ⟨some d,op,ty,pos,af,none⟩) (hc:cls i=(false,F)) (hb:F.all (λb=>Nat.blt b H.length)=true) (hv:∀ G,agr F G H->EvA P (rho<|ax en) op G r G) (h:TX P ops cls l K (ax ((d,r)::en)) H):TX P ops cls (i::l) K (ax en) H:=
 ⟨_,h0,by rw [hc];exact ⟨r,λb hm=>nlb<|Sc.1 hb b hm,λG hG=>hv G hG _ rfl,h⟩⟩
theorem xT {W:List Nat} {o:Oper} {R:AV->AH->Prop} {e:Env} (h0:ops[i]? = some o) (hc:cls i=(true,W)) (hv:OpG P o (rho e) H R) (hk:∀ r G,R r G->qU W H G/\TX P ops cls l K (m8 e o.dst r) G):TX P ops cls (i::l) K e H:=by
 refine ⟨o,h0,?_⟩;rw [hc];exact OpG.mono (R':=λr H'=>qU W H H'/\TX P ops cls l K (m8 e o.dst r) H') hv hk
theorem xA {W:List Nat} (h0:ops[i]? = some ⟨some d,op,ty,pos,af,none⟩) (hc:cls i=(true,W)) (hv:EvA P (rho<|ax en) op H r H') (hk:qU W H H') (h:TX P ops cls l K (ax ((d,r)::en)) H'):TX P ops cls (i::l) K (ax en) H:=
 xT h0 hc (MB.opG<|hv ⟨some d,op,ty,pos,af,none⟩ rfl) λr' G hG=>by obtain ⟨e1,e2⟩:=hG;subst e1 e2;exact ⟨hk,h⟩
theorem xV {W:List Nat} (h0:ops[i]? = some ⟨none,op,ty,pos,af,none⟩) (hc:cls i=(true,W)) (hv:EvA P (rho<|ax en) op H r H') (hk:qU W H H') (h:TX P ops cls l K (ax en) H'):TX P ops cls (i::l) K (ax en) H:=
 xT h0 hc (MB.opG<|hv ⟨none,op,ty,pos,af,none⟩ rfl) λr' G hG=>by obtain ⟨e1,e2⟩:=hG;subst e1 e2;exact ⟨hk,h⟩
theorem xG {cl:Call} {f:Operand} {g:FuncId} {kE MU:List AV} {w m:Nat} {ety:TypeId} {mk:AV->AV} {n:Nat} {rows:List (List AV)} (h0:ops[i]? = some ⟨some d,.call cl,ty,pos,af,none⟩) (hci:cls i=(true,[])) (hc:cl.callee = .value f) (hf:rho (ax en) f = .fn (.func g) kE) (ha:cl.args.toList.map (rho<|ax en)++kE=MU)
  (h:cQ P g MU H<|zx w ety mk n rows m H) (k:∀ g ver,(g=true->n=0)->TX P ops cls l K (ax ((d,mk<|hS g m ver w n)::en)) (H++[bE g ver w ety rows])):TX P ops cls (i::l) K (ax en) H:=by
 subst ha;exact xT h0 hci (nD rfl hc hf h) λr' G ⟨g',oH,hg,hr,hH⟩=>by
  subst hr hH;exact ⟨Hk,k g' oH hg⟩
theorem xGW {cl:Call} {f:Operand} {g:FuncId} {kE as0:List AV} {b w0 ver w:Nat} {g0:Bool} {ty0 ty1:TypeId} {lY rows:List (List AV)} {mk:AV->AV} {n:Nat} (h0:ops[i]? = some ⟨some d,.call cl,ty,pos,af,none⟩) (hci:cls i=(true,[b])) (hc:cl.callee = .value f) (hf:rho (ax en) f = .fn (.func g) kE)
  (h:cQ P g as0 [bE g0 ver w0 ty0 lY]<|zx w ty1 mk n rows 0 []) (hb:H[b]? = some (bE g0 ver w0 ty0 lY)) (has:RenL (λc i=>[b][i]? = some c) (cl.args.toList.map (rho<|ax en)++kE) as0) (hk0:∀ r∈lY,∀ a∈r,isF 9 a=true) (hk:∀ r∈rows,∀ a∈r,isF 9 a=true)
  (hmk:∀ (S:Nat->Nat->Prop) (a b:AV),Ren S a b->Ren S (mk a) (mk b)) (k:∀ g' oH,(g'=true->n=0)->TX P ops cls l K (ax ((d,mk<|hS g' b oH w n)::en)) (H.set b<|bE g' oH w ty1 rows)):TX P ops cls (i::l) K (ax en) H:=
 xT h0 hci (nD rfl hc hf<|h.wown hb has hk0 hk hmk) λr' G ⟨g',oH,hg,hr,hH⟩=>by
  subst hr hH;exact ⟨lD,k g' oH hg⟩
end
def EqS (a b:AV):Prop:=∀ (w:World) (fz:Nat->Prop) (v:Value),FRel w fz a v->FRel w fz b v
def Hn:List AV->List AV->Prop
 | [],[]=>True
 | a::r,b::q=>EqS a b/\Hn r q
 | _,_=>False
theorem Hn.len:∀ {r q:List AV},Hn r q->r.length=q.length
 | [],[],_=>rfl
 | a::r,b::q,h=>by rw [llc,llc,Hn.len h.2]
 | [],_::_,h=>h.elim
 | _::_,[],h=>h.elim
theorem Hn.get:∀ {r q:List AV},Hn r q->∀ {j:Nat} {b:AV},q[j]? = some b->∃ a,r[j]? = some a/\EqS a b
 | [],[],_,j,b,h=>by simp at h
 | a::r,b::q,h,0,c,hc=>by
  simp only [List.getElem?_cons_zero,sie] at hc;subst hc;exact ⟨a,rfl,h.1⟩
 | a::r,b::q,h,j+1,c,hc=>by
  simp only [Si] at hc ⊢;exact h.2.get hc
 | [],_::_,h,_,_,_=>h.elim
 | _::_,[],h,_,_,_=>h.elim
theorem EqS.sl {n:Nat} {row row':Nat->List AV} (he:∀ i,i<n->Hn (row i) (row' i)):EqS (.sl n row) (.sl n row'):=λw fz v h=>by
 cases h with
 | @sl _ cap s g o _ a us hc hm ha hs hu h1 h3=>
  refine .sl (s:=s) (g:=g) (o:=o) us hc hm ha (λi hi=>?_) (λi j b hi hj=>?_) (λi j b hi hj=>?_) λi j b hi hj=>?_
  ·rw [<- (he i hi).len];exact hs i hi
  ·obtain ⟨a',ha',_⟩:=(he i hi).get hj;exact hu i j a' hi ha'
  ·obtain ⟨a',ha',_⟩:=(he i hi).get hj;exact h1 i j a' hi ha'
  obtain ⟨a',ha',e⟩:=(he i hi).get hj;exact e _ _ _<|h3 i j a' hi ha'
theorem EqS.fp {row row':List AV} (he:Hn row row') {j:Nat}:EqS (.fp row j) (.fp row' j):=λw fz v h=>by
 cases h with
 | fp us hg hlt hu h1 h3=>
  refine .fp us hg hlt (λj b hj=>?_) (λj b hj=>?_) λj b hj=>?_
  ·obtain ⟨a',ha',_⟩:=he.get hj;exact hu j a' ha'
  ·obtain ⟨a',ha',_⟩:=he.get hj;exact h1 j a' ha'
  obtain ⟨a',ha',e⟩:=he.get hj;exact e _ _ _<|h3 j a' ha'
theorem EqS.eL {α β:Type} [Inhabited α] [Inhabited β] {f:α->List AV} {g:β->List AV} {i:α->β} (h:∀ x,Hn (f x)<|g<|i x) (l:List α):EqS (eL f l) (eL g<|l.map i):=by
 unfold Go.Proofs.YtjcmfddobaplbaaGreat.eL;rw [llm];refine .sl λk hk=>?_;have e1:l.getD k default=l[k]:=by rw [gdq,geq hk];rfl
 have e2:(l.map i).getD k default=i l[k]:=by rw [gdq,Sd,geq hk];rfl
 rw [e1,e2];exact h _
section
variable {P:Program} {ρ:Operand->AV} {x:Operand} {t e:TypeId} {ag:Bool}
end
section
variable {P:Program} {ρ:Operand->AV} {H:AH}
end
open Go.ChangeShapes Go.WideShapes Go.ChangeAt Go.RowKit




abbrev jA:=@TO.nil
abbrev jC:=@T.region
abbrev jE:=@T.block
abbrev jG:=@T.skip
abbrev jH:=@T.seq
abbrev jI:=@T.sr
abbrev jK:=@T.ret
abbrev jM:=@T.exit
abbrev jN:=@T.ifH
abbrev jO:=@T.loop
abbrev jP:=@T.drawF
abbrev jQ:=@Fin.ret
abbrev jR:=@TF.nil
theorem qC {m:Nat} {H:AH} {a:AV} (h:isF 9 a=true):Fz m H a a:=.of_isF 9 _ h
theorem qD {α:Sort _} {β:α->Sort _} {f:(x:α)->β x}:∀ x,f x=f x:=λ_=>rfl
theorem qg (p:List<|List MI) (i k:Int) {q} (h:gW p i k=some q):aW Tryz.prog 23 [eL (cL MI.c) p,I i,I k] (.tup [eL (cL MI.c) q.1,Bo q.2]):=by
 unfold gW at h;obtain ⟨⟨h1,h2⟩,h⟩:=gdD h;obtain rfl:=osl h;refine Cf (to:=66) (ti:=69) (r:=fE (toP p) i k) (by kernel_rfl) λw fz vs hl hrel=>?_;obtain ⟨u,rfl⟩:=Fh hl hrel;have hs:=kK (f:=Ins.cells) (s:=4) (e:=gq) (λ_=>rfl) (λ_=>rfl)<|hrel 0 _ u rfl rfl;exact qd i k hs (R3 _) (by rw [rM];exact h2) (by rw [llm];exact h1)
theorem Dy (t i k:Nat):GD (t:Int) (i:Int) (k:Int)=((bM t i k:Nat):Int):=by
 unfold GD bM;simp only [Int.natCast_inj]
 split
 ·rfl
 split <;> rfl
theorem zW (t i k:Nat) (w:World):Calls Tryz.prog 70 #[.int .i64 (t:Int),.int .i64 (i:Int),.int .i64 (k:Int)] w λe w'=>e = .returned (.int .i64 ((bM t i k:Nat):Int))/\w=w':=by
 rw [<- Dy];exact AY _ _ _ w
set_option maxHeartbeats 2000000 in
theorem qh {lo hi:Nat} {u:Value} {p:List (List Ins)} {w:World} (i k:Int) (hu:sj Ins.cells 4 w lo hi u p) (hhi:hi<=w.heap.size) (ht:total p<=1048576) (hp:p.length<=1048576) :
  Calls Tryz.prog 24 #[u,.int .i64 i,.int .i64 k] w λe w'=>(∃ v,e = .returned (.tuple #[v,.bool (fE p i k).2])/\sP Ins.cells 4 66 69 w' w.heap.size w'.heap.size v (fE p i k).1)/\Below w.heap.size w w':=by
 have HU:=Lib.hid hu;obtain ⟨xs,hxs,hxl,hxr⟩:=hu;obtain ⟨A,ca,rfl,hca,hma,hA⟩:=hxs.vals;clear hxs hma;have HX:=Lib.hid hxl;have hxle:xs.length<=1048576:=by omega
 clear hxl;have HXR:=Lib.hid hxr;clear hxr;have HAA:=Lib.hid hA;clear hA;have PV:=Lib.hid<|kF (w:=w) HU.out hhi ht;have hl1:∀ t:Int,(decide (0<=t)&&decide (t<=(xs.length:Int)-1))=MM t ((p.length:Int)-1):=λt=>by rw [HX.out];rfl
 have HL1:=Lib.hid hl1;clear hl1
 by_cases hv:dh p=true
 ·rw [hv] at PV
  by_cases h1:MM i ((p.length:Int)-1)=true
  ·by_cases h2:MM k ((p.length:Int)-1)=true
   ·have hr:fE p i k=(ig p i.toNat k.toNat,true):=by unfold fE Ce;rw [hv,h1,h2];rfl
    rw [hr];have hi:=h1;have hk:=h2;simp only [MM,bae,dte] at hi hk;obtain ⟨hi0,hi1⟩:=hi;obtain ⟨hk0,hk1⟩:=hk;have L1:=Lib.hid<|(HL1.out i).trans h1;have L2:=Lib.hid<|(HL1.out k).trans h2;clear hr hv h1 h2;obtain ⟨a,rfl⟩:=RZ hi0;obtain ⟨b,rfl⟩:=RZ hk0;simp only [tnn];have ha:a<p.length:=by omega
    have hb':b<p.length:=by omega
    obtain ⟨i0,hi0,hz0,hz1,hz2⟩:=info_parts Tryz.infoIns;obtain ⟨j0,hj0,hy0,hy1,hy2⟩:=info_parts Tryz.infoInsS;have hlen:(ig p a b).length=p.length:=mh p a b;have HLEN:=Lib.hid hlen;clear hlen
    go_enter Tryz.func24,Tryz.ntmps24
    go_wp2_with fail
    refine PV.out.mono ?_;rintro e w1 ⟨rfl,hb1⟩
    go_wp2_with fail
    refine (iU _ _ true L1.out _).mono ?_;rintro e w2 ⟨rfl,rfl⟩
    go_wp2_with fail
    refine (iU _ _ true L2.out _).mono ?_;rintro e w2 ⟨rfl,rfl⟩;have s1:=hb1.size
    go_wp2_with fail
    go_loopw [8,9] (λsv i wr=>∃ (k:Nat) (V:Nat->Value) (A:Option Addr) (c:Nat),k<=xs.length/\i = .int .i64 k/\sv = .slice A k c/\Below w1.heap.size w1 wr /\
      wr.ownsRow w1.heap.size 66 1 (.slice A k c) k ((R9 k).map V) /\
      (∀ j (h:j<(ig p a b).length),j<k->Ow Ins.cells 4 69 wr w1.heap.size wr.heap.size (V j) (ig p a b)[j]) /\
      (∀ i j (hi:i<(ig p a b).length) (hj:j<(ig p a b).length),i<k->j<k->i≠j->0<(ig p a b)[i].length->0<(ig p a b)[j].length->(V i).ownBlock≠(V j).ownBlock)) (λ_ i _=>xs.length-(intOf i).toNat)
    case atStart=>
     exact ⟨0,λ_ => .slice none 0 0,_,_,R6 _,rfl,rfl,(Below.refl _ _).alloc (R3 _) _,World.ownsRow_made w1 #[] 0 (R3 _) (by simp [maxLen]) rfl,λj _ h=>absurd h (by omega),λi j _ _ h=>absurd h<|by omega⟩
    case round=>
     obtain ⟨k,V,A',c',hk,rfl,rfl,hb,hown,hin,hdj⟩:=hrel;have HI:=Lib.hid hin;clear hin;have HD:=Lib.hid hdj;clear hdj;have HOUT:=Lib.hid hown;clear hown;have hws:=hb.size
     by_cases hlt:k<xs.length
     ·obtain ⟨ba,oa,rfl,_,_,hba,hA⟩:=HAA.out (by omega);have hkp:k<p.length:=HX.out ▸ hlt;have hmp:bM k a b<p.length:=mi hkp ha hb';have hmx:bM k a b<xs.length:=by rw [HX.out];exact hmp
      have hkq:k<(ig p a b).length:=by rw [HLEN.out];exact hkp
      have hget:=rP p a b k hkq hmp;have hbb:Below w.heap.size w wr:=hb1.trans<|hb.mono s1;have ca1:=(hbb.cell (p:=⟨ba,oa+bM k a b,none⟩) hba).trans<|hA _ hmx;obtain ⟨Ak,ck,hk1,hsrc⟩:=((HXR.out _ hmx hmp).below hbb hhi).src sZ (by omega);rw [hk1] at ca1;rw [<- hget] at ca1 hsrc;have hr:(ig p a b)[k].length<=1048576:=by rw [hget];exact Sb (uf p _ hmp) ht
      clear hA hk1 hget;have TN:=Lib.hid λW=>zW k a b W;generalize bM k a b=m at *;generalize hrow:(ig p a b)[k]=row at *;have HROW:=Lib.hid hrow;clear hrow;have i1:(0:Int)<=(m:Int):=by omega
      have i2:(m:Int)<(xs.length:Int):=by omega
      have i3:(k:Int)<(xs.length:Int):=by omega
      have NEW:Hid ((wr.alloc<|.cells #[] 69).ownsRow wr.heap.size 69 4 (.slice (some ⟨wr.heap.size,0,none⟩) 0 0) 0 []):=World.ownsRow_made wr #[] 0 (R3 _) (by simp [maxLen]) rfl;have SRC:Hid (Src (wr.alloc<|.cells #[] 69) Ak row.length<|row.flatMap Ins.cells):=hsrc.below ((Below.refl wr.heap.size wr).alloc (R3 _) _)<|R3 _;clear hsrc;have ca2:(wr.alloc<|.cells #[] 69).cell? ⟨ba,oa+m,none⟩=some (.slice Ak row.length ck):=by
       rw [World.cell?_alloc_lt _ _ _ (World.block_lt_of_cell? wr _ ca1)];exact ca1
      clear ca1;have OUT2:Hid (∀ w1':World,(wr.alloc<|.cells #[] 69).grownBy w1' (some wr.heap.size)->∀ o,(w1'.alloc o).ownsRow w1.heap.size 66 1 (.slice A' k c') k<|(R9 k).map V):=by
       intro w1' hg o;refine ((HOUT.out.alloc _).kept hg ?_).alloc o
       by_cases h:(Value.slice A' k c').ownBlock=some wr.heap.size
       ·have := (HOUT.out.lt _ h).2;omega
       exact .inr h
      go_wp2_with (first
       | (go_at_call 70;refine (TN.out _).mono ?_;rintro e w5 ⟨rfl,rfl⟩)
       | (at_builtin;refine tG _ rfl (.tmp 38) (.tmp 45) 66 rfl wr.heap.size 69 i0 _ 4 32 Tryz.underlying66 hi0 hz0 hz1 hz2 rfl (by omega) (.slice (some ⟨wr.heap.size,0,none⟩) 0 0) rfl NEW.out Ak ck row sZ rfl SRC.out (AC row) (by simp only [maxLen];omega) (by omega) (by simp) ?_;intro A1 c1 w6 hown1 hg1;have s6:=hg1.size;have HO1:=Lib.hid hown1;clear hown1;have HG1:=Lib.hid hg1;clear hg1)
       | (at_builtin;refine ma _ rfl (.tmp 37) (.tmp 47) 24 rfl w1.heap.size 66 j0 _ 1 24 Tryz.underlying24 hj0 hy0 hy1 hy2 rfl (by omega) (.slice A' k c') k ((R9 k).map V) rfl (OUT2.out w6 HG1.out _) (some ⟨w6.heap.size,0,none⟩) 1 1 [.slice A1 row.length c1] rfl rfl (Src.one (ML.new w6 _ _)) (by simp [Value.oneCell']) (by simp only [maxLen];omega) (by omega) (by simp at s6 ⊢;omega) (by omega) ?_;intro gg cap w7 hown2 hg2 hat2 hlt2))
      go_roundw
      case rel=>
       have HO2:Ow Ins.cells 4 69 w6 wr.heap.size w6.heap.size (.slice A1 row.length c1) (ig p a b)[k]:=by rw [HROW.out];exact HO1.out
       have CS:=Fe (by decide) hb.size HI.out HD.out hkq HO2 HG1.out (OUT2.out w6 HG1.out _) hg2;refine ⟨k+1,upd V k<|.slice A1 row.length c1,some ⟨gg,0,none⟩,cap,by omega,by go_num,rfl,?_,?_,CS.1,CS.2⟩
       ·have g1:=((Below.refl w1.heap.size wr).alloc hb.size<|.cells #[] 69).grown HG1.out (by simp;omega) (λq hq=>by simp [Value.ownBlock] at hq;omega);exact ((hb.trans g1).alloc (by simp at s6;omega)<|.cells #[.slice A1 row.length c1] 66).grown hg2 (by simp at s6 ⊢;omega) (λq hq=>(HOUT.out.lt q hq).1)
       rw [wW];exact hown2
      case measure=>simp [intOf];omega
     have hkx:k=xs.length:=by omega
     go_wp2_with fail
     go_ret2
     have hX:=HX.out;have hL:=HLEN.out;refine ⟨⟨_,rfl,?_⟩,hb1.trans<|hb.mono s1⟩;exact (sP.of_row HOUT.out (by omega) (λj h=>HI.out j h<|by omega) λi j hi hj=>HD.out i j hi hj (by omega)<|by omega).mono s1<|R3 _
   have hr:fE p i k=([],false):=by unfold fE Ce;simp [h2]
   rw [hr];have h2':MM k ((p.length:Int)-1)=false:=by simpa using h2
   have L1:=Lib.hid<|(HL1.out i).trans h1;have L2:=Lib.hid<|(HL1.out k).trans h2';clear h1 h2 h2' hr hv
   go_enter Tryz.func24,Tryz.ntmps24
   go_wp2_with fail
   refine PV.out.mono ?_;rintro e w1 ⟨rfl,hb1⟩
   go_wp2_with fail
   refine (iU _ _ true L1.out _).mono ?_;rintro e w2 ⟨rfl,rfl⟩
   go_wp2_with fail
   refine (iU _ _ false L2.out _).mono ?_;rintro e w2 ⟨rfl,rfl⟩
   go_wp2_with fail
   go_ret2
   exact ⟨⟨_,rfl,sP.uW _ _<|by omega⟩,hb1.alloc hb1.size _⟩
  have hr:fE p i k=([],false):=by unfold fE Ce;simp [h1]
  rw [hr];have h1':MM i ((p.length:Int)-1)=false:=by simpa using h1
  have L1:=Lib.hid<|(HL1.out i).trans h1';clear h1 h1' hr hv
  go_enter Tryz.func24,Tryz.ntmps24
  go_wp2_with fail
  refine PV.out.mono ?_;rintro e w1 ⟨rfl,hb1⟩
  go_wp2_with fail
  refine (iU _ _ false L1.out _).mono ?_;rintro e w2 ⟨rfl,rfl⟩
  go_wp2_with fail
  go_ret2
  exact ⟨⟨_,rfl,sP.uW _ _<|by omega⟩,hb1.alloc hb1.size _⟩
 have hr:fE p i k=([],false):=by unfold fE Ce;simp [hv]
 rw [hr];have hv':dh p=false:=by simpa using hv
 rw [hv'] at PV;clear hv hv' hr
 go_enter Tryz.func24,Tryz.ntmps24
 go_wp2_with fail
 refine PV.out.mono ?_;rintro e w1 ⟨rfl,hb1⟩
 go_wp2_with fail
 go_ret2
 exact ⟨⟨_,rfl,sP.uW _ _<|by omega⟩,hb1.alloc hb1.size _⟩
theorem qi (p:List<|List MI) (i k:Int) {q} (h:gX p i k=some q):aW Tryz.prog 24 [eL (cL MI.c) p,I i,I k] (.tup [eL (cL MI.c) q.1,Bo q.2]):=by
 unfold gX at h;obtain ⟨⟨h1,h2⟩,h⟩:=gdD h;obtain rfl:=osl h;refine Cf (to:=66) (ti:=69) (r:=fE (toP p) i k) (by kernel_rfl) λw fz vs hl hrel=>?_;obtain ⟨u,rfl⟩:=Fh hl hrel;have hs:=kK (f:=Ins.cells) (s:=4) (e:=gq) (λ_=>rfl) (λ_=>rfl)<|hrel 0 _ u rfl rfl;exact qh i k hs (R3 _) (by rw [rM];exact h2) (by rw [llm];exact h1)
theorem Iy {vs:Array Value} {a:AV} (hl:vs.size=[a].length):∃ u,vs = #[u]:=by
 obtain ⟨l⟩:=vs
 match l,hl with
 | [u],_=>exact ⟨u,rfl⟩
theorem dx (p:List<|List MI) {q} (h:aA p=some q):aW Tryz.prog 16 [eL (cL MI.c) p] (Bo q):=by
 unfold aA at h;obtain ⟨⟨h1,h2⟩,h⟩:=gdD h;obtain rfl:=osl h;refine ⟨by kernel_rfl,λw fz vs hlt _ hl hrel=>?_⟩;obtain ⟨u,rfl⟩:=Iy hl;have hs:=kK (f:=Ins.cells) (s:=4) (e:=gq) (λ_=>rfl) (λ_=>rfl)<|hrel 0 _ u rfl rfl;refine (kG hs (R3 _)<|by rw [rM];exact h2).mono λe w' ⟨he,hb⟩ => ?_;exact ⟨_,fz,he,hb,.v Z,λg hg=>hg,λg hg => .inl hg,λg hg=>Nat.lt_of_lt_of_le (hlt g hg) hb.size⟩
theorem kM (p:List<|List MI) {q} (h:cW p=some q):aW Tryz.prog 68 [eL (cL MI.c) p] (Bo q):=by
 unfold cW at h;obtain ⟨⟨h1,h2⟩,h⟩:=gdD h;obtain rfl:=osl h;refine ⟨by kernel_rfl,λw fz vs hlt _ hl hrel=>?_⟩;obtain ⟨u,rfl⟩:=Iy hl;have hs:=kK (f:=Ins.cells) (s:=4) (e:=gq) (λ_=>rfl) (λ_=>rfl)<|hrel 0 _ u rfl rfl;refine (kF hs (R3 _)<|by rw [rM];exact h2).mono λe w' ⟨he,hb⟩ => ?_;exact ⟨_,fz,he,hb,.v Z,λg hg=>hg,λg hg => .inl hg,λg hg=>Nat.lt_of_lt_of_le (hlt g hg) hb.size⟩
theorem Cz {p:List (List MI)} (h:Dg p=true):p.length<=1048576/\∀ i,(p.getD i []).length<=1048576:=by
 simp only [Dg,bae,dte,Sc] at h;refine ⟨h.1,λi=>?_⟩
 by_cases hi:i<p.length
 ·simpa [hi] using h.2 _ (R5 hi)
 simp [hi]
theorem xW {n m:Nat} (hn:n<=2097152) (hm:Nat.ble m 1000=true):dI n m=true:=by
 have h1:=nlb hm;have h2:n*m<=2097152*1000:=Sr hn h1;exact decide_eq_true ⟨by omega,by omega⟩
theorem FP (p:List<|List MI) {i:Nat} (h:i<p.length):p.take (i+1)=p.take i++[p.getD i []]:=by
 have e:p.getD i []=p[i]:=by rw [gdq,geq h];rfl
 rw [e];exact (List.take_append_getElem h).symm
theorem FQ (p:List<|List MI) (hp:Dg p=true):cQ Tryz.prog 75 [eL (cL MI.c) p] [] (Az 4 69 66 MI.c (λx=>x) p 0 []):=by
 obtain ⟨hp1,hp2⟩:=Cz hp;refine cQ.mkON Tryz.func75 rfl (by kernel_rfl) rfl (by kernel_rfl) (e0:=ax [(0,eL (cL MI.c) p)]) (ME rfl MC) iC MI.isF ?_;refine T.seq ?_;refine T.region ?_;refine oN (MF.asg (.nil) rfl) ?_;refine TO.nil ?_;refine T.seq ?_;refine T.region ?_;refine oA (EvA.mkR ([]:List<|List AV) kD rfl rfl rfl rfl) ?_;refine oN (MF.asg (hS false 0 0 1 0) rfl) ?_;refine TO.nil ?_;refine T.seq ?_;refine T.seq ?_;refine T.region ?_;refine oN (MF.asg (I 0) rfl) ?_;refine TO.nil ?_;refine T.block ?_;refine T.loop (S:=Nat) (G:=NG×AH×Nat) (E:=Nat) (x:=p.length) (λi=>if i<p.length then some (.inl<|i+1) else some (.inr i)) (λi g=>i<=p.length/\NK 1 (some ⟨g.2.2,1,66,cT g.1 4<|p.take i⟩::g.2.1) g.1 4 69 MI.c (p.take i))
  (λi g=>[(4,I i),(3,hS false 0 g.2.2 1 (p.take i).length),(0,eL (cL MI.c) p)]) (λi g=>some ⟨g.2.2,1,66,cT g.1 4<|p.take i⟩::g.2.1) (s0:=0) (λ_=>(false,0,0),[],0)
  (rJ (λi=>i) p.length (λi hi=>by simp [hi])<|by simp) ⟨R6 _,by exact NK.nil⟩ (CP rfl<|ME rfl<|ME rfl<|ME rfl MC) (λi g z hz hinv=>?_)
 obtain ⟨gh,K,ver⟩:=g;obtain ⟨hle,hN⟩:=hinv;simp only at hN;generalize hl:p.take i=l at hN ⊢;refine T.seq ?_;refine T.seq ?_;refine T.region ?_;refine oN (MF.mv (I i) rfl) ?_;refine oN (MF.mv (eL (cL MI.c) p) rfl) ?_;refine oN (MF.lenL kD rfl) ?_;refine oN (MF.ilt rfl rfl) ?_;refine TO.nil ?_;have hll:l.length=i:=by rw [<- hl,List.length_take];omega
 refine T.cond rfl (λq=>?_) λq=>?_
 ·have hi:i<p.length:=by have := of_decide_eq_true q;omega
  rw [if_pos hi] at hz;obtain rfl:=osl hz;have hrow:=hp2 i;have htk:=FP p hi;rw [hl] at htk;generalize hr:p.getD i []=row at hrow htk;refine T.skip ?_;refine T.seq ?_;refine T.block ?_;refine T.region ?_;refine oN (MF.mv (hS false 0 ver 1 l.length) rfl) ?_;refine oA (EvA.mkO (c:=MI.c) (b:=K.length+1) ([]:List MI) [] sD rfl rfl rfl (λ_=>rfl) rfl rfl) ?_;refine oN (MF.mv (eL (cL MI.c) p) rfl) ?_;refine oN (MF.mv (I i) rfl) ?_;refine oN (MF.ixL kD rfl rfl ⟨by omega,by omega⟩ λ_=>rfl) ?_;refine oN (MF.loadfp (eL MI.c row) zV rfl<|by subst hr;rfl) ?_;refine oA (EvA.appF (l:=([]:List MI)) row sD (by kernel_rfl) rfl rfl (ym (H:=_::K)) (bF.fz (l:=row) rfl λ_=>rfl)<|xW (by simp;omega) rfl) ?_;refine TO.clean (H0:=some ⟨ver,1,66,cT gh 4 l⟩::(K++[bE false 1 4 69 (row.map MI.c)])) (e0:=ax [(18,hS false (K.length+1) 1 4 row.length),(12,hS false 0 ver 1 l.length),(4,I i),(0,eL (cL MI.c) p)]) (Gd (H:=_::K)).symm (ME rfl<|ME rfl<|ME rfl<|ME rfl MC) ?_;refine oA (EvA.mkR (b:=(K++[bE false 1 4 69 (row.map MI.c)]).length+1) [[hS false (K.length+1) 1 4 row.length]] kD rfl rfl rfl rfl) ?_;refine oA (EvA.appR (g:=false) (rows:=cT gh 4 l) (rows':=cT gh 4 l++[[hS false (K.length+1) 1 4 row.length]]) (n':=l.length+1) kD (by kernel_rfl) rfl rfl (dD gh 4 l).symm nofun (bF.raw (rows:=[[hS false (K.length+1) 1 4 row.length]]) rfl (ym (H:=_::(K++[_]))) rfl) (xW (by simp;omega) rfl) rfl rfl) ?_;refine oN (MF.asg (hS false 0 (ver+1) 1<|l.length+1) rfl) ?_;refine TO.nil ?_;refine T.region ?_;refine oN (MF.mv (I i) rfl) ?_;refine oN (MF.add rfl rfl<|IntWalk.i64_in _ ⟨by omega,by omega⟩) ?_;refine oN (MF.asg (I (i+1:Nat)) rfl) ?_;refine TO.nil ?_;refine ⟨i+1,(gh.put l.length (false,K.length+1,1),K++[bE false 1 4 69 (row.map MI.c)]++[some ⟨0,1,66,[[hS false (K.length+1) 1 4 row.length]]⟩],ver+1),rfl,⟨hi,?_⟩,CP ?_<|ME rfl<|ME ?_<|ME rfl MC⟩
  ·rw [htk];refine hN.snoc (id:=K.length+1) (by simp) (by omega) (λb h1 h2=>?_) ?_ nofun
   ·match b,h1 with
    | b+1,_=>
     simp only [llc,Nat.add_lt_add_iff_right] at h2;simp only [Si,RY];exact gal h2
   simp only [Si];exact zz
  ·show some (ABlk.mk _ _ _<|cT _ 4<|p.take<|i+1)::_=_;rw [htk,<- xy]
   rfl
  show hS false 0 (ver+1) 1 (l.length+1)=hS false 0 (ver+1) 1 (p.take<|i+1).length;rw [htk,lla]
  rfl
 have hi : ¬ i<p.length:=by have := of_decide_eq_false q;omega
 rw [if_neg hi] at hz;obtain rfl:=osl hz;refine T.exit ?_;refine ⟨_,rfl,λhe=>?_⟩;subst he;rw [Sv] at hl;subst hl;refine T.seq ?_;refine T.region ?_;refine oN (MF.mv (hS false 0 ver 1 p.length) rfl) ?_;refine oN (MF.asg (hS false 0 ver 1 p.length) rfl) ?_;refine TO.nil ?_;refine T.ret ?_
 repeat first | refine gY ?_ | refine gZ ?_
 exact Fin.ret (vs:=[hS false 0 ver 1 p.length]) (.cons (.tmp rfl) .nil) ⟨0,ver,gh,rfl,rfl,⟨λi hi=>⟨R6 _,(hN.at_ i hi).2⟩,hN.uW,hN.sep⟩,λi hi h0=>absurd (hN.at_ i hi).1<|by omega⟩
theorem NK.row {r o:Option ABlk} {K:AH} {gh:NG} {w:Nat} {ty:TypeId} {f:MI->List AV} {l:List (List MI)} (h:NK 2 (r::o::K) gh w ty f l) {i:Nat} (hi:i<l.length):∃ g k v,gh i=(g,k+2,v)/\k<K.length/\K[k]? = some (bE g v w ty<|(l.getD i []).map f)/\(g=true->l.getD i []=[]):=by
 obtain ⟨h1,h2⟩:=h.at_ i hi;have h3:=h.uW i hi;generalize he:gh i=x at h1 h2 h3;obtain ⟨g,id,v⟩:=x;simp only at h1 h2 h3;obtain ⟨k,rfl⟩:∃ k,id=k+2:=⟨id-2,by omega⟩;simp only [Si] at h2;exact ⟨g,k,v,rfl,(ges h2).1,h2,h3⟩
theorem NK.turn {r o r' o':Option ABlk} {K:AH} {gh:NG} {w:Nat} {ty:TypeId} {f:MI->List AV} {l:List (List MI)} (h:NK 2 (r::o::K) gh w ty f l) {i:Nat} (hi:i<l.length) {g:Bool} {k v:Nat} (he:gh i=(g,k+2,v)) {g':Bool} {v':Nat} {x:List MI} (hg:g'=true->x=[]) :
  NK 2 (r'::o'::K.set k (bE g' v' w ty<|x.map f)) (gh.put i (g',k+2,v')) w ty f (l.set i x):=by
 have h1:=h.set hi (g:=g') (ver:=v') (r:=x) hg;rw [he] at h1;refine h1.low λb hb _=>?_
 match b,hb with
 | b+2,_=>simp [Si]
theorem uB (code:LI) {q} (h:iQ code=some q):eX Tryz.prog 44 [eL cY code] [] (.hp 0 0 2 0 0) [some ⟨0,2,99,[(ak.c q)]⟩]:=by
 refine aM Tryz.func44 Z (by kernel_rfl) Z<|jI<|oN as'<|jA ?_;refine T.jU h (λs1=>[(0,eL cY s1)]) (λs1=>[]) (λs1 h=>?_) λs1 h=>?_
 ·refine jI<|oN mv<|oN (MF.build [eL cY s1,I U] Tryz.underlying99 Mx DK Z Z)<|oA (EvA.bx (cs:=[eL cY s1,I U]) Z Z Z)<|oN as'<|jA<|jK ?_;obtain rfl:=MH h
  repeat (first|refine gY ?_|refine gZ ?_)
  exact ⟨ax [(2,.hp 0 0 2 0 0)],[some ⟨0,2,99,[(ak.c (⟨s1,U⟩:ak))]⟩],kw Z Z,jQ (vs:=[.hp 0 0 2 0 0]) (.cons (.tmp Z) .nil) ⟨Z,Z⟩⟩
 refine jI<|oN mv<|oN (MF.lenL oh Z)<|oN (MF.igt Z Z)<|jA ?_;refine jN Z h (λq2 h=>?_) λq2 h=>?_
 ·refine jC<|oN mv<|jD h λg3 h=>oN (MF.slL oh Z .no (.yes Z) g3 qD)<|oN as'<|jA ?_
  cases h
  exact ⟨(),trivial,kw Z Z⟩
 refine jG ?_
 cases h
 exact ⟨(),trivial,kw Z Z⟩
theorem aT (r_:ak) (n:Int) (bI:Nat) {q} (h:aP r_ n=some q):eX Tryz.prog 45 [.hp 0 bI 2 0 0,I n] [some ⟨bI,2,99,[(ak.c r_)]⟩] (I q.2) [some ⟨bI,2,99,[(ak.c q.1)]⟩]:=by
 let d0:=((r_.p+V)-V);refine aM Tryz.func45 Z (by kernel_rfl) Z<|jI<|oN as'<|jA<|jI<|oN mv<|oN mv<|oN (nl Z)<|oN (fa DK Z)<|oA (lh (I r_.p) MR Z Z Z)<|jW h λg1 h=>oN (MF.add Z Z g1)<|oN (nl Z)<|oN (fa DK Z)<|oV (sr [eL cY r_.b,I (r_.p+V)] MR Z Z Z Z)<|jA ?_;refine jH<|jI<|oN mv<|oN (MF.ilt Z Z)<|oN mv ?_;refine TO.jB h 7 (λs2=>[(24,Bo s2),(0,.hp 0 bI 2 0 0),(1,I n)]) (λs2=>[some ⟨bI,2,99,[[eL cY r_.b,I (r_.p+V)]]⟩]) (λs2 q3 h js2=>?_) (λs2 q3 h js2=>?_) λs2 h=>?_
 ·refine gS Z q3<|gS Z q3<|gS Z q3<|gS Z q3<|gS Z q3<|gS Z q3<|oN (MF.pickT Z q3 (Bo true) Z) ?_
  cases h
  exact js2 _ _<|kw Z Z
 ·refine gN Z q3 mv<|gN Z q3 (nl Z)<|gN Z q3 (fa DK Z)<|gA Z q3 (lh (eL cY r_.b) yT Z Z Z)<|gN Z q3 (MF.lenL oh Z)<|gN Z q3 (MF.ieq Z Z)<|oN (MF.pickF Z q3 (Bo<|(r_.b.length:Int)==U) Z) ?_
  cases h
  exact js2 _ _<|kw Z Z
 refine jA ?_;refine jN Z h (λq4 h=>?_) λq4 h=>?_
 ·refine jI<|oN as'<|jA<|jK ?_;obtain rfl:=MH h
  repeat (first|refine gY ?_|refine gZ ?_)
  exact ⟨ax [(4,I U)],[some ⟨bI,2,99,[(ak.c (⟨r_.b,(r_.p+V)⟩:ak))]⟩],kw Z Z,jQ (vs:=[I U]) (.cons (.tmp Z) .nil) ⟨Z,Z⟩⟩
 refine jG<|jI<|oN mv<|oN (nl Z)<|oN (fa DK Z)<|oA (lh (I<|r_.p+V) MR Z Z Z)<|jW h λg5 h=>oN (MF.sub Z Z g5)<|oN as'<|jA<|jH<|jI<|oN mv<|oN mv<|oN (nl Z)<|oN (fa DK Z) ?_;refine oA (lh (eL cY r_.b) yT Z Z Z)<|oN (MF.lenL oh Z)<|oN (MF.ilt Z Z)<|jA ?_;refine jN Z h (λq6 h=>?_) λq6 h=>?_
 ·refine jI<|oN mv<|oN (nl Z)<|oN (fa DK Z)<|oA (lh (eL cY r_.b) yT Z Z Z)<|oN mv<|jD h λg7 h=>oN (MF.ixL oh Z Z g7 qD)<|oN (lf (Y<|J r_.b d0) MS Z)<|jW h λg8 h=>oN (MF.iconv MS.und Tryz.underlying3 Z g8)<|oN mv<|jD h λg9 h=>oN (MF.rem Z Z g9)<|oN as'<|jA ?_;refine jK ?_;obtain rfl:=MH h
  repeat (first|refine gY ?_|refine gZ ?_)
  exact ⟨ax [(4,I<|(J r_.b d0).tmod n)],[some ⟨bI,2,99,[(ak.c (⟨r_.b,(r_.p+V)⟩:ak))]⟩],kw Z Z,jQ (vs:=[I ((J r_.b d0).tmod n)]) (.cons (.tmp Z) .nil) ⟨Z,Z⟩⟩
 refine jG<|jH<|jP (dG [dF,dF,dF,([0],false),dF,dF,dF,dF,([0],false),dF,dF,dF,dF,dF,dF,dF,dF,dF,([0],false),dF,dF,dF,dF,dF,dF,([0],false),dF,dF,dF,dF,dF,dF,dF,dF,dF,dF,dF,dF,dF,dF,([0],false),dF,dF,dF,dF,dF]) (by kernel_rfl) (by kernel_rfl)<|fN Z mv<|fN Z (nl Z)<|fN Z (fa DK Z)<|fR [0] Z (λG hG=>EvA.loadhp (eL cY r_.b) yT Z (hG.a0 Z) Z Z Z Z)<|fN Z mv<|fN Z mv<|fN Z (nl Z)<|fN Z (fa DK Z)<|fR [0] Z (λG hG=>EvA.loadhp (eL cY r_.b) yT Z (hG.a0 Z) Z Z Z Z)<|fN Z (MF.lenL oh Z)<|jD h λg10 h=>fN Z (MF.rem Z Z g10)<|jD h λg11 h=>?_;refine fN Z (MF.ixL oh Z Z g11 qD)<|fN Z (lf (Y<|J r_.b<|d0.tmod (r_.b.length:Int)) MS Z)<|jW h λg12 h=>fN Z (MF.iconv MS.und Tryz.underlying3 Z g12)<|jW h λg13 h=>fN Z (MF.mul Z Z g13)<|fN Z mv<|fN Z (nl Z)<|fN Z (fa DK Z)<|fR [0] Z (λG hG=>EvA.loadhp (eL cY r_.b) yT Z (hG.a0 Z) Z Z Z Z)<|fN Z mv<|jW h λg14 h=>fN Z (MF.mul Z Z g14)<|jW h λg15 h=>fN Z (MF.add Z Z g15)<|fN Z mv ?_;refine fN Z (nl Z)<|fN Z (fa DK Z)<|fR [0] Z (λG hG=>EvA.loadhp (eL cY r_.b) yT Z (hG.a0 Z) Z Z Z Z)<|fN Z (MF.lenL oh Z)<|fN Z (MF.rem Z Z g10)<|jD h λg16 h=>fN Z (MF.ixL oh Z Z g16 qD)<|fN Z (lf (Y<|J r_.b<|((d0*(7:Int))+(3:Int)).tmod (r_.b.length:Int)) MS Z)<|jW h λg17 h=>fN Z (MF.iconv MS.und Tryz.underlying3 Z g17)<|jW h λg18 h=>fN Z (MF.mul Z Z g18)<|jW h λg19 h=>fN Z (MF.add Z Z g19)<|fN Z mv<|jW h λg20 h=>?_;refine fN Z (MF.mul Z Z g20)<|jW h λg21 h=>fN Z (MF.add Z Z g21)<|fN Z mv<|fN Z mv<|fN Z (nl Z)<|fN Z (fa DK Z)<|fR [0] Z (λG hG=>EvA.loadhp (eL cY r_.b) yT Z (hG.a0 Z) Z Z Z Z)<|fN Z (MF.lenL oh Z)<|jW h λg22 h=>fN Z (MF.quo Z Z g10 g22)<|jW h λg23 h=>fN Z (MF.mul Z Z g23)<|jW h λg24 h=>fN Z (MF.add Z Z g24)<|fN Z as' ?_;refine jR<|jH<|T.clean (H0:=[some ⟨bI,2,99,[[eL cY r_.b,I (r_.p+V)]]⟩]) (e0:=ax [(6,I<|((((J r_.b<|d0.tmod (r_.b.length:Int))*(131:Int))+((J r_.b<|((d0*(7:Int))+(3:Int)).tmod (r_.b.length:Int))*(1117:Int)))+(d0*(29:Int)))+((d0.tdiv (r_.b.length:Int))*(53:Int))),(1,I n)]) Z (ME Z<|ME Z MC)<|jC<|oN mv<|oN mv<|jD h λg25 h=>jW h λg26 h=>oN (MF.quo Z Z g25 g26)<|jB h λw27 ew27 h=>?_;replace ew27:=osi ew27;refine oN (MF.res (MF.bxor Z Z) (r':=I w27) λ_ _ hr=>by rw [<- ew27];exact hr)<|oN as'<|jA<|jI<|oN mv<|oN mv<|jD h λg28 h=>oN (MF.rem Z Z g28)<|oN as'<|jA<|jK ?_;obtain rfl:=MH h
 repeat (first|refine gY ?_|refine gZ ?_)
 exact ⟨ax [(4,I<|w27.tmod n)],[some ⟨bI,2,99,[(ak.c (⟨r_.b,(r_.p+V)⟩:ak))]⟩],kw Z Z,jQ (vs:=[I (w27.tmod n)]) (.cons (.tmp Z) .nil) ⟨Z,Z⟩⟩
theorem cG (r_:ak) (list:LI) (bI:Nat) {q} (h:bG r_ list=some q):eX Tryz.prog 46 [.hp 0 bI 2 0 0,eL cI list] [some ⟨bI,2,99,[(ak.c r_)]⟩] (I q.2) [some ⟨bI,2,99,[(ak.c q.1)]⟩]:=by
 refine aM Tryz.func46 Z (by kernel_rfl) Z<|jI<|oN as'<|jA<|jI<|oN mv<|oN mv<|oN mv<|oN (MF.lenL j3 Z)<|jB h λv1 cv1 h=>oA (EvA.call Z Z Z<|(aT (⟨r_.b,r_.p⟩:ak) (list.length:Int) bI cv1).one 0 Z (.cons (.hp Z)<|.cons (.pF Z) .nil) (aF Z) (aF Z) Z)<|jD h λg2 h=>oN (MF.ixL j3 Z Z g2 qD)<|oN (lf (I<|J list v1.2) MR Z)<|oN as'<|jA ?_;refine jK ?_;obtain rfl:=MH h
 repeat (first|refine gY ?_|refine gZ ?_)
 exact ⟨ax [(4,I<|J list v1.2)],[some ⟨bI,2,99,[(ak.c (⟨v1.1.b,v1.1.p⟩:ak))]⟩],kw Z Z,jQ (vs:=[I (J list v1.2)]) (.cons (.tmp Z) .nil) ⟨Z,Z⟩⟩
end
end Go.Proofs.YtjcmfddobaplbaaGreat
