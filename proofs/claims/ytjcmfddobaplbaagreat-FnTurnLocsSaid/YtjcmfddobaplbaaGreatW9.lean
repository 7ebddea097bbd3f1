/- Texts joined. No conditions. -/
import Derived.Test.YtjcmfddobaplbaaGreatProg
import Derived.Lib.Bytealg
import Derived.Laws.Externs
import Derived.Deep.RegionWith
import Derived.Test.YtjcmfddobaplbaaGreatW8
namespace Go.Proofs.YtjcmfddobaplbaaGreat
noncomputable section
open _root_.Int renaming le_refl -> Sz, eq_ofNat_of_zero_le -> SB
open _root_.List renaming append_assoc -> SA, mem_range -> SC, map_map -> SD, map_congr_left -> SE, mem_map -> SI, getElem?_map -> SK, mem_append -> SL, getElem_mem -> SN, range -> SR, length_nil -> SS, mem_singleton -> SV, flatMap_cons -> SX, mem_flatMap -> SY, map_append -> SZ, cons_append -> S9, append_inj -> Ta, flatMap_append -> Tc, mem_cons -> Td, map_id -> Tf, all_eq_true -> Ti, set_set -> Tj, take_succ_eq_append_getElem -> Tm, mem_cons_of_mem -> Tn, contains_eq_mem -> Tp, getElem?_set_self -> Tt
open _root_.Nat renaming le_refl -> SF, zero_le -> SG, le_trans -> SJ, lt_or_ge -> S5, mul_le_mul -> Te
open _root_.Bool renaming or_eq_true -> SU, not_eq_true' -> S0
open _root_.List.cons renaming injEq -> SW
open _root_.Option renaming bind -> Tg
open _root_.Array renaming getElem?_eq_some_iff -> Tq
set_option maxHeartbeats 4000000
open Go.RowKit
set_option maxRecDepth 100000
section
variable {p:List (List Nf)} {s:au}
theorem IW.lb (h:IW p s):LB s.lists:=⟨h.ln,h.wv⟩
theorem IW.ob (h:IW p s):OB s.lists s.own:=h.ow
theorem Lj (v o:ah) {j:Int} (hj:0<=j/\j<=2):ah.get (joP v o) j=max (ah.get v j) (ah.get o j):=by
 have : j=0\/j=1\/j=2:=by omega
 rcases this with rfl | rfl | rfl <;> rfl
def Ad (s:au) (t:Nat) (x:Nf) (k:Nat):Prop:=
 (x.Op=4/\k=0)\/(x.Op=1/\ah.get (aa.get s.own t) x.Loc<=k/\k<(ae.get s.lists x.Loc).length) \/
 (x.Op=5/\ah.get (aa.get s.own t) x.Loc<=k/\k<(ae.get s.lists x.Loc).length/\((ae.get s.lists x.Loc).getD k default).taken=false) \/
 ((x.Op=2\/x.Op=3)/\ah.get (aa.get s.own t) x.Loc<k/\k<=(ae.get s.lists x.Loc).length/\((ae.get s.lists x.Loc).getD (k-1) default).taken=false)
theorem JM (h:IW p s) {t:Nat} (ht:t<3) {x:Nf} (hx:InR x):0<=sF s.values t x/\sF s.values t x<=3:=by
 obtain ⟨x1,x2,x3,x4,x5,x6⟩:=hx;unfold sF
 split
 ·obtain ⟨g,hg⟩:=SB x3;rw [hg];exact h.iv.rv t g ht (by omega)
 exact ⟨x5,x6⟩
theorem IQ (h:IW p s) {t k:Nat} (ht:t<3) {x:Nf} (hx:InR x) (hk:Nl x=true->k<(ae.get s.lists x.Loc).length):OB s.lists (xg s t k x):=λu hu j hj=>by
 unfold xg
 split
 ·rename_i hr;rw [qb _ _ (by omega) (by omega)]
  split
  ·rw [Lj _ _ hj];have h1:=h.ow t ht j hj;have h2:=(h.wv x.Loc ⟨hx.1,hx.2.1⟩ _<|vk (k:=(k:Int)) (by omega) (by have := hk hr;omega)).2 j hj;omega
  exact h.ow u hu j hj
 exact h.ow u hu j hj
theorem Ad.rd {t k:Nat} {x:Nf} (h:Ad s t x k) (hr:Nl x=true):k<(ae.get s.lists x.Loc).length:=by
 have : x.Op=1\/x.Op=5:=by simpa [Nl] using hr
 rcases h with ⟨h,_⟩ | ⟨h,_,h2⟩ | ⟨h,_,h2,_⟩ | ⟨h,_⟩
 ·omega
 ·exact h2
 ·exact h2
 omega
theorem Ht (h:IW p s) {t k:Nat} (ht:t<3) (hc:qf s.values t=true) {x:Nf} (hx:InR x) (hk:Ad s t x k):IW p (afW s t k x):=by
 have hX:=hx;obtain ⟨x1,x2,x3,x4,x5,x6⟩:=hX;have hO:=IQ h ht hx hk.rd;have hv:=JM h ht hx;have hq:LB (DX s t k x<|xg s t k x).1/\OB (DX s t k x<|xg s t k x).1 (DX s t k x<|xg s t k x).2:=by
  unfold DX
  split
  ·rename_i hop;have hkk:(k:Int)<=((ae.get s.lists x.Loc).length:Int):=by
    rcases hk with ⟨h,_⟩ | ⟨h,_⟩ | ⟨h,_⟩ | ⟨_,_,h2,_⟩ <;> omega
   rw [yR _ _ _ _ _ _ (by omega)];exact ⟨IP h.lb hO ht ⟨x1,x2⟩ ⟨by omega,hkk⟩ hv,FX hO ht ⟨x1,x2⟩ ⟨by omega,hkk⟩ _⟩
  split
  ·rename_i hop;have hkk:(k:Int)+1<=((ae.get s.lists x.Loc).length:Int):=by
    have := hk.rd (by simp [Nl,hop]);omega
   rw [yR _ _ _ _ _ _ (by omega)];have h1:=IP (v:=x.Val) h.lb hO ht ⟨x1,x2⟩ (k:=(k:Int)+1) ⟨by omega,hkk⟩ ⟨x5,x6⟩;refine ⟨Lh h1 ⟨x1,x2⟩ ⟨by omega,?_⟩,Li (FX hO ht ⟨x1,x2⟩ ⟨by omega,hkk⟩ _) ⟨x1,x2⟩⟩;rw [rT ⟨x1,x2⟩ _ ⟨x1,x2⟩];omega
  exact ⟨h.lb,hO⟩
 refine ⟨⟨h.iv.up,λu hu=>?_,λu g hu hg=>?_,h.iv.mv⟩,h.m0,hq.1.1,hq.1.2,hq.2⟩
 ·show 0<=Z3b.get (Z3b.set s.values.pc t<|Z3b.get s.values.pc t+1) u/\Z3b.get (Z3b.set s.values.pc t<|Z3b.get s.values.pc t+1) u<=_;rw [lm _ _ _ _ (by omega) (by omega)];have h1:=h.iv.pc u hu
  split
  ·rename_i e;obtain rfl:u=t:=by omega
   unfold qf at hc;rw [h.iv.up] at hc;have := of_decide_eq_true hc;omega
  exact h1
 show 0<=Z3b.get (Z33.get (BA s t k x) u) g/\Z3b.get (Z33.get (BA s t k x) u) g<=3;unfold BA
 split
 ·rename_i hr;rw [rP _ _ _ _ (by omega) (by omega)]
  split
  ·rw [lm _ _ _ _ ⟨x3,x4⟩ (by omega)]
   split
   ·exact (h.wv x.Loc ⟨x1,x2⟩ _<|vk (k:=(k:Int)) (by omega) (by have := hk.rd hr;omega)).1
   exact h.iv.rv t g ht hg
  exact h.iv.rv u g hu hg
 exact h.iv.rv u g hu hg
theorem JN {w:ai} {l:Int} (hl:0<=l/\l<=2) (hw:VB 254 w.view) (k:Nat):wz (mvW l k w)=mvM l k (wz w):=by
 unfold wz mvW mvM;simp only [CL hl hw k]
theorem Ll {l:Int} {k:Nat} (hk:1<=k):mvV l k (λ_=>0)=λ_=>0:=by
 unfold mvV;rw [if_neg (by simp only [];omega)];exact KU _ _
theorem uu (L:ae) {l:Int} (hl:0<=l/\l<=2):liF L l=(ae.get L l).map wz:=if_pos hl
theorem JO {L:ae} {l:Int} {k:Nat} (hl:0<=l/\l<=2) (hk:1<=k) (hb:∀ j,0<=j/\j<=2->∀ w∈ae.get L j,VB 254 w.view) (w:ai) :
  liF (FW L l k w)=ud (λl'=>(liF L l').map<|mvM l k) l (((liF L l).map<|mvM l k).take k++wz w::((liF L l).map<|mvM l k).drop k):=by
 have key:∀ j,0<=j/\j<=2->((ae.get L j).map<|mvW l k).map wz=(liF L j).map (mvM l k):=λj hj=>by
  rw [uu L hj,SD,SD];exact SE λw hw=>JN hl (hb j hj w hw) k
 funext j
 rw [pz]
 by_cases hj:0<=j/\j<=2
 ·rw [uu _ hj,yS hl w hj]
  by_cases e:j=l
  ·subst e;rw [if_pos rfl,if_pos rfl,SZ,SZ,List.map_take,List.map_drop,key j hj,tnn,SA]
   rfl
  rw [if_neg e,if_neg e,key j hj]
 have : j≠l:=λe=>hj (by rw [e];exact hl);rw [if_neg this];unfold liF;rw [if_neg hj,if_neg hj];simp [mvM,Ll hk]
theorem uw (O:aa) {t:Nat} (ht:t<3):owF O t=vwF (aa.get O t):=if_pos ht
theorem JP {O:aa} {t:Nat} {l:Int} {k:Nat} (ht:t<3) (hl:0<=l/\l<=2) (hk:1<=k) (hb:∀ u:Nat,u<3->VB 254 (aa.get O u)) :
  owF (IM O t l k)=ud (λu=>mvV l k<|owF O u) t (ud (owF O t) l k):=by
 funext u
 unfold IM;rw [FU _ ht,pz,pz]
 by_cases e:u=t
 ·rw [if_pos e,if_pos e,Bz _ hl,CL hl (hb t ht),uw O ht];unfold mvV;rw [zT,tnn]
 rw [if_neg e,if_neg e]
 by_cases hu:u<3
 ·rw [uw _ hu,uw _ hu,yQ O (λv=>mvP v l k),CL hl (hb u hu)]
 unfold owF;rw [if_neg hu,if_neg hu,Ll hk]
theorem FY {v:ah} {l:Int} {k:Nat} (hl:0<=l/\l<=2) (hv:VB 254 v):vwF (ah.set (mvP v l k) l k)=ud (vwF v) l k:=by
 rw [Bz _ hl,CL hl hv];unfold mvV;rw [zT,tnn]
theorem IR {L:ae} {O:aa} {t:Nat} {l:Int} {k:Nat} {v:Int} (ht:t<3) (hl:0<=l/\l<=2) (hk:1<=k) (hb:∀ j,0<=j/\j<=2->∀ w∈ae.get L j,VB 254 w.view) (hO:∀ u:Nat,u<3->VB 254 (aa.get O u)) (pc:Nat->Nat) (rg:Nat->Int->Int) :
  (⟨pc,rg,liF (FV L O t l k v).1,owF (FV L O t l k v).2⟩:RS)=DV ⟨pc,rg,liF L,owF O⟩ t l k v:=by
 rw [yR _ _ _ _ _ _ (by omega)];unfold DV;refine RS.ext rfl rfl ?_ ?_
 ·simp only;rw [JO hl hk hb]
  congr 3
  unfold wz;simp only;rw [FY hl (hO t ht),uw O ht]
 exact JP ht hl hk hO
theorem JQ {L:ae} {l:Int} {k:Nat} (hl:0<=l/\l<=2) (hk:k<(ae.get L l).length):liF (Hr L l k)=ud (liF L) l ((liF L l).modify k lkM):=by
 unfold Hr;rw [JJ _ hl,uu L hl]
 congr 1
 rw [tnn,gdq,geq hk,Option.getD_some];refine List.ext_getElem? λi=>?_;rw [SK,List.getElem?_modify,List.getElem?_set,SK]
 by_cases e:k=i
 ·subst e;rw [if_pos rfl,if_pos hk];simp [hk,wz,lkM]
 rw [if_neg e];simp only [if_neg e]
 cases (ae.get L l)[i]? <;> rfl
end
section
variable {p:List (List Nf)} {s:au}
theorem CO (h:IW p s) {t:Nat} (ht:t<3) (R:Z33) (q:ae×aa):AW (JK s t R q)=⟨ud (AW s).pc t<|(AW s).pc t+1,rgF R,liF q.1,owF q.2⟩:=by
 have h1:=h.iv.pc t ht;refine RS.ext ?_ rfl rfl rfl;show pcF (Z3b.set s.values.pc t _)=ud (pcF s.values.pc) t (pcF s.values.pc t+1);rw [Bj _ ht]
 congr 1
 have : pcF s.values.pc t=(Z3b.get s.values.pc t).toNat:=if_pos ht;rw [this];omega
theorem IU {t k:Nat} {x:Nf} (ht:t<3) (hx:InR x) (hr:Nl x=true):rgF (BA s t k x)=ud (rgF s.values.reg) t (ud (rgF s.values.reg t) x.Reg (IL s x k).value):=by
 unfold BA;rw [if_pos hr];exact Bl _ ht ⟨hx.2.2.1,hx.2.2.2.1⟩ _
theorem IV (h:IW p s) (hs:SmL s) {t k:Nat} {x:Nf} (ht:t<3) (hx:InR x) (hr:Nl x=true) (hk:k<(ae.get s.lists x.Loc).length):owF (xg s t k x)=ud (owF s.own) t (joV (owF s.own t)<|vwF (IL s x k).view):=by
 unfold xg;rw [if_pos hr,FU _ ht,Lf (h.vbo hs ht) (h.vbw hs ⟨hx.1,hx.2.1⟩<|vk (k:=(k:Int)) (by omega)<|by omega),uw _ ht]
theorem Lm {x:Nf} (hx:InR x) {k:Nat}:(AW s).li x.Loc=(ae.get s.lists x.Loc).map wz:=uu _ ⟨hx.1,hx.2.1⟩
theorem CP {x:Nf} (hx:InR x) {k:Nat} (hk:k<(ae.get s.lists x.Loc).length):((AW s).li x.Loc)[k]? = some (wz<|(ae.get s.lists x.Loc).getD k default):=by
 rw [Lm (k:=k) hx,SK,geq hk,gdq,geq hk]
 rfl
theorem Hu {x:Nf} (hx:InR x) {t:Nat} (ht:t<3):(AW s).ow t x.Loc=(ah.get (aa.get s.own t) x.Loc).toNat:=by
 show owF s.own t x.Loc=_;rw [uw _ ht];exact if_pos ⟨hx.1,hx.2.1⟩
theorem IX (h:IW p s) {t:Nat} (ht:t<3) {x:Nf} (o:x.Op=4) (k:Nat):AW (afW s t k x)=pcR (AW s) t:=by
 have hr : ¬ Nl x=true:=by simp [Nl,o]
 have e:afW s t k x=JK s t s.values.reg (s.lists,s.own):=by
  unfold afW DX BA xg;rw [if_neg hr,if_neg hr,if_neg (by omega),if_neg (by omega)]
 rw [e,CO h ht]
 rfl
theorem Lp (h:IW p s) (hs:SmL s) {t k:Nat} (ht:t<3) {x:Nf} (hx:InR x) (o:x.Op=1) (hk:k<(ae.get s.lists x.Loc).length):AW (afW s t k x)=rdR (AW s) t x (wz<|(ae.get s.lists x.Loc).getD k default):=by
 have hr:Nl x=true:=by simp [Nl,o]
 have e:afW s t k x=JK s t (BA s t k x) (s.lists,xg s t k x):=by
  unfold afW DX;rw [if_neg (by omega),if_neg (by omega)]
 rw [e,CO h ht,IU ht hx hr,IV h hs ht hx hr hk]
 rfl
theorem LY (h:IW p s) (hs:SmL s):∀ j,0<=j/\j<=2->∀ w∈ae.get s.lists j,VB 254 w.view:=λ_ hj _ hw=>h.vbw hs hj hw
theorem MK (hs:SmL s) {O:aa} (h:OB s.lists O):∀ u:Nat,u<3->VB 254 (aa.get O u):=λu hu j hj=>by
 have h1:=h u hu j hj;have h2:=hs j hj;omega
theorem Mi {t:Nat} (ht:t<3) {x:Nf} (hx:InR x):sF s.values t x=La (AW s) t x:=by
 unfold sF La
 split
 ·show _=rgF s.values.reg t x.Reg;rw [zV,if_pos ⟨ht,hx.2.2.1,hx.2.2.2.1⟩]
 rfl
theorem Lr (h:IW p s) (hs:SmL s) {t k:Nat} (ht:t<3) {x:Nf} (hx:InR x) (o:x.Op=2\/x.Op=3):AW (afW s t ((k+1:Nat):Int) x)=DV (pcR (AW s) t) t x.Loc (k+1) (La (AW s) t x):=by
 have hr : ¬ Nl x=true:=by rcases o with o | o <;> simp [Nl,o]
 have e:afW s t ((k+1:Nat):Int) x=JK s t s.values.reg (FV s.lists s.own t x.Loc ((k+1:Nat):Int)<|sF s.values t x):=by
  unfold afW DX BA xg;rw [if_neg hr,if_neg hr,if_pos o]
 rw [e,CO h ht,IR ht ⟨hx.1,hx.2.1⟩ (by omega) (LY h hs) (MK hs h.ob),Mi ht hx]
 rfl
theorem Ls (h:IW p s) (hs:SmL s) {t k:Nat} (ht:t<3) {x:Nf} (hx:InR x) (o:x.Op=5) (hk:k<(ae.get s.lists x.Loc).length) :
  AW (afW s t k x)=lkR (DV (rdR (AW s) t x<|wz<|(ae.get s.lists x.Loc).getD k default) t x.Loc (k+1) x.Val) x.Loc k:=by
 have hr:Nl x=true:=by simp [Nl,o]
 have e:afW s t k x=JK s t (BA s t k x) (Hr (FV s.lists (xg s t k x) t x.Loc ((k+1:Nat):Int) x.Val).1 x.Loc k,(FV s.lists (xg s t k x) t x.Loc ((k+1:Nat):Int) x.Val).2):=by
  unfold afW DX;rw [if_neg (by omega),if_pos o]
  rfl
 have hO:=IQ h ht hx (k:=k) λ_=>hk;have hins:=IR (L:=s.lists) (O:=xg s t k x) (t:=t) (l:=x.Loc) (k:=k+1) (v:=x.Val) ht ⟨hx.1,hx.2.1⟩ (by omega) (LY h hs) (MK hs hO) (ud (AW s).pc t<|(AW s).pc t+1)<|rgF<|BA s t k x;have hlen:k<(ae.get (FV s.lists (xg s t k x) t x.Loc ((k+1:Nat):Int) x.Val).1 x.Loc).length:=by
  rw [yR _ _ _ _ _ _ (by omega)];show k<(ae.get (FW _ _ _ _) _).length;rw [rT ⟨hx.1,hx.2.1⟩ _ ⟨hx.1,hx.2.1⟩];omega
 rw [e,CO h ht];simp only;rw [JQ ⟨hx.1,hx.2.1⟩ hlen];have e2:(⟨ud (AW s).pc t<|(AW s).pc t+1,rgF<|BA s t k x,liF s.lists,owF<|xg s t k x⟩:RS)=rdR (AW s) t x (wz<|(ae.get s.lists x.Loc).getD k default):=by
  rw [IU ht hx hr,IV h hs ht hx hr hk]
  rfl
 rw [e2] at hins;rw [<- hins]
 rfl
theorem JR (h:IW p s) (hs:SmL s) {t k:Nat} (ht:t<3) (hc:qf s.values t=true) (hx:InR<|jl s.values t) (hk:Ad s t (jl s.values t) k):StR (prg p) (AW s) (AW<|afW s t k<|jl s.values t):=by
 have hp:=(kg h.iv.up ht (h.iv.pc t ht).1).1 hc;have how:=Hu (s:=s) hx ht;have h0:=(h.ow t ht _ ⟨hx.1,hx.2.1⟩).1;rcases hk with ⟨o,rfl⟩ | ⟨o,k1,k2⟩ | ⟨o,k1,k2,k3⟩ | ⟨o,k1,k2,k3⟩
 ·rw [IX h ht o];exact .fen hp o
 ·rw [Lp h hs ht hx o k2];exact .ld (k:=k) hp o (by rw [how];omega) (CP hx k2)
 ·rw [Ls h hs ht hx o k2];exact .sw (k:=k) hp o (by rw [how];omega) (CP hx k2) k3
 obtain ⟨j,rfl⟩:∃ j,k=j+1:=⟨k-1,by omega⟩;rw [Lr h hs ht hx o];exact .st (k:=j) hp o (by rw [how];omega) (CP hx<|by omega) k3
theorem JS (h:IW p s) (hs:SmL s) (hp:∀ (t k:Nat) (x:Nf),(prg p t)[k]? = some x->InR x) (h3:p.length<=3) {b:RS} (hb:StR (prg p) (AW s) b):∃ t k:Nat,t<p.length/\qf s.values t=true/\Ad s t (jl s.values t) k/\AW (afW s t k<|jl s.values t)=b:=by
 have get:∀ {t:Nat} {x:Nf},(prg p t)[(AW s).pc t]? = some x->t<p.length/\qf s.values t=true/\x=jl s.values t/\InR x/\t<3:=λ{t x} hx=>by
  have ht:=zX hx;obtain ⟨e1,e2⟩:=(kg h.iv.up (by omega:t<3) (h.iv.pc t<|by omega).1).2 x hx;exact ⟨ht,e1,e2,hp _ _ _ hx,by omega⟩
 have len:∀ {x:Nf} {k:Nat} {m:Ms},InR x->((AW s).li x.Loc)[k]? = some m->k<(ae.get s.lists x.Loc).length/\m=wz ((ae.get s.lists x.Loc).getD k default):=λ{x k m} hx hm=>by
  have h1:=(ges hm).1;rw [Lm (k:=k) hx,llm] at h1;refine ⟨h1,?_⟩;rw [CP hx h1] at hm;exact (osl hm).symm
 cases hb with
 | @fen t x h1 o=>
  obtain ⟨g1,g2,rfl,g4,g5⟩:=get h1;exact ⟨t,0,g1,g2,.inl ⟨o,rfl⟩,IX h g5 o 0⟩
 | @ld t k x m h1 o hk hm=>
  obtain ⟨g1,g2,rfl,g4,g5⟩:=get h1;obtain ⟨k2,rfl⟩:=len g4 hm;have h0:=(h.ow t g5 _ ⟨g4.1,g4.2.1⟩).1;rw [Hu g4 g5] at hk;exact ⟨t,k,g1,g2,.inr<|.inl ⟨o,by omega,k2⟩,Lp h hs g5 g4 o k2⟩
 | @st t k x m h1 o hk hm hl=>
  obtain ⟨g1,g2,rfl,g4,g5⟩:=get h1;obtain ⟨k2,rfl⟩:=len g4 hm;have h0:=(h.ow t g5 _ ⟨g4.1,g4.2.1⟩).1;rw [Hu g4 g5] at hk;exact ⟨t,k+1,g1,g2,.inr<|.inr<|.inr ⟨o,by omega,by omega,hl⟩,Lr h hs g5 g4 o⟩
 | @sw t k x m h1 o hk hm hl=>
  obtain ⟨g1,g2,rfl,g4,g5⟩:=get h1;obtain ⟨k2,rfl⟩:=len g4 hm;have h0:=(h.ow t g5 _ ⟨g4.1,g4.2.1⟩).1;rw [Hu g4 g5] at hk;exact ⟨t,k,g1,g2,.inr<|.inr<|.inl ⟨o,by omega,k2,hl⟩,Ls h hs g5 g4 o k2⟩
end
section
variable {p:List (List Nf)} {s:au}
theorem DZ (hp:PV p) (h:IW p s) (hs:SmL s) {t:Nat} (ht:t<p.length) (hx:qf s.values t=true->InR (jl s.values t)) (ho:qf s.values t=true->1<=(jl s.values t).Op/\(jl s.values t).Op<=5) :
  Nk (fQ s t) λv=>(∀ k:Int,k∈v↔∃ n:Nat,k=n/\qf s.values t=true/\Ad s t (jl s.values t) n)/\v.length<=14:=by
 have hl:=hp.vs.1;unfold fQ;refine (Bg hp h.iv ht).bind λv ⟨g1,g2⟩ => .bif (λhb => .pure ?_) λhb=>?_
 ·have : qf s.values t=false:=by rw [<- g1];simpa using hb
  refine ⟨λk=>?_,by decide⟩;rw [this];simp
 have hc:qf s.values t=true:=by rw [<- g1];simpa using hb
 have g3:=g2<|g1.trans hc;have hx:=hx hc;have ho:=ho hc;rw [<- g3] at hx ho ⊢;generalize hvx:v.1=x at hx ho ⊢;obtain ⟨x1,x2,_,_,_,_⟩:=hx;refine .bif (λh4 => .pure ?_) λh4 => .gdD ⟨x1,by omega⟩<|.gdD ⟨by omega,by omega⟩ ?_
 ·have h4:x.Op=4:=by simpa using h4
  refine ⟨λk=>?_,by simp⟩;rw [SV];refine ⟨λe=>⟨0,e,hc,.inl ⟨h4,rfl⟩⟩,λ⟨n,e,_,hk⟩ => ?_⟩;rcases hk with ⟨_,rfl⟩ | ⟨o,_⟩ | ⟨o,_⟩ | ⟨o,_⟩
  ·exact e
  ·omega
  ·omega
  omega
 have h4:x.Op≠4:=by simpa using h4
 have hln:=hs x.Loc ⟨x1,x2⟩;have hse:=h.ow t (by omega) x.Loc ⟨x1,x2⟩;have hfin:∀ n:Nat,Ad s t x n->ah.get (aa.get s.own t) x.Loc<=n/\n<=(ae.get s.lists x.Loc).length:=λn hk=>by
  rcases hk with ⟨o,_⟩ | ⟨_,k1,k2⟩ | ⟨_,k1,k2,_⟩ | ⟨_,k1,k2,_⟩ <;> omega
 refine .gdI (by omega) (Nk.bind ?_ λv hv => .pure hv);refine Nk.loop (λz=>(ah.get (aa.get s.own t) x.Loc<=z.2/\z.2<=((ae.get s.lists x.Loc).length:Int)+1)/\(∀ k:Int,k∈z.1↔∃ n:Nat,k=n/\k<z.2/\Ad s t x n)/\(z.1.length:Int)<=z.2) (λz=>(((ae.get s.lists x.Loc).length:Int)+1-z.2).toNat) ⟨⟨Sz _,by simp only [];omega⟩,λk=>⟨λhk=>by simp at hk,λ⟨n,e,hk,hp⟩=>by
  have := (hfin n hp).1;simp only at hk;omega⟩,by simpa using hse.1⟩ λz ⟨⟨h1,h2⟩,h3,h5⟩ => ?_
 obtain ⟨l,i⟩:=z;simp only at h1 h2 h3 h5;obtain ⟨n,rfl⟩:=SB (show 0<=i by omega);unfold fP;simp only [hvx];refine .bifD (λhle=>?_) λhge => .pure ⟨λk=>?_,by omega⟩
 ·refine Nk.bind (P:=λv:LI=>(∀ k:Int,k∈v↔∃ m:Nat,k=m/\k<(n:Int)+1/\Ad s t x m)/\v.length<=l.length+1) ?_ λv ⟨hv1,hv2⟩ => .gdI (by omega)<|.pure ⟨⟨⟨by omega,by omega⟩,hv1,by simp only [];omega⟩,by simp only [];omega⟩;refine Nk.bind (P:=λb:Bool=>b=true↔Ad s t x n) ?_ λb hb => .bif (λhbt => .gd (dY (by omega) rfl)<|.pure ⟨λk=>?_,by simp⟩) λhbf => .pure ⟨λk=>?_,by omega⟩
  ·refine .bif (λo => .pure ?_) λo1 => .bif (λo=>Nk.bind (P:=λb:Bool=>b=true↔Ad s t x n) ?_ λv hv => .pure hv) λo5=>Nk.bind (P:=λb:Bool=>b=true↔Ad s t x n) ?_ λv hv => .pure hv
   ·have o:x.Op=1:=by simpa using o
    rw [dte];refine ⟨λhk => .inr<|.inl ⟨o,h1,by omega⟩,λhk=>?_⟩;rcases hk with ⟨o',_⟩ | ⟨_,_,k2⟩ | ⟨o',_⟩ | ⟨o',_⟩
    ·omega
    ·omega
    ·omega
    omega
   ·have o:x.Op=5:=by simpa using o
    refine .bifD (λhk => .gdD ⟨by omega,hk⟩<|.pure ?_) λhk => .pure ?_
    ·rw [tnn,S0];refine ⟨λhk2 => .inr<|.inr<|.inl ⟨o,h1,by omega,hk2⟩,λhk=>?_⟩;rcases hk with ⟨o',_⟩ | ⟨o',_⟩ | ⟨_,_,_,k3⟩ | ⟨o',_⟩
     ·omega
     ·omega
     ·exact k3
     omega
    refine ⟨λhh=>Bool.noConfusion hh,λhk2=>?_⟩;rcases hk2 with ⟨o',_⟩ | ⟨o',_⟩ | ⟨_,_,k2,_⟩ | ⟨o',_⟩
    ·omega
    ·omega
    ·omega
    omega
   have o1:x.Op≠1:=by simpa using o1
   have o5:x.Op≠5:=by simpa using o5
   have o:x.Op=2\/x.Op=3:=by omega
   refine .bifD (λhk => .gdI (by omega)<|.gdD ⟨by omega,by omega⟩<|.pure ?_) λhk => .pure ?_
   ·rw [show ((n:Int)-1).toNat=n-1 by omega,S0];refine ⟨λhk2 => .inr<|.inr<|.inr ⟨o,hk,by omega,hk2⟩,λhk=>?_⟩;rcases hk with ⟨o',_⟩ | ⟨o',_⟩ | ⟨o',_⟩ | ⟨_,_,_,k3⟩
    ·omega
    ·omega
    ·omega
    exact k3
   refine ⟨λhh=>Bool.noConfusion hh,λhk2=>?_⟩;rcases hk2 with ⟨o',_⟩ | ⟨o',_⟩ | ⟨o',_⟩ | ⟨_,k1,_,_⟩
   ·omega
   ·omega
   ·omega
   exact absurd k1 hk
  ·rw [SL,h3,SV]
   constructor
   ·rintro (⟨m,e,hm,hk⟩ | e)
    ·exact ⟨m,e,by omega,hk⟩
    exact ⟨n,e,by omega,hb.1 hbt⟩
   rintro ⟨m,e,hm,hk⟩
   by_cases g:m=n
   ·exact .inr (by rw [e,g])
   exact .inl ⟨m,e,by omega,hk⟩
  rw [h3]
  constructor
  ·rintro ⟨m,e,hm,hk⟩;exact ⟨m,e,by omega,hk⟩
  rintro ⟨m,e,hm,hk⟩;refine ⟨m,e,?_,hk⟩;have : m≠n:=λg=>by
   rw [g] at hk;rw [hb.2 hk] at hbf
   cases hbf
  omega
 rw [h3]
 constructor
 ·rintro ⟨m,e,_,hk⟩;exact ⟨m,e,hc,hk⟩
 rintro ⟨m,e,_,hk⟩;have := (hfin m hk).2;exact ⟨m,e,by omega,hk⟩
theorem mZ (hp:PV p) (h:IW p s) (hs:SmL s) (hx:∀ t,t<p.length->qf s.values t=true->InR (jl s.values t)/\1<=(jl s.values t).Op/\(jl s.values t).Op<=5) :
  Nk (bX s) λv=>(∀ m:Int,m∈v↔∃ t k:Nat,t<p.length/\qf s.values t=true/\Ad s t (jl s.values t) k/\m=3*(k:Int)+t)/\v.length<=42:=by
 have hl:=hp.vs.1;unfold bX;refine Nk.bind (P:=λv:LI=>(∀ m:Int,m∈v↔∃ t k:Nat,t<p.length/\qf s.values t=true/\Ad s t (jl s.values t) k/\m=3*(k:Int)+t)/\v.length<=42) ?_ λv ⟨h1,h2⟩=>Nk.bind (P:=(· = Kr v)) (.gdD (by omega)<|.pure rfl) λw e => .pure ?_
 ·refine Nk.loop (λz=>(0<=z.2/\z.2<=(p.length:Int))/\(∀ m:Int,m∈z.1↔∃ t k:Nat,(t:Int)<z.2/\qf s.values t=true/\Ad s t (jl s.values t) k/\m=3*(k:Int)+t)/\(z.1.length:Int)<=14*z.2) (λz=>((p.length:Int)-z.2).toNat) ⟨⟨Sz _,by simp only [];omega⟩,λm=>⟨λhm=>by simp at hm,λ⟨t,k,hh,_⟩=>by simp only at hh;omega⟩,by simp⟩ λz ⟨⟨h1,h2⟩,h3,h4⟩ => ?_;obtain ⟨l,i⟩:=z;simp only at h1 h2 h3 h4;obtain ⟨t,rfl⟩:=SB h1;unfold ig;simp only [h.iv.up];refine .bifD (λhlt=>?_) λhge => .pure ⟨λm=>?_,by omega⟩
  ·refine Nk.bind (P:=λv:LI=>(∀ m:Int,m∈v↔∃ t' k:Nat,(t':Int)<(t:Int)+1/\qf s.values t'=true/\Ad s t' (jl s.values t') k/\m=3*(k:Int)+t')/\(v.length:Int)<=14*((t:Int)+1)) ?_ λv ⟨hv1,hv2⟩ => .gdI (by omega)<|.pure ⟨⟨⟨by omega,by omega⟩,hv1,hv2⟩,by simp only [];omega⟩;refine (DZ hp h hs (by omega) (λhc=>(hx t (by omega) hc).1) λhc=>(hx t (by omega) hc).2).bind λw ⟨hw1,hw2⟩ => ?_;have hbnd:∀ j,j<w.length->0<=w.getD j default/\w.getD j default<=13:=λj hj=>by
    have hm:w.getD j default∈w:=by
     rw [gdq,geq hj];exact SN _
    obtain ⟨n,e,hc,hk⟩:=(hw1 _).1 hm;have hxx:=(hx t (by omega) hc).1;have := hs _ ⟨hxx.1,hxx.2.1⟩;rcases hk with ⟨_,k1⟩ | ⟨_,_,k1⟩ | ⟨_,_,k1,_⟩ | ⟨_,_,k1,_⟩ <;> omega
   refine (Nk.loop (R:=λv:LI=>v=l++w.map λk=>3*k+(t:Int)) (λz=>(0<=z.2/\z.2<=(w.length:Int))/\z.1=l++(w.take z.2.toNat).map λk=>3*k+(t:Int)) (λz=>((w.length:Int)-z.2).toNat) ⟨⟨Sz _,by simp only [];omega⟩,by simp⟩ λz ⟨⟨k1,k2⟩,k3⟩ => ?_).mono λv hv=>?_
   rotate_left
   ·obtain ⟨l',i⟩:=z;simp only at k1 k2 k3;obtain ⟨j,rfl⟩:=SB k1;unfold gH;simp only [tnn] at k3 ⊢;refine .bifD (λhlt2=>?_) λhge2 => .pure ?_
    ·have hj:j<w.length:=by omega
     have hb:=hbnd j hj;have hll:l'.length<=l.length+w.length:=by rw [k3];simp;omega
     refine .gdD ⟨k1,hlt2⟩<|.gdI (by omega)<|.gdI (by omega)<|.gd (dY (by omega) rfl)<|.gdI (by omega)<|.pure ⟨⟨⟨by omega,by omega⟩,?_⟩,by omega⟩;simp only;rw [show ((j:Int)+1).toNat=j+1 by omega,k3,Tm hj,SZ,<- SA,gdq,geq hj]
     rfl
    simp only;rw [k3,show j=w.length by omega,List.take_length]
   subst hv;refine ⟨λm=>?_,by rw [lla,llm];omega⟩;rw [SL,h3,SI]
   constructor
   ·rintro (⟨t',k,q1,q2,q3,q4⟩ | ⟨k,q1,q2⟩)
    ·exact ⟨t',k,by omega,q2,q3,q4⟩
    obtain ⟨n,rfl,q3,q4⟩:=(hw1 k).1 q1;exact ⟨t,n,by omega,q3,q4,q2.symm⟩
   rintro ⟨t',k,q1,q2,q3,q4⟩
   by_cases g:t'=t
   ·subst g;exact .inr ⟨k,(hw1 _).2 ⟨k,rfl,q2,q3⟩,q4.symm⟩
   exact .inl ⟨t',k,by omega,q2,q3,q4⟩
  rw [h3]
  constructor
  ·rintro ⟨t',k,q1,q⟩;exact ⟨t',k,by omega,q⟩
  rintro ⟨t',k,q1,q⟩;exact ⟨t',k,by omega,q⟩
 subst e;exact ⟨λm=>((mS v).mem_iff).trans<|h1 m,by rw [(mS v).length_eq];exact h2⟩
end
def w0:ai:=⟨0,false,⟨0,0,0⟩⟩
def rU (p:List<|List Nf):au:=⟨v0 p,⟨[w0],[w0],[w0]⟩,⟨⟨0,0,0⟩,⟨0,0,0⟩,⟨0,0,0⟩⟩⟩
section
variable {p:List (List Nf)} {s:au}
theorem Hv (p:List<|List Nf):Nk (ji p) (· = rU p):=by
 unfold ji;refine Nk.bind (P:=(· = ([w0],[w0],[w0]))) ?_ λv hv => .pure (by rw [hv];rfl);refine Nk.loop (λz=>(z.2.2.2=0/\(z.1,z.2.1,z.2.2.1)=([],[],[]))\/(z.2.2.2=1/\(z.1,z.2.1,z.2.2.1)=([w0],[],[]))\/(z.2.2.2=2/\(z.1,z.2.1,z.2.2.1)=([w0],[w0],[]))\/(z.2.2.2=3/\(z.1,z.2.1,z.2.2.1)=([w0],[w0],[w0]))) (λz=>(3-z.2.2.2).toNat) (.inl ⟨rfl,rfl⟩) λz hz=>?_;obtain ⟨a,b,c,i⟩:=z;unfold mo;simp only [Prod.mk.injEq] at hz;rcases hz with ⟨rfl,rfl,rfl,rfl⟩ | ⟨rfl,rfl,rfl,rfl⟩ | ⟨rfl,rfl,rfl,rfl⟩ | ⟨rfl,rfl,rfl,rfl⟩
 ·exact .bifD (λ_ => .gdD (by decide)<|.gdI (by simp only [];omega)<|.pure ⟨.inr<|.inl ⟨rfl,rfl⟩,by simp only [];omega⟩) λh=>absurd (by decide) h
 ·exact .bifD (λ_ => .gdD (by decide)<|.gdI (by simp only [];omega)<|.pure ⟨.inr<|.inr<|.inl ⟨rfl,rfl⟩,by simp only [];omega⟩) λh=>absurd (by decide) h
 ·exact .bifD (λ_ => .gdD (by decide)<|.gdI (by simp only [];omega)<|.pure ⟨.inr<|.inr<|.inr ⟨rfl,rfl⟩,by simp only [];omega⟩) λh=>absurd (by decide) h
 exact .bifD (λh=>absurd h<|by decide) λ_ => .pure rfl
theorem Ae (l:List ai) (j:Int):ae.get ⟨l,l,l⟩ j=l:=by
 unfold ae.get
 split <;> (try split) <;> rfl
theorem IY (v:ah) (j:Int):aa.get ⟨v,v,v⟩ j=v:=by
 unfold aa.get
 split <;> (try split) <;> rfl
theorem F3 (z j:Int):ah.get ⟨z,z,z⟩ j=z:=by
 unfold ah.get
 split <;> (try split) <;> rfl
theorem IW.start (p:List<|List Nf):IW p (rU p):=by
 refine ⟨Iv.start p,rfl,λl _=>?_,λl _ w hw=>?_,λt _ j _=>?_⟩
 ·show 1<=(ae.get ⟨[w0],[w0],[w0]⟩ l).length;rw [Ae];decide
 ·replace hw:w∈ae.get ⟨[w0],[w0],[w0]⟩ l:=hw;rw [Ae,SV] at hw;subst hw;refine ⟨by decide,λj _=>?_⟩;show 0<=ah.get ⟨0,0,0⟩ j/\ah.get ⟨0,0,0⟩ j<((ae.get ⟨[w0],[w0],[w0]⟩ j).length:Int);rw [F3,Ae];decide
 show 0<=ah.get (aa.get ⟨⟨0,0,0⟩,⟨0,0,0⟩,⟨0,0,0⟩⟩ t) j/\ah.get (aa.get ⟨⟨0,0,0⟩,⟨0,0,0⟩,⟨0,0,0⟩⟩ t) j<((ae.get ⟨[w0],[w0],[w0]⟩ j).length:Int);rw [IY,F3,Ae];decide
theorem Lu:vwF ⟨0,0,0⟩=λ_=>0:=by
 funext l
 unfold vwF;rw [F3]
 split <;> rfl
theorem CQ (p:List<|List Nf):AW (rU p)=a0R:=by
 obtain ⟨h1,h2,_⟩:=yJ p;refine RS.ext h1 h2 ?_ ?_
 ·funext l
  show liF ⟨[w0],[w0],[w0]⟩ l=_;unfold liF;rw [Ae]
  split
  ·show [wz w0]=[_];unfold wz w0;simp only [Lu]
  rfl
 funext t
 show owF ⟨⟨0,0,0⟩,⟨0,0,0⟩,⟨0,0,0⟩⟩ t=_;unfold owF;rw [IY,Lu]
 split <;> rfl
theorem Mj (hp:PW p) (l:Int):WT (prg p) l<=12:=by
 have h:∀ t,(evs (prg p) t).countP (fwL l)<=Nn (prg p t):=λt=>by
  refine SJ List.countP_le_length ?_;unfold evs Nn;rw [<- List.countP_eq_length_filter];exact SF _
 have h0:=h 0;have h1:=h 1;have h2:=h 2;have := hp.ev;unfold WT sW;omega
theorem IZ (hp:PW p) (h:Rch (StR<|prg p) a0R<|AW s):SmL s:=λl hl=>by
 have h1:=IJ hp.pv.prg0 h l;have h2:wC (prg p) l (Np (prg p)<|AW s)<=WT (prg p) l:=Hm _ _;have h3:=Mj hp l;have h4:(AW s).li l=(ae.get s.lists l).map wz:=uu _ hl;rw [h4,llm] at h1;omega
theorem JU (hp:PW p) (h:IW p s):∀ t,t<p.length->qf s.values t=true->InR (jl s.values t)/\1<=(jl s.values t).Op/\(jl s.values t).Op<=5:=λt ht hc=>by
 have hl:=hp.pv.vs.1;have hx:=(kg h.iv.up (by omega:t<3) (h.iv.pc t<|by omega).1).1 hc;exact ⟨hp.pv.prg _ _ _ hx,hp.op _ _ _ hx⟩
def pE (L:List ai):Int:=(L.getD (L.length-1) default).value
def MV (s:au):Z3b:=⟨pE s.lists.x0,pE s.lists.x1,pE s.lists.x2⟩
def wA (s:au):Ng:=⟨s.values.p,s.values.pc,s.values.reg,MV s⟩
theorem Mk (u:Ng):dA u=(aQ u).map λl=>(u,l):=by
 unfold aQ dA;have e1:dR u=cn u:=rfl;have e2:dJ u=bZ u:=rfl;rw [e1,e2]
 cases bA (cn u) ([],0) with
 | none=>rfl
 | some v=>
  simp only [Option.bind_some]
  cases bA (bZ u) (v,0) <;> rfl
theorem F4 {L:List ai} (h:1<=L.length):∃ w∈L,pE L=w.value:=by
 refine ⟨L.getD (L.length-1) default,?_,rfl⟩;rw [gdq,geq (by omega)];exact SN _
theorem CU (h:IW p s):Iv p (wA s):=⟨h.iv.up,h.iv.pc,h.iv.rv,λl hl=>by
 have key:∀ j:Int,0<=j/\j<=2->0<=pE (ae.get s.lists j)/\pE (ae.get s.lists j)<=3:=λj hj=>by
  obtain ⟨w,h1,h2⟩:=F4<|h.ln j hj;rw [h2];exact (h.wv j hj w h1).1
 have k0:=key 0 (by decide);have k1:=key 1 (by decide);have k2:=key 2 (by decide);obtain rfl | rfl | rfl:l=0\/l=1\/l=2:=by omega
 ·exact k0
 ·exact k1
 exact k2⟩
theorem mF (hp:PV p) (h:IW p s) (hs:SmL s):Nk (bU s) (· = xc (wA s)):=by
 unfold bU;refine Nk.bind (P:=(· = (pE s.lists.x0,pE s.lists.x1,pE s.lists.x2))) ?_ λv hv=>?_
 ·have ln:∀ j:Int,0<=j/\j<=2->1<=(ae.get s.lists j).length/\(ae.get s.lists j).length<=13:=λj hj=>⟨h.ln j hj,hs j hj⟩;have l0:=ln 0 (by decide);have l1:=ln 1 (by decide);have l2:=ln 2 (by decide);have tn:∀ n:Nat,1<=n->((n:Int)-1).toNat=n-1:=λn hn=>by omega
  refine Nk.loop (λz=>(z.2.2.2=0/\(z.1,z.2.1,z.2.2.1)=(s.values.mem.x0,s.values.mem.x1,s.values.mem.x2))\/(z.2.2.2=1/\(z.1,z.2.1,z.2.2.1)=(pE s.lists.x0,s.values.mem.x1,s.values.mem.x2))\/(z.2.2.2=2/\(z.1,z.2.1,z.2.2.1)=(pE s.lists.x0,pE s.lists.x1,s.values.mem.x2))\/(z.2.2.2=3/\(z.1,z.2.1,z.2.2.1)=(pE s.lists.x0,pE s.lists.x1,pE s.lists.x2))) (λz=>(3-z.2.2.2).toNat) (.inl ⟨rfl,rfl⟩) λz hz=>?_;obtain ⟨a,b,c,i⟩:=z;unfold jk;simp only [Prod.mk.injEq] at hz;rcases hz with ⟨rfl,rfl,rfl,rfl⟩ | ⟨rfl,rfl,rfl,rfl⟩ | ⟨rfl,rfl,rfl,rfl⟩ | ⟨rfl,rfl,rfl,rfl⟩
  ·refine .bifD (λ_ => .gdD (by simp only [];omega)<|.gdI (by simp only [];omega)<|.gdD (by simp only [];omega)<|.gdI (by simp only [];omega)<|.pure ⟨.inr<|.inl ⟨rfl,?_⟩,by simp only [];omega⟩) λh=>absurd (by simp only [];omega) h;simp only [tn _ l0.1]
   rfl
  ·refine .bifD (λ_ => .gdD (by simp only [];omega)<|.gdI (by simp only [];omega)<|.gdD (by simp only [];omega)<|.gdI (by simp only [];omega)<|.pure ⟨.inr<|.inr<|.inl ⟨rfl,?_⟩,by simp only [];omega⟩) λh=>absurd (by simp only [];omega) h;simp only [tn _ l1.1]
   rfl
  ·refine .bifD (λ_ => .gdD (by simp only [];omega)<|.gdI (by simp only [];omega)<|.gdD (by simp only [];omega)<|.gdI (by simp only [];omega)<|.pure ⟨.inr<|.inr<|.inr ⟨rfl,?_⟩,by simp only [];omega⟩) λh=>absurd (by simp only [];omega) h;simp only [tn _ l2.1]
   rfl
  exact .bifD (λh=>absurd h<|by simp only [];omega) λ_ => .pure rfl
 subst hv;rw [Mk];have := yH hp<|CU h;obtain ⟨o,h1,h2⟩:=this;refine Nk.bind (P:=λz:Ng×LI=>z.2=xc (wA s)) ?_ λz hz => .pure hz;refine ⟨(wA s,o),?_,h2⟩;show (aQ<|wA s).map _=_;rw [h1]
 rfl
theorem Lv {l:Int} (hl:0<=l/\l<=2) (h:IW p s):Bw (AW s) l=pE (ae.get s.lists l):=by
 unfold Bw;have h1:(AW s).li l=(ae.get s.lists l).map wz:=uu _ hl;have h2:=h.ln l hl;rw [h1,List.getLast?_map,List.getLast?_eq_getElem?,geq (by omega)];unfold pE;rw [gdq,geq (by omega)]
 rfl
theorem JV (hp:PV p) (h:IW p s):Gs p.length (AW s)=xc (wA s):=by
 have hl:=hp.vs.1;unfold Gs xc tz Ks;have hup:(wA s).p=p:=h.iv.up;rw [hup]
 congr 1
 ·refine Jw λt ht=>SE λg hg=>?_;have ht:=SC.1 ht;have hg:=SC.1 hg;show rgF s.values.reg t g=_;rw [zV,if_pos ⟨by omega,by omega,by omega⟩]
  rfl
 refine SE λl hl=>?_;have hl:=SC.1 hl;rw [Lv ⟨by omega,by omega⟩ h];obtain rfl | rfl | rfl:l=0\/l=1\/l=2:=by omega
 ·rfl
 ·rfl
 rfl
theorem F5 (hp:PV p) (h:IW p s):(tv s.values).isEmpty=true↔DnR (prg p) (AW s):=by
 have hl:=hp.vs.1;rw [List.isEmpty_iff];refine ⟨λg t=>?_,λg=>?_⟩
 ·rcases S5 t p.length with ht | ht
  ·refine Decidable.byContradiction λk=>?_;have := ((kg h.iv.up (by omega:t<3) (h.iv.pc t<|by omega).1).2 _<|geq<|Nat.lt_of_not_le k).1;have : (t:Int)∈tv s.values:=jm.2 ⟨t,by rw [h.iv.up];exact ht,rfl,this⟩;rw [g] at this;cases this
  unfold prg;rw [gdq,gen ht];exact SG _
 refine List.eq_nil_iff_forall_not_mem.2 λm hm=>?_;obtain ⟨t,ht,rfl,hc⟩:=jm.1 hm;rw [h.iv.up] at ht;have := (ges<|(kg h.iv.up (by omega:t<3) (h.iv.pc t<|by omega).1).1 hc).1;have h2:=g t;simp only [AW] at h2;omega
theorem F6 {n m:Int} {v w:ah} (hv:VB n v) (hw:VB m w) (h:vwF v=vwF w):v=w:=by
 have key:∀ j:Int,0<=j/\j<=2->ah.get v j=ah.get w j:=λj hj=>by
  have := congrFun h j;unfold vwF at this;rw [if_pos hj,if_pos hj] at this;have h1:=hv j hj;have h2:=hw j hj;omega
 have k0:=key 0 (by decide);have k1:=key 1 (by decide);have k2:=key 2 (by decide);obtain ⟨a,b,c⟩:=v;obtain ⟨a',b',c'⟩:=w;have e0:a=a':=k0;have e1:b=b':=k1;have e2:c=c':=k2;rw [e0,e1,e2]
theorem CV:∀ {L K:List ai},(∀ w∈L,VB 254 w.view)->(∀ w∈K,VB 254 w.view)->L.map wz=K.map wz->L=K
 | [],[],_,_,_=>rfl
 | [],_::_,_,_,h=>by cases h
 | _::_,[],_,_,h=>by cases h
 | a::L,b::K,hL,hK,h=>by
  simp only [List.map_cons,SW] at h;have h2:=CV (λw hw=>hL w<|Tn _ hw) (λw hw=>hK w<|Tn _ hw) h.2;have h1:=h.1;unfold wz at h1;injection h1 with e1 e2 e3;have e4:=F6 (hL a List.mem_cons_self) (hK b List.mem_cons_self) e3;obtain ⟨av,at_,aw⟩:=a;obtain ⟨bv,bt,bw⟩:=b;simp only at e1 e2 e4;rw [e1,e2,e4,h2]
theorem Lx {s t:au} (hs:IW p s) (ht:IW p t) (ss:SmL s) (st:SmL t) (h:AW s=AW t):s=t:=by
 have h1:pcF s.values.pc=pcF t.values.pc:=congrArg RS.pc h;have h2:rgF s.values.reg=rgF t.values.reg:=congrArg RS.rg h;have h3:liF s.lists=liF t.lists:=congrArg RS.li h;have h4:owF s.own=owF t.own:=congrArg RS.ow h;have hL:∀ j:Int,0<=j/\j<=2->ae.get s.lists j=ae.get t.lists j:=λj hj=>by
  have := congrFun h3 j;rw [uu _ hj,uu _ hj] at this;exact CV (LY hs ss j hj) (LY ht st j hj) this
 have hO:∀ u:Nat,u<3->aa.get s.own u=aa.get t.own u:=λu hu=>by
  have := congrFun h4 u;rw [uw _ hu,uw _ hu] at this;exact F6 (hs.vbo ss hu) (ht.vbo st hu) this
 have hpc:∀ u:Nat,u<3->Z3b.get s.values.pc u=Z3b.get t.values.pc u:=λu hu=>by
  have := congrFun h1 u;unfold pcF at this;rw [if_pos hu,if_pos hu] at this;have a:=hs.iv.pc u hu;have b:=ht.iv.pc u hu;omega
 have hrg:∀ u g:Nat,u<3->g<3->Z3b.get (Z33.get s.values.reg u) g=Z3b.get (Z33.get t.values.reg u) g:=λu g hu hg=>by
  have := congrFun (congrFun h2 u) (g:Int);rw [zV,zV,if_pos ⟨hu,by omega,by omega⟩,if_pos ⟨hu,by omega,by omega⟩] at this;exact this
 have hup:=hs.iv.up.trans ht.iv.up.symm;have hm:=hs.m0.trans ht.m0.symm;have l0:=hL 0 (by decide);have l1:=hL 1 (by decide);have l2:=hL 2 (by decide);have o0:=hO 0 (by decide);have o1:=hO 1 (by decide);have o2:=hO 2 (by decide);have p0:=hpc 0 (by decide);have p1:=hpc 1 (by decide);have p2:=hpc 2 (by decide);have r00:=hrg 0 0 (by decide) (by decide);have r01:=hrg 0 1 (by decide) (by decide);have r02:=hrg 0 2 (by decide) (by decide);have r10:=hrg 1 0 (by decide) (by decide);have r11:=hrg 1 1 (by decide) (by decide);have r12:=hrg 1 2 (by decide) (by decide);have r20:=hrg 2 0 (by decide) (by decide);have r21:=hrg 2 1 (by decide) (by decide);have r22:=hrg 2 2 (by decide) (by decide);clear hL hO hpc hrg h1 h2 h3 h4 h hs ht ss st;obtain ⟨⟨P,⟨a0,a1,a2⟩,⟨⟨b0,b1,b2⟩,⟨c0,c1,c2⟩,⟨d0,d1,d2⟩⟩,M⟩,⟨x0,x1,x2⟩,⟨y0,y1,y2⟩⟩:=s;obtain ⟨⟨P',⟨a0',a1',a2'⟩,⟨⟨b0',b1',b2'⟩,⟨c0',c1',c2'⟩,⟨d0',d1',d2'⟩⟩,M'⟩,⟨x0',x1',x2'⟩,⟨y0',y1',y2'⟩⟩:=t;simp only [ae.get,aa.get,Z3b.get,Z33.get] at l0 l1 l2 o0 o1 o2 p0 p1 p2 r00 r01 r02 r10 r11 r12 r20 r21 r22 hup hm;simp at l0 l1 l2 o0 o1 o2 p0 p1 p2 r00 r01 r02 r10 r11 r12 r20 r21 r22;subst l0 l1 l2 o0 o1 o2 p0 p1 p2 r00 r01 r02 r10 r11 r12 r20 r21 r22 hup hm
 rfl
end
def vwL (v:ah):LI:=[v.x0,v.x1,v.x2]
def F7 (w:ai):LI:=[w.value,if w.taken=true then 1 else 0]++vwL w.view
def D5 (L:List ai):LI:=(L.length:Int)::L.flatMap F7
def Hw (s:au) (n:Nat):LI:=(SR n).flatMap λl:Nat=>D5<|ae.get s.lists l
def ownN (s:au) (n:Nat):LI:=(SR n).flatMap λt:Nat=>vwL<|aa.get s.own t
def Hy (s:au):LI:=keyL s.values++Hw s 3++ownN s 3
theorem wB (L:List ai):(L.flatMap F7).length=5*L.length:=by
 induction L with
 | nil=>rfl
 | cons a L ih=>rw [SX,lla,ih,llc];simp [F7,vwL];omega
theorem Hz {a b:ai} (h:F7 a=F7 b):a=b:=by
 obtain ⟨av,at_,⟨a0,a1,a2⟩⟩:=a;obtain ⟨bv,bt,⟨b0,b1,b2⟩⟩:=b;simp only [F7,vwL,S9,List.nil_append,SW,and_true] at h;obtain ⟨rfl,h1,rfl,rfl,rfl⟩:=h
 cases at_ <;> cases bt <;> simp_all
theorem Af:∀ {L K:List ai},L.length=K.length->L.flatMap F7=K.flatMap F7->L=K
 | [],[],_,_=>rfl
 | [],_::_,h,_=>by cases h
 | _::_,[],h,_=>by cases h
 | a::L,b::K,h,e=>by
  rw [SX,SX] at e;obtain ⟨e1,e2⟩:=Ta e rfl;rw [Hz e1,Af (by simpa using h) e2]
theorem BC {L K:List ai} {R S:LI} (h:D5 L++R=D5 K++S):L=K/\R=S:=by
 unfold D5 at h;rw [S9,S9,SW] at h;have hl:L.length=K.length:=by have := h.1;omega
 obtain ⟨e1,e2⟩:=Ta h.2 (by rw [wB,wB,hl]);exact ⟨Af hl e1,e2⟩
theorem HL {s t:au} (hp:s.values.p=t.values.p) (h:Hy s=Hy t):s=t:=by
 unfold Hy at h;rw [SA,SA] at h;obtain ⟨e1,e2⟩:=Ta h rfl;have e3:=uT hp e1;replace e2:D5 s.lists.x0++(D5 s.lists.x1++(D5 s.lists.x2++([]:LI)))++ownN s 3=D5 t.lists.x0++(D5 t.lists.x1++(D5 t.lists.x2++[]))++ownN t 3:=e2;rw [SA,SA,SA,SA,SA,SA] at e2;obtain ⟨l0,e2⟩:=BC e2;obtain ⟨l1,e2⟩:=BC e2;obtain ⟨l2,e2⟩:=BC e2;replace e2:[s.own.x0.x0,s.own.x0.x1,s.own.x0.x2,s.own.x1.x0,s.own.x1.x1,s.own.x1.x2,s.own.x2.x0,s.own.x2.x1,s.own.x2.x2]=[t.own.x0.x0,t.own.x0.x1,t.own.x0.x2,t.own.x1.x0,t.own.x1.x1,t.own.x1.x2,t.own.x2.x0,t.own.x2.x1,t.own.x2.x2]:=e2;obtain ⟨u,⟨x0,x1,x2⟩,⟨⟨a0,a1,a2⟩,⟨b0,b1,b2⟩,⟨c0,c1,c2⟩⟩⟩:=s;obtain ⟨u',⟨x0',x1',x2'⟩,⟨⟨a0',a1',a2'⟩,⟨b0',b1',b2'⟩,⟨c0',c1',c2'⟩⟩⟩:=t;simp only [SW,and_true] at e2 e3 l0 l1 l2;obtain ⟨rfl,rfl,rfl,rfl,rfl,rfl,rfl,rfl,rfl⟩:=e2;subst e3 l0 l1 l2
 rfl
section
variable {p:List (List Nf)} {s:au}
theorem F8 (s:au) (n:Nat):Hw s (n+1)=Hw s n++D5 (ae.get s.lists n):=by
 unfold Hw;rw [List.range_succ,Tc];simp
theorem F9 (s:au) (n:Nat):ownN s (n+1)=ownN s n++vwL (aa.get s.own n):=by
 unfold ownN;rw [List.range_succ,Tc];simp
theorem yU (hp:PV p) (h:IW p s) (hs:SmL s):Nk (cO s) (· = strOfNums (Hy s)):=by
 unfold cO;refine (Cv s.values).bind λv hv=>?_;subst hv;have hk:(keyL s.values).length=15:=rfl;have hsz:(strOfNums<|keyL s.values).size=15:=by
  have := congrArg List.length<|strOfNums_data<|keyL s.values;simpa [hk] using this
 refine .gdD (by rw [hsz];decide) ?_;rw [xY (uk hp h.iv)];refine Nk.bind (P:=λv=>v=keyL s.values++Hw s 3/\v.length<=215) ?_ λv ⟨hv,hvl⟩ => ?_
 ·refine Nk.loop (λz=>(0<=z.2/\z.2<=3)/\z.1=keyL s.values++Hw s z.2.toNat/\(z.1.length:Int)<=15+66*z.2) (λz=>(3-z.2).toNat) ⟨⟨Sz _,by simp only [];omega⟩,by simp [Hw],by simp only [hk];omega⟩ λz ⟨⟨h1,h2⟩,h3,h4⟩ => ?_;obtain ⟨l,i⟩:=z;simp only at h1 h2 h3 h4;obtain ⟨n,rfl⟩:=SB h1;simp only [tnn] at h3;unfold i9;refine .bifD (λhlt=>?_) λhge => .pure ⟨by rw [h3,show n=3 by omega],by omega⟩;have hln:=hs n ⟨by omega,by omega⟩;refine Nk.bind (P:=λv=>v=l++D5 (ae.get s.lists n)/\v.length<=l.length+66) (.gdD ⟨by omega,by omega⟩<|.gdY (by simp only [];omega)<|.gd (dY (by simp only [];omega) rfl) ?_) λv ⟨hv1,hv2⟩ => .gdI (by omega) (.pure ⟨⟨⟨by omega,by omega⟩,?_,by simp only [];omega⟩,by simp only [];omega⟩)
  ·refine Nk.loop (λz=>(0<=z.2/\z.2<=((ae.get s.lists n).length:Int))/\z.1=l++[((ae.get s.lists n).length:Int)]++((ae.get s.lists n).take z.2.toNat).flatMap F7) (λz=>(((ae.get s.lists n).length:Int)-z.2).toNat) ⟨⟨Sz _,by simp only [];omega⟩,by simp⟩ λz ⟨⟨k1,k2⟩,k3⟩ => ?_;obtain ⟨l',j⟩:=z;simp only at k1 k2 k3;obtain ⟨j,rfl⟩:=SB k1;simp only [tnn] at k3;unfold iH;simp only [tnn];have hll:l'.length<=l.length+66:=by
    rw [k3,lla,lla,wB,List.length_take];simp only [llc,SS];omega
   refine .bifD (λhlt2=>?_) λhge2 => .pure ⟨?_,hll⟩
   ·have hj:j<(ae.get s.lists n).length:=by omega
    refine .gdD ⟨k1,hlt2⟩ (Nk.bind (P:=(· = if ((ae.get s.lists n).getD j default).taken=true then (1:Int) else 0)) (.bif (λg => .pure<|by rw [if_pos g]) λg => .pure<|by rw [if_neg (by rw [g];decide)]) λb hb => .gd (dY (by simp only [llc,SS];omega) rfl)<|.gd (dY (by simp only [lla,llc,SS];omega) rfl)<|.gdI (by omega)<|.pure ⟨⟨⟨by omega,by omega⟩,?_⟩,by omega⟩);subst hb;simp only;rw [show ((j:Int)+1).toNat=j+1 by omega,k3,Tm hj,Tc,gdq,geq hj];simp only [Option.getD_some,SX,List.flatMap_nil,List.append_nil,F7,vwL,SA]
   rw [k3,show j=(ae.get s.lists n).length by omega,List.take_length,SA]
   rfl
  simp only;rw [show ((n:Int)+1).toNat=n+1 by omega,hv1,h3,F8,SA]
 subst hv;refine Nk.bind (P:=(· = Hy s)) ?_ λv hv => .pure (by rw [hv]);refine Nk.loop (λz=>(0<=z.2/\z.2<=3)/\z.1=keyL s.values++Hw s 3++ownN s z.2.toNat/\(z.1.length:Int)<=215+3*z.2) (λz=>(3-z.2).toNat) ⟨⟨Sz _,by simp only [];omega⟩,by simp [ownN],by simp only [];omega⟩ λz ⟨⟨h1,h2⟩,h3,h4⟩ => ?_;obtain ⟨l,i⟩:=z;simp only at h1 h2 h3 h4;obtain ⟨n,rfl⟩:=SB h1;simp only [tnn] at h3;unfold iI;refine .bifD (λhlt => .gdD ⟨by omega,by omega⟩<|.gd (dY (by simp only [llc,SS];omega) rfl)<|.gdI (by omega)<|.pure ⟨⟨⟨by simp only [];omega,by simp only [];omega⟩,?_,by simp only [lla,llc,SS];omega⟩,by simp only [];omega⟩) λhge => .pure (by rw [h3,show n=3 by omega];rfl);simp only;rw [show ((n:Int)+1).toNat=n+1 by omega,h3,F9];simp only [vwL,SA]
theorem Ga (hp:PV p) (h:IW p s) (hs:SmL s):∀ x∈Hy s,0<=x/\x<=255:=λx hx=>by
 have vw:∀ (v:ah),VB 254 v->∀ x∈vwL v,0<=x/\x<=255:=λv hv x hx=>by
  have v0:=hv 0 (by decide);have v1:=hv 1 (by decide);have v2:=hv 2 (by decide);have e0:ah.get v 0=v.x0:=rfl;have e1:ah.get v 1=v.x1:=rfl;have e2:ah.get v 2=v.x2:=rfl;simp only [vwL,Td,List.not_mem_nil,or_false] at hx;rcases hx with rfl | rfl | rfl <;> omega
 unfold Hy at hx;rcases SL.1 hx with hx | hx
 ·rcases SL.1 hx with hx | hx
  ·exact uk hp h.iv x hx
  unfold Hw at hx;obtain ⟨l,hl,hx⟩:=SY.1 hx;have hl:=SC.1 hl;have hl2:0<=(l:Int)/\(l:Int)<=2:=⟨by omega,by omega⟩;unfold D5 at hx;rcases Td.1 hx with rfl | hx
  ·have := hs l hl2;omega
  obtain ⟨w,hw,hx⟩:=SY.1 hx;have h1:=(h.wv l hl2 w hw).1;have h2:=h.vbw hs hl2 hw;unfold F7 at hx;rcases SL.1 hx with hx | hx
  ·simp only [Td,List.not_mem_nil,or_false] at hx;rcases hx with rfl | rfl
   ·omega
   split <;> decide
  exact vw _ h2 x hx
 unfold ownN at hx;obtain ⟨t,ht,hx⟩:=SY.1 hx;exact vw _ (h.vbo hs<|SC.1 ht) x hx
end
section
variable {p:List (List Nf)}
theorem JW (f:Nf->Bool) (hf:∀ x,f x=true->x.Op≠4) (l:List Nf):(l.filter λx=>x.Op != 4).countP f=l.countP f:=by
 rw [List.countP_filter];refine List.countP_congr λx _=>?_
 constructor
 ·intro h;exact (bae _ _ ▸ h).1
 intro h;rw [bae];exact ⟨h,by simpa using hf x h⟩
theorem I0 (f:Nf->Bool) (g:Ins->Bool) (hf:∀ x,f x=true->x.Op≠4) (hg:∀ x,f x=true->g (fK x)=true) (hl:p.length<=3):sW (List.countP f) (prg p)<=lQ g (p.map λr=>r.map fK):=by
 have he:∀ l:List Nf,(l.filter λx=>x.Op != 4).countP f<=(l.map fK).countP g:=λl=>by
  rw [JW f hf,List.countP_map];exact List.countP_mono_left λx _ h=>hg x h
 have hd:(default:List Nf)=[]:=rfl;unfold sW lQ evs prg
 match p,hl with
 | [],_=>simp [hd]
 | [a],_=>have := he a;simp [hd];simpa using this
 | [a,b],_=>have := he a;have := he b;simp [hd] at *;omega
 | [a,b,c],_=>have := he a;have := he b;have := he c;simp [hd] at *;omega
 | _::_::_::_::_,hl=>simp at hl
theorem Ly (h:cK (p.map λr=>r.map fK)=true) (e:Nat->Nat):phi (prg p) e<=3000:=by
 have hl:=(PV.of h).vs.1;have hx:kY (p.map λr=>r.map fK)<=3000:=by
  simp only [cK,bae,dte] at h;exact h.2
 have hw:∀ l:Int,WT (prg p) l<=cw (p.map λr=>r.map fK) l:=λl=>I0 _ _ (λx hx=>by
  simp only [fwL,wrX,bae,SU,beq_iff_eq] at hx;omega) (λx hx=>by
  simp only [fwL,wrX,bae,SU,beq_iff_eq] at hx;simp only [bT,wrB,wrO,fK,bae,SU,beq_iff_eq];omega) hl
 have hr:∀ l:Int,RT (prg p) l<=cr (p.map λr=>r.map fK) l:=λl=>I0 _ _ (λx hx=>by
  simp only [flL,bae,beq_iff_eq] at hx;omega) (λx hx=>by
  simp only [flL,bae,beq_iff_eq] at hx;simp only [bT,rdB,rdO,fK,bae,SU,beq_iff_eq];omega) hl
 have hp:∀ l:Nat,phl (prg p) l e<=Mb (p.map λr=>r.map fK) l:=λl=>by
  refine SJ (Lc _ _) ?_;unfold Mb;refine Te (SJ (Nat.pow_le_pow_left (Nat.succ_le_succ<|hw l) _)<|Nat.pow_le_pow_right (by omega)<|hr l)<|CK<|hw l
 refine SJ ?_ hx;unfold phi kY;simp only [pT,Nat.one_mul];exact Te (Te (hp 0)<|hp 1)<|hp 2
def uF:Mac au where
 mv s:=(bX s).getD default
 af s m:=(bY s m).getD default
 ky s:=(cO s).getD default
 dn s:=(db s).getD default
 oc s:=(bU s).getD default
theorem eM {α:Type} [Inhabited α] {x:Option α} {P:α->Prop} (h:Nk x P):P (x.getD default)/\Nk x (· = x.getD default):=by
 obtain ⟨v,h1,h2⟩:=h;rw [h1];exact ⟨h2,v,rfl,rfl⟩
theorem Ag (hp:PV p) {s:au} (h:IW p s):Nk (db s) (· = (tv s.values).isEmpty):=by
 unfold db;exact (vX hp h.iv).bind λv hv => .pure hv
theorem JX {t k:Nat} (ht:t<3):(3*(k:Int)+t).tmod 3=(t:Int)/\(3*(k:Int)+t).tdiv 3=(k:Int):=by
 rw [Int.tmod_eq_emod_of_nonneg (by omega),Int.tdiv_eq_ediv_of_nonneg (by omega)];omega
theorem BD (hp:PW p) {s:au} (h:IW p s) (hs:SmL s) {t k:Nat} (ht:t<p.length) (hc:qf s.values t=true) (hk:Ad s t (jl s.values t) k):Nk (bY s<|3*(k:Int)+t) (· = afW s t k (jl s.values t)):=by
 have hl:=hp.pv.vs.1;obtain ⟨hx,ho⟩:=JU hp h t ht hc;obtain ⟨m1,m2⟩:=JX (k:=k) (show t<3 by omega);have hln:=hs _ ⟨hx.1,hx.2.1⟩;refine DY hp.pv h hs m1 m2 ht hc hx ho ?_ (λo=>?_) λo=>?_
 ·rcases hk with ⟨_,k1⟩ | ⟨_,_,k1⟩ | ⟨_,_,k1,_⟩ | ⟨_,_,k1,_⟩ <;> omega
 ·rcases hk with ⟨o',k1⟩ | ⟨o',_,k1⟩ | ⟨o',_,k1,_⟩ | ⟨o',_,k1,_⟩ <;> omega
 rcases hk with ⟨o',k1⟩ | ⟨o',_,k1⟩ | ⟨o',_,k1,_⟩ | ⟨o',_,k1,_⟩ <;> omega
def IS (p:List<|List Nf) (s:au):Prop:=IW p s/\SmL s
theorem wD (hp:PW p):Bis uF (rU p) (StR<|prg p) a0R (DnR<|prg p) (Gs p.length) (IS p) AW where
 i0:=⟨IW.start p,IZ hp<|by rw [CQ];exact .base⟩
 h0:=CQ p
 fw:=λs m ⟨h,hs⟩ hr hm=>by
  have hl:=hp.pv.vs.1;obtain ⟨t,k,ht,hc,hk,rfl⟩:=((eM<|mZ hp.pv h hs<|JU hp h).1.1 m).1 hm;obtain ⟨hx,_⟩:=JU hp h t ht hc;have e:uF.af s (3*(k:Int)+t)=afW s t k (jl s.values t):=(eM<|BD hp h hs ht hc hk).1;rw [e];have hst:=JR h hs (by omega) hc hx hk;exact ⟨⟨Ht h (by omega) hc hx hk,IZ hp<|hr.step hst⟩,hst⟩
 bw:=λs b ⟨h,hs⟩ hr hb=>by
  obtain ⟨t,k,ht,hc,hk,e1⟩:=JS h hs hp.pv.prg hp.pv.vs.1 hb;refine ⟨3*(k:Int)+t,((eM<|mZ hp.pv h hs<|JU hp h).1.1 _).2 ⟨t,k,ht,hc,hk,rfl⟩,?_⟩;have e:uF.af s (3*(k:Int)+t)=afW s t k (jl s.values t):=(eM<|BD hp h hs ht hc hk).1;rw [e,e1]
 dn:=λs ⟨h,hs⟩ hr=>by
  have e:uF.dn s=(tv s.values).isEmpty:=(eM<|Ag hp.pv h).1;rw [e];exact F5 hp.pv h
 oc:=λs ⟨h,hs⟩ hr _=>by
  have e:uF.oc s=xc (wA s):=(eM<|mF hp.pv h hs).1;rw [e,JV hp.pv h]
theorem HQ (hp:PW p) (hv:cK (p.map λr=>r.map fK)=true):Mok uF (rU p) 816293376000:=
 (wD hp).mok (λs t ⟨hs,ss⟩ ⟨ht,st⟩ _ _ h=>by
  have e1:uF.ky s=strOfNums (Hy s):=(eM (yU hp.pv hs ss)).1;have e2:uF.ky t=strOfNums (Hy t):=(eM (yU hp.pv ht st)).1;rw [e1,e2] at h;exact HL (hs.iv.up.trans ht.iv.up.symm) (nK (Ga hp.pv hs ss) (Ga hp.pv ht st) h))
  (λs t ⟨hs,ss⟩ ⟨ht,st⟩ h=>Lx hs ht ss st h) (MU hp.pv.prg0 hp.pv.prg hp.op hp.pv.vs.2 hp.ev<|Ly hv)
theorem HZ (hp:PW p):Mrt bX bY cO db bU uF (rU p):=by
 have B:=wD hp;refine ⟨λs hs=>(eM<|mZ hp.pv (B.rea hs).1.1 (B.rea hs).1.2<|JU hp (B.rea hs).1.1).2,λs m hs hm=>?_,λs hs=>(eM<|yU hp.pv (B.rea hs).1.1 (B.rea hs).1.2).2,λs hs=>(eM<|Ag hp.pv (B.rea hs).1.1).2,λs hs _=>(eM<|mF hp.pv (B.rea hs).1.1 (B.rea hs).1.2).2,λs hs=>?_⟩
 ·obtain ⟨h,hs'⟩:=(B.rea hs).1;obtain ⟨t,k,ht,hc,hk,rfl⟩:=((eM<|mZ hp.pv h hs'<|JU hp h).1.1 m).1 hm;exact (eM<|BD hp h hs' ht hc hk).2
 have := (eM<|mZ hp.pv (B.rea hs).1.1 (B.rea hs).1.2<|JU hp (B.rea hs).1.1).1.2;show ((bX s).getD default).length<=_;omega
def RaO (p:List<|List Nf):LI->Prop:=LX (prg p) p.length
structure RunV (O:List Int->Prop) (q:List (List Int)):Prop where
 lt:q.Pairwise ltL
 mem:∀ o,o∈q↔O o
 len:q.length<=816293376000
theorem H3 (hp:PW p) (hb:cK (p.map λr=>r.map fK)=true) (hv:aA p=some true):Nk (mq p) (RunV<|RaO p):=by
 have B:=wD hp;have e:fA (rU p)=KO bX bY cO db bU aR (rU p):=rfl;have hQ:∀ l:LL,l.length<=816293376000->(∀ o∈l,Jo uF (rU p) o)->Nk (aR l) λq=>Sor l q/\l.length<=816293376000:=λl hl ho=>(tu (by omega) λr hr=>by
  obtain ⟨s,h1,_,rfl⟩:=ho r hr;have h2:=(B.rea h1).1;have h3:=hp.pv.vs.1;have e:uF.oc s=xc (wA s):=(eM (mF hp.pv h2.1 h2.2)).1;rw [e,uU];have : (wA s).p=p:=h2.1.iv.up;rw [this];omega).mono λq h=>⟨h,hl⟩
 unfold mq;rw [hv];refine Nk.bind (P:=(· = true)) (.pure rfl) λb hbt => .bif (λh=>absurd h<|by rw [hbt];decide) λ_=>?_;refine (Hv p).bind λv ev=>?_;subst ev;refine Nk.bind (P:=λq:LL×Int=>RunV (RaO p) q.1) ?_ λq hq => .pure hq;rw [e];exact (Be (Q:=λl q=>Sor l q/\l.length<=816293376000) (HQ hp hb) (HZ hp) (by decide) hQ).mono λq ⟨l,⟨h1,h3⟩,h2,_⟩=>⟨h1.lt,λo=>(h1.mem o).trans<|(h2 o).trans<|B.outs o,SJ h1.len h3⟩
end
open Go.RowKit
theorem JY {a b:LI} (ha:a.length<=1099511627776):Nk (lq a b) (· = decide (a=b)):=by
 unfold lq;refine .bif (λh => .pure (decide_eq_false λe=>?_).symm) λh=>?_
 ·rw [e] at h;simp at h
 have hl:a.length=b.length:=by
  have : (a.length:Int)=(b.length:Int):=by simpa using h
  omega
 refine Nk.sum (PS:=λ_=>a=b) (PW:=(· = decide (a=b))) ?_ λ_ he => .pure (decide_eq_true he).symm;refine Nk.loop (λi=>(0<=i/\i<=(a.length:Int))/\∀ j:Nat,(j:Int)<i->a[j]? = b[j]?) (λi=>((a.length:Int)-i).toNat) ⟨⟨Sz _,by omega⟩,λj hj=>by omega⟩ λi ⟨⟨h1,h2⟩,h3⟩ => ?_;unfold nZ;refine .bifD (λhlt => .gdD ⟨h1,hlt⟩<|.gdD ⟨h1,by omega⟩<|.bif (λhn => .pure ?_) λhn => .gdI (by omega)<|.pure ⟨⟨⟨by omega,by omega⟩,λj hj=>?_⟩,by omega⟩) λhge => .pure<|List.ext_getElem? λj=>?_
 ·refine (decide_eq_false λe=>?_).symm;rw [e] at hn;simp at hn
 ·by_cases e:j=i.toNat
  ·subst e;have hi:i.toNat<a.length:=by omega
   have hi2:i.toNat<b.length:=by omega
   have : a.getD i.toNat default=b.getD i.toNat default:=by simpa using hn
   rw [gdq,gdq,geq hi,geq hi2] at this;rw [geq hi,geq hi2];exact congrArg some this
  exact h3 j (by omega)
 rcases S5 j a.length with g | g
 ·exact h3 j (by omega)
 rw [gen g,gen (by omega)]
section
variable {p:List (List Nf)}
abbrev nRa:ByteArray:=⟨#[114,97]⟩
structure OkQ (q:List (List Int)):Prop where
 lt:q.Pairwise ltL
 sm:(∀ r∈q,r.length<=1048576)/\q.length<=1099511627776
theorem OkQ.nil:OkQ []:=⟨.nil,⟨λ_ h=>(nomatch h),SG _⟩⟩
end
def sI (x y:Nat):Int->Int:=λl=>if l=x then y else if l=y then x else l
theorem Ah (x y:Nat) (l:Int):sI x y (sI x y l)=l:=by
 unfold sI
 by_cases h1:l=x
 ·subst h1;rw [if_pos rfl]
  by_cases h2:(y:Int)=x
  ·rw [if_pos h2,h2]
  rw [if_neg h2,if_pos rfl]
 rw [if_neg h1]
 by_cases h2:l=y
 ·subst h2;rw [if_pos rfl,if_pos rfl]
 rw [if_neg h2,if_neg h1,if_neg h2]
section
variable {n i k x y:Nat}
theorem JZ (h1:1<=n) (h3:n<=3) (hx:x<=2) (hy:y<=2) (s':Int->Int) (a:TS):outT n (lcS (sI x y) s' a)=tF n 0 0 x y (outT n a):=by
 obtain rfl | rfl | rfl:n=1\/n=2\/n=3:=by omega
 all_goals (obtain rfl | rfl | rfl:x=0\/x=1\/x=2:=by omega)
 all_goals (obtain rfl | rfl | rfl:y=0\/y=1\/y=2:=by omega)
 all_goals rfl
theorem H4 (s:Int->Int) (a:RS) (l:Int):Bw (lcR s a) l=Bw a (s l):=by
 unfold Bw lcR;simp only;rw [List.getLast?_map]
 cases (a.li<|s l).getLast? <;> rfl
theorem J0 (h1:1<=n) (h3:n<=3) (hx:x<=2) (hy:y<=2) (a:RS):Gs n (lcR (sI x y) a)=tF n 0 0 x y (Gs n a):=by
 have e:Gs n (lcR (sI x y) a)=((SR n).flatMap λt=>(SR 3).map λg:Nat=>a.rg t g)++(SR 3).map λl:Nat=>Bw a (sI x y l):=by
  unfold Gs
  congr 1
  exact SE λl _=>H4 _ _ _
 rw [e];obtain rfl | rfl | rfl:n=1\/n=2\/n=3:=by omega
 all_goals (obtain rfl | rfl | rfl:x=0\/x=1\/x=2:=by omega)
 all_goals (obtain rfl | rfl | rfl:y=0\/y=1\/y=2:=by omega)
 all_goals rfl
theorem CX (h1:1<=n) (hi:i<n) (hk:k<n) (hx:x<=2) (hy:y<=2) {o:LI} (ho:o.length=3*n+3):tF n i k x y (tF n i k x y o)=o:=by
 have get:∀ j,j<3*n+3->(tF n i k x y o).getD j default=if j<3*n then o.getD (3*fB (j / 3) i k+j % 3) default else o.getD (3*n+fB (j-3*n) x y) default:=λj hj=>by
  unfold tF;rw [gdq,SK,List.getElem?_range hj]
  rfl
 conv=>rhs;rw [IG ho]
 conv=>lhs;unfold tF
 refine SE λj hj=>?_;have hj:=SC.1 hj
 by_cases h:j<3*n
 ·have h2:=yL (t:=j / 3) (show j / 3<n by omega) hi hk;have h4:=Nat.mod_lt j (show 0<3 by decide);rw [if_pos h];have := get (3*fB (j / 3) i k+j % 3) (by omega);unfold tF at this;rw [this,if_pos (by omega),show (3*fB (j / 3) i k+j % 3) / 3=fB (j / 3) i k by omega,show (3*fB (j / 3) i k+j % 3) % 3=j % 3 by omega,nM]
  congr 1
  omega
 have h2:=yL (t:=j-3*n) (n:=3) (i:=x) (k:=y) (by omega) (by omega) (by omega);rw [if_neg h];have := get (3*n+fB (j-3*n) x y) (by omega);unfold tF at this;rw [this,if_neg (by omega),show 3*n+fB (j-3*n) x y-3*n=fB (j-3*n) x y by omega,nM]
 congr 1
 omega
end
section
variable {p q:List (List Nf)}
def MO (p:List<|List Nf):Nat->LI->Prop
 | 0=>GU p
 | 1=>Gq p false
 | 2=>Gq p true
 | _=>RaO p
def nmO:Nat->ByteArray
 | 0=>MH
 | 1=>MI
 | 2=>MJ
 | _=>nRa
structure RunM (p:List (List Nf)) (j:Nat) (l:List (List Int)):Prop where
 lt:l.Pairwise ltL
 mem:∀ o,o∈l↔MO p j o
 len:l.length<=1099511627776
theorem Gb (hp:PW p) (hb:cK (p.map λr=>r.map fK)=true) (hv:aA p=some true) {j:Nat} (hj:j<4):Nk (aK p<|nmO j) (RunM p j):=by
 obtain rfl | rfl | rfl | rfl:j=0\/j=1\/j=2\/j=3:=by omega
 ·exact (G6 hp.pv hv).mono λq h=>⟨h.run.lt,h.run.mem,by have := h.run.len;omega⟩
 ·exact (G7 hp hv).mono λq h=>⟨h.run.lt,h.run.mem,by have := h.run.len;omega⟩
 ·exact (G8 hp hv).mono λq h=>⟨h.run.lt,h.run.mem,by have := h.run.len;omega⟩
 show Nk (aK p nRa) (RunM p 3);unfold aK;refine .bifD (λe=>absurd e<|by decide) λ_ => .bifD (λe=>absurd e<|by decide) λ_ => .bifD (λe=>absurd e<|by decide) λ_ => .bifD (λ_=>?_) λh=>absurd rfl h;exact (H3 hp hb hv).bind λq h => .pure ⟨h.lt,h.mem,by have := h.len;omega⟩
theorem yV (hp:PV p) {u:Ng} (h:Iv p u):(xc u).length=3*p.length+3/\∀ v∈xc u,0<=v/\v<=3:=by
 have hl:=hp.vs.1;refine ⟨by rw [uU,h.up],λv hv=>?_⟩;unfold xc tz Ks at hv;rcases SL.1 hv with hv | hv
 ·obtain ⟨t,ht,hv⟩:=SY.1 hv;obtain ⟨g,hg,rfl⟩:=SI.1 hv;have ht:=SC.1 ht;rw [h.up] at ht;exact h.rv t g (by omega)<|SC.1 hg
 obtain ⟨l,hl,rfl⟩:=SI.1 hv;exact h.mv l<|SC.1 hl
theorem CY (hp:PW p) {j:Nat} {o:LI} (h:MO p j o):o.length=3*p.length+3/\∀ v∈o,0<=v/\v<=3:=by
 have buf:∀ sp,Gq p sp o->o.length=3*p.length+3/\∀ v∈o,0<=v/\v<=3:=λsp h=>by
  obtain ⟨s,h1,_,rfl⟩:=((zY hp sp).outs o).2 h;have h2:=(zY hp sp).rea h1;exact yV hp.pv<|h2.1.iv<|InT.of hp.pv.prg h2.2
 match j with
 | 0=>
  obtain ⟨s,h1,_,rfl⟩:=h;exact yV hp.pv<|qy hp.pv (Iv.start p) h1
 | 1=>exact buf false h
 | 2=>exact buf true h
 | j+3=>
  obtain ⟨s,h1,_,rfl⟩:=((wD hp).outs o).2 h;have h2:=((wD hp).rea h1).1;have e:uF.oc s=xc (wA s):=(eM<|mF hp.pv h2.1 h2.2).1;rw [e];exact yV hp.pv<|CU h2.1
theorem LA (hp:PW p) (hq:PW q) {x y:Nat} (h1:1<=p.length) (hx:x<=2) (hy:y<=2) (hl:q.length=p.length) (hpr:prg q=λt=>(prg p t).map<|lcX<|sI x y) {j:Nat} {o:LI} (h:MO p j o):MO q j (tF p.length 0 0 x y o):=by
 have h3:=hp.pv.vs.1;have buf:∀ (d:Bool) (cl s':Int->Int),(∀ l,s' (s' l)=l)->(∀ l,cl (sI x y l)=s' (cl l))->Kt (prg p) d cl p.length o->Kt (prg q) d cl q.length (tF p.length 0 0 x y o):=λd cl s' hs' hc h=>by
  rw [hpr,hl];exact K9 (Ah x y) hs' hc (λa=>JZ h1 h3 hx hy s' a) h
 match j with
 | 0=>exact (yK hq.pv id _).2 (buf _ _ (sI x y) (Ah x y) (λ_=>rfl)<|(yK hp.pv id _).1 h)
 | 1=>exact buf _ _ id (λ_=>rfl) (λ_=>rfl) h
 | 2=>exact buf _ _ (sI x y) (Ah x y) (λ_=>rfl) h
 | j+3=>
  show LX (prg q) q.length _;rw [hpr,hl];exact JF (Ah x y) (λa=>J0 h1 h3 hx hy a) h
theorem J1 {b:LL} {o:LI} (hb:b.length<=1099511627776) (hr:∀ r∈b,r.length<=1048576):Nk (gz b o) (· = decide (o∈b)):=by
 unfold gz;refine Nk.sum (PS:=λ_=>o∉b) (PW:=(· = decide (o∈b))) ?_ λ_ he => .pure (decide_eq_false he).symm;refine Nk.loop (λi=>(0<=i/\i<=(b.length:Int))/\∀ j:Nat,(j:Int)<i->b[j]? ≠ some o) (λi=>((b.length:Int)-i).toNat) ⟨⟨Sz _,by omega⟩,λj hj=>by omega⟩ λi ⟨⟨h1,h2⟩,h3⟩ => ?_;unfold lT;refine .bifD (λhlt => .gdD ⟨h1,hlt⟩ ?_) λhge => .pure ?_
 ·have hi:i.toNat<b.length:=by omega
  have eb:b.getD i.toNat default=b[i.toNat]:=by simp [List.getD,hi]
  rw [eb];refine (JY (by have := hr _<|SN hi;omega)).bind λv hv=>?_;subst hv;refine .bifD (λhe => .pure ?_) λhne => .gdI (by omega)<|.pure ⟨⟨⟨by omega,by omega⟩,λj hj=>?_⟩,by omega⟩
  ·exact (decide_eq_true<|he ▸ SN hi).symm
  by_cases e:j=i.toNat
  ·subst e;rw [geq hi];exact λh=>hne<|osl h
  exact h3 j (by omega)
 intro hm;obtain ⟨j,hj,rfl⟩:=List.getElem_of_mem hm;exact h3 j (by omega)<|geq hj
end
theorem J2 (p:List<|List Ins):toP (ofP p)=p:=by
 simp only [toP,ofP,SD];have : (List.map fK ∘ List.map z8)=(id:List Ins->List Ins):=by
  funext l
  simp only [Function.comp,SD];have : (fK ∘ z8)=(id:Ins->Ins):=rfl;rw [this,Tf,id]
 show List.map ((λr=>List.map fK r) ∘ λr=>List.map z8 r) p=p;rw [show ((λr=>List.map fK r) ∘ λr=>List.map z8 r)=(id:List Ins->List Ins) from this,Tf]
theorem Ai (x:Nf):Nk (jv x) λ_=>True:=by
 unfold jv;exact Nk.bind (P:=λ_=>True) (.bif (λ_ => .pure trivial) λ_ => .pure trivial) λ_ _=>Nk.bind (P:=λ_=>True) (.bif (λ_ => .pure trivial) λ_ => .pure trivial) λ_ _ => .pure trivial
theorem BF (x:Nf):Nk (kz x) λ_=>True:=by
 unfold kz;exact Nk.bind (P:=λ_=>True) (.bif (λ_ => .pure trivial) λ_ => .pure trivial) λ_ _ => .pure trivial
theorem Sm.row {p:List (List Nf)} (h:Sm p) (i:Nat):(p.getD i default).length<=9:=by
 by_cases hi:i<p.length
 ·have : p.getD i default=p[i]:=by simp [hi]
  rw [this];exact (h.2 _<|SN hi).1
 rw [gdq,gen (Nat.le_of_not_lt hi)];exact SG _
theorem wE {p:List (List Nf)} (hp:Sm p) (loc:Int) (wr:Bool):Nk (iT p loc wr) λv=>0<=v/\v<=81:=by
 unfold iT;have hpl:=hp.1;refine Nk.bind (P:=λv:Int=>0<=v/\v<=81) ?_ λv hv => .pure hv;refine Nk.loop (λs=>0<=s.1/\s.1<=(p.length:Int)/\0<=s.2/\s.2<=9*s.1) (λs=>((p.length:Int)-s.1).toNat) ⟨Sz _,by simp only [];omega,Sz _,Sz _⟩ λs ⟨h1,h2,h3,h4⟩ => ?_;unfold mX;refine .bifD (λh0=>?_) λh0 => .pure ⟨h3,by omega⟩;have hrow:=hp.row s.1.toNat;refine Nk.bind (P:=λv:Int=>0<=v/\v<=9*s.1+9) ?_ λv ⟨g1,g2⟩ => .gdI (by omega)<|.pure ⟨⟨by simp only [];omega,by simp only [];omega,g1,by simp only [];omega⟩,by simp only [];omega⟩;refine Nk.loop (λt=>0<=t.1/\t.1<=((p.getD s.1.toNat default).length:Int)/\0<=t.2/\t.2<=9*s.1+t.1) (λt=>(((p.getD s.1.toNat default).length:Int)-t.1).toNat) ⟨Sz _,by simp only [];omega,h3,by simp only [];omega⟩ λt ⟨k1,k2,k3,k4⟩ => ?_;unfold mr;refine .gdD ⟨h1,h0⟩<|.bifD (λhk=>?_) λhk => .pure ⟨k3,by omega⟩;refine Nk.bind (P:=λv:Int=>0<=v/\v<=t.2+1) ?_ λv ⟨g1,g2⟩ => .gdI (by omega)<|.pure ⟨⟨by simp only [];omega,by simp only [];omega,g1,by simp only [];omega⟩,by simp only [];omega⟩;refine .gdD ⟨k1,hk⟩<|Nk.bind (P:=λ_=>True) ?_ λb _ => .bif (λ_ => .gdI (by omega)<|.pure ⟨by omega,by omega⟩) λ_ => .pure ⟨k3,by omega⟩;refine .bif (λ_=>?_) λ_ => .pure trivial;refine Nk.bind (P:=λ_=>True) (.bif (λ_=>(Ai _).bind λ_ _ => .pure trivial) λ_ => .pure trivial) λ_ _=>?_;refine Nk.bind (P:=λ_=>True) (.bif (λ_ => .pure trivial) λ_=>?_) λ_ _ => .pure trivial;exact Nk.bind (P:=λ_=>True) (.bif (λ_=>(BF _).bind λ_ _ => .pure trivial) λ_ => .pure trivial) λ_ _ => .pure trivial
theorem BG {p:List (List Nf)} (hp:Sm p) {most:Int} (hm:0<=most/\most<=10000):Nk (kD p most) λ_=>True:=by
 unfold kD;refine Nk.bind (P:=λv:Int=>0<=v/\v<=1000000000) ?_ λv ⟨h1,h2⟩ => .bifD (λ_ => .gdI (by omega)<|.pure trivial) λ_ => .pure trivial;refine Nk.loop (λs=>0<=s.1/\s.1<=3/\0<=s.2/\s.2<=1000000000) (λs=>(3-s.1).toNat) ⟨Sz _,by decide,by decide,by decide⟩ λs ⟨h1,h2,h3,h4⟩ => ?_;unfold mY;refine .bifD (λh0=>?_) λh0 => .pure ⟨h3,h4⟩;refine Nk.bind (P:=λv:Int=>0<=v/\v<=1000000000) ?_ λv ⟨g1,g2⟩ => .gdI (by omega)<|.pure ⟨⟨by simp only [];omega,by simp only [];omega,g1,g2⟩,by simp only [];omega⟩;refine (wE hp _ _).bind λw ⟨w1,w2⟩=>Nk.bind (P:=λv:Int=>0<=v/\v<=1000000000) ?_ λv ⟨g1,g2⟩ => ?_
 ·refine Nk.loop (λt=>0<=t.1/\t.1<=81/\0<=t.2/\t.2<=1000000000) (λt=>(81-t.1).toNat) ⟨Sz _,by simp only [];omega,h3,h4⟩ λt ⟨k1,k2,k3,k4⟩ => ?_;unfold mD;refine (wE hp _ _).bind λc ⟨c1,c2⟩=>Nk.bind (P:=λb=>b=(decide (t.1<c)&&decide (t.2<=most))) (.bifD (λh => .pure<|by simp [h]) λh => .pure<|by simp [h]) λb hb => .bif (λht=>?_) λ_ => .pure ⟨k3,k4⟩;rw [hb] at ht;simp only [bae,dte] at ht;have e1:0<=t.2*(w+1)/\t.2*(w+1)<=10000*82:=⟨Int.mul_nonneg k3 (by omega),Int.mul_le_mul (by omega) (by omega) (by omega)<|by omega⟩;exact .gdI (by omega)<|.gdI (by omega)<|.gdI (by omega)<|.pure ⟨⟨by simp only [];omega,by simp only [];omega,e1.1,by simp only [];omega⟩,by simp only [];omega⟩
 refine Nk.loop (λt=>2<=t.1/\t.1<=82/\0<=t.2/\t.2<=1000000000) (λt=>(82-t.1).toNat) ⟨Sz _,by simp only [];omega,g1,g2⟩ λt ⟨k1,k2,k3,k4⟩ => ?_;unfold mE;refine Nk.bind (P:=λb=>b=(decide (t.1<=w)&&decide (t.2<=most))) (.bifD (λh => .pure<|by simp [h]) λh => .pure<|by simp [h]) λb hb => .bif (λht=>?_) λ_ => .pure ⟨k3,k4⟩;rw [hb] at ht;simp only [bae,dte] at ht;have e1:0<=t.2*t.1/\t.2*t.1<=10000*82:=⟨Int.mul_nonneg k3 (by omega),Int.mul_le_mul (by omega) (by omega) (by omega)<|by omega⟩;exact .gdI (by omega)<|.gdI (by omega)<|.pure ⟨⟨by simp only [];omega,by simp only [];omega,e1.1,by simp only [];omega⟩,by simp only [];omega⟩
theorem Ml:uZ (⟨#[120,61,49,59,97,61,121,124,121,61,49,59,97,61,120]⟩:ByteArray)=true:=by decide +kernel
theorem BH {k:Int} {r:ak} (h:Rd k r) (hk:k<=10000):Nk (kE r) λv=>Rd (k+46) v.1/\smP v.2=true:=by
 unfold kE;refine (DT h.mk' hk Hh).bind λv ⟨a1,a2⟩=>(BG (CH a2)<|by decide).bind λn _ => .bifD (λ_ => .pure ⟨a1.mk',a2⟩) λ_=>?_;exact (yf Ml).bind λu hu => .pure ⟨a1.mk',hu⟩
section
variable {p q:List (List Nf)}
theorem MW {f:LI->LI} {a b:LL} {T:LI->Option (List Int×Bool)} {g:Int->Option (Int ⊕ (Unit ⊕ (Unit ⊕ (Int ⊕ (Unit ⊕ Bool)))))} (ha:a.length<=1099511627776) (hb:b.length<=1099511627776) (hr:∀ r∈b,r.length<=1048576)
  (hT:∀ o∈a,Nk (T o) (· = (f o,true))) (hm:∀ o∈a,f o∈b)
  (hg:∀ z,g z=bif decide (z<(a.length:Int)) then (gd (decide<|0<=z/\z<(a.length:Int))<|Tg (T<|a.getD z.toNat default) λv31=>Tg (bif !v31.2 then some true else Tg (gz b v31.1) λv34=>some<|!v34) λs32=>bif s32 then some (.inr<|.inr<|.inr<|.inr<|.inr false) else gd (Nb .i64<|z+(1:Int))<|some<|.inl<|z+(1:Int)) else some (.inr<|.inl ())) :
  Nk (bA g (0:Int)) (· = .inl ()):=by
 refine Nk.loop (λi=>0<=i/\i<=(a.length:Int)) (λi=>((a.length:Int)-i).toNat) ⟨Sz _,by omega⟩ λi ⟨h1,h2⟩ => ?_;rw [hg];refine .bifD (λhlt => .gdD ⟨h1,hlt⟩ ?_) λhge => .pure rfl;have hi:i.toNat<a.length:=by omega
 have eb:a.getD i.toNat default=a[i.toNat]:=by simp [List.getD,hi]
 rw [eb];have hmem:=SN hi;refine (hT _ hmem).bind λv hv=>?_;subst hv;refine Nk.bind (P:=(· = false)) (.bif (λh=>by cases h) λ_=>(J1 hb hr).bind λv hv => .pure<|by rw [hv,decide_eq_true (hm _ hmem)];rfl) λs hs=>?_;subst hs;exact .bif (λh=>by cases h) λ_ => .gdI (by omega)<|.pure ⟨⟨by omega,by omega⟩,by omega⟩
theorem H5 {j:Nat} (hj:j<4):(([(⟨#[115,101,113]⟩:ByteArray),(⟨#[116,115,111]⟩:ByteArray),(⟨#[112,115,111]⟩:ByteArray),(⟨#[114,97]⟩:ByteArray)]:List ByteArray).getD j default)=nmO j:=by
 obtain rfl | rfl | rfl | rfl:j=0\/j=1\/j=2\/j=3:=by omega
 all_goals rfl
theorem H6 {j:Nat} {f:LI->LI} {a b:LL} (ha:RunM p j a) (hb:RunM q j b) (h1:∀ o,MO p j o->MO q j (f o)) (h2:∀ o,MO q j o->MO p j (f o)) (hff:∀ o,MO p j o->f (f o)=o) (hgg:∀ o,MO q j o->f (f o)=o):a.length=b.length:=by
 have few:∀ {x y:LL},y.Pairwise ltL->(∀ o∈y,∃ o',o'∈x/\f o'=o)->y.length<=x.length:=λ{x y} hy h=>by
  have := List.Nodup.length_le_of_subset (hy.imp λh=>KP h) (l₂:=x.map f) λo ho=>by
   obtain ⟨o',h1,h2⟩:=h o ho;exact SI.2 ⟨o',h1,h2⟩
  simpa using this
 have e1:=few (x:=a) hb.lt λo ho=>⟨f o,(ha.mem _).2<|h2 o<|(hb.mem o).1 ho,hgg o<|(hb.mem o).1 ho⟩;have e2:=few (x:=b) ha.lt λo ho=>⟨f o,(hb.mem _).2<|h1 o<|(ha.mem o).1 ho,hff o<|(ha.mem o).1 ho⟩;omega
theorem RunM.row (hp:PW p) {j:Nat} {l:LL} (h:RunM p j l):∀ r∈l,r.length<=1048576:=λr hr=>by
 have h1:=(CY hp<|(h.mem r).1 hr).1;have h2:=hp.pv.vs.1;omega
end
theorem yX (f:Ins->Bool) (g:Ins->Ins) (p:List<|List Ins):lQ f (p.map<|List.map g)=lQ (λx=>f<|g x) p:=by
 unfold lQ;rw [SD]
 congr 1
 refine SE λr _=>?_;show List.countP f (r.map g)=_;rw [List.countP_map]
 rfl
theorem tN {f g:Ins->Bool} (h:∀ x,f x=g x) (p:List<|List Ins):lQ f p=lQ g p:=by
 rw [show f=g from funext h]
theorem H7 {a i k:Int} (hi:Nj i 2=true) (hk:Nj k 2=true):Nj (mH a i k) 2=Nj a 2:=by
 unfold mH
 split
 ·rename_i h;subst h;rw [hi,hk]
 split
 ·rename_i h;subst h;rw [hi,hk]
 rfl
theorem D6 {i k:Int} (hi:Nj i 2=true) (hk:Nj k 2=true) (x:Ins):iG (eG i k x)=iG x:=by
 unfold eG
 split
 ·rfl
 rename_i h;simp only [iG,H7 hi hk,h,if_false]
theorem BI (i k:Int) (x:Ins):(eG i k x).op=x.op:=by
 unfold eG
 split <;> rfl
theorem J3 (i k:Int) (x:Ins):rdB (eG i k x)=rdB x:=by unfold rdB;rw [BI]
theorem J4 (i k:Int) (x:Ins):wrB (eG i k x)=wrB x:=by unfold wrB;rw [BI]
theorem H8 (a l i k:Int):(mH a i k==l)=(a==mH l i k):=by
 unfold mH;rw [Bool.eq_iff_iff,beq_iff_eq,beq_iff_eq]
 split <;> split <;> (try split) <;> (try split) <;> omega
theorem yg (l i k:Int) (f:Ins->Bool) (hf:∀ x,f (eG i k x)=f x) (h4:∀ x:Ins,x.op=4->f x=false) (x:Ins):bT l f (eG i k x)=bT (mH l i k) f x:=by
 unfold bT;rw [hf]
 by_cases h:x.op=4
 ·rw [h4 x h,Bool.and_false,Bool.and_false]
 unfold eG;rw [if_neg h,H8]
theorem J5 (i k:Int) (p:List<|List Ins) (l:Int):cw (p.map<|List.map<|eG i k) l=cw p (mH l i k):=by
 unfold cw;rw [yX];exact tN (yg l i k wrB (J4 i k) λx h=>by unfold wrB;rw [h];rfl) p
theorem J6 (i k:Int) (p:List<|List Ins) (l:Int):cr (p.map<|List.map<|eG i k) l=cr p (mH l i k):=by
 unfold cr;rw [yX];exact tN (yg l i k rdB (J3 i k) λx h=>by unfold rdB;rw [h];rfl) p
def I1 (p:List<|List Ins) (l:Int):Nat:=(cw p l+1) ^ (cr p l)*fct (cw p l)
theorem CZ (p:List<|List Ins):kY p=1*I1 p 0*I1 p 1*I1 p 2:=rfl
theorem BJ {i k:Int} (hi:Nj i 2=true) (hk:Nj k 2=true) (p:List<|List Ins):kY (p.map<|List.map<|eG i k)=kY p:=by
 have e:∀ l,I1 (p.map<|List.map<|eG i k) l=I1 p (mH l i k):=λl=>by
  unfold I1;rw [J5,J6]
 rw [CZ,CZ,e,e,e];simp only [Nj,bae,dte] at hi hk;have hi':i=0\/i=1\/i=2:=by omega
 have hk':k=0\/k=1\/k=2:=by omega
 have c0:∀ a b c d:Int,mH a b c=d->I1 p (mH a b c)=I1 p d:=λa b c d h=>by rw [h]
 rcases hi' with rfl | rfl | rfl <;> rcases hk' with rfl | rfl | rfl
 ·rfl
 ·rw [c0 0 0 1 1 rfl,c0 1 0 1 0 rfl,c0 2 0 1 2 rfl];ac_rfl
 ·rw [c0 0 0 2 2 rfl,c0 1 0 2 1 rfl,c0 2 0 2 0 rfl];ac_rfl
 ·rw [c0 0 1 0 1 rfl,c0 1 1 0 0 rfl,c0 2 1 0 2 rfl];ac_rfl
 ·rfl
 ·rw [c0 0 1 2 0 rfl,c0 1 1 2 2 rfl,c0 2 1 2 1 rfl];ac_rfl
 ·rw [c0 0 2 0 2 rfl,c0 1 2 0 1 rfl,c0 2 2 0 0 rfl];ac_rfl
 ·rw [c0 0 2 1 0 rfl,c0 1 2 1 2 rfl,c0 2 2 1 1 rfl];ac_rfl
 rfl
theorem D7 {i k:Int} (hi:Nj i 2=true) (hk:Nj k 2=true) (p:List<|List Ins):cK (p.map<|List.map<|eG i k)=cK p:=by
 have hr:∀ r,rowOk (r.map<|eG i k)=rowOk r:=λr=>by
  unfold rowOk;rw [llm,List.all_map]
  congr 1
  exact congrArg (r.all ·)<|funext λx=>D6 hi hk x
 have ha:(p.map<|List.map<|eG i k).all rowOk=p.all rowOk:=by
  rw [List.all_map];exact congrArg (p.all ·)<|funext hr
 have hn:lQ pg (p.map<|List.map<|eG i k)=lQ pg p:=by
  rw [yX];exact tN (λx=>by unfold pg;rw [BI]) p
 unfold cK mi;rw [ha,hn,BJ hi hk,llm]
theorem D8 {b:LI} (hb:Bts b):Nk (gb b) λv=>Sm v.1:=by
 unfold gb;refine Nk.bind (P:=λv:List (List Nf)×Int×Int=>Sm v.1) ?_ λv hv => .pure hv;unfold nL;exact (Hg hb).bind λr h=>(BH h.mk'<|by omega).bind λv ⟨a1,a2⟩=>(Ac a1.mk' (by omega) a2).bind λu ⟨b1,b2⟩=>(qN b1.mk' (by omega) _<|by simp).bind λx ⟨c1,_⟩=>(qN c1.mk' (by omega) _<|by simp).bind λy _ => .pure b2
theorem Mm {b:LI} (hb:Bts b):fE b=some true:=by
 refine Nk.eq ?_;unfold fE;refine .bifD (λ_ => .pure rfl) λ_=>(D8 hb).bind λv hp=>?_;obtain ⟨p,i,k⟩:=v;simp only at hp ⊢;have hsz:=hp.sz;have hi:jp p i k=some (ofP (mN (toP p) i k).1,(mN (toP p) i k).2):=kT<|decide_eq_true hsz;have hs:jq p i k=some (ofP (mN (toP p) i k).1,(mN (toP p) i k).2):=kT<|decide_eq_true hsz;refine (Nk.of (P:=(· = (ofP (mN (toP p) i k).1,(mN (toP p) i k).2))) hi rfl).bind λv4 e4=>(Nk.of (P:=(· = (ofP (mN (toP p) i k).1,(mN (toP p) i k).2))) hs rfl).bind λv5 e5=>?_;subst e4 e5;have hq:(ofP (mN (toP p) i k).1).length<=9/\∀ r∈ofP (mN (toP p) i k).1,r.length<=9:=by
  unfold mN
  split
  ·refine ⟨by simp only [ofP,llm,toP];exact hp.1,λr hr=>?_⟩;obtain ⟨r',h1,rfl⟩:=SI.1 hr;obtain ⟨r1,h2,rfl⟩:=SI.1 h1;unfold toP at h2;obtain ⟨r0,h3,rfl⟩:=SI.1 h2;simp only [llm];exact (hp.2 r0 h3).1
  exact ⟨SG _,λr hr=>by cases hr⟩
 have hsame:=Hd (ofP (mN (toP p) i k).1) (by omega) λr hr=>by have := hq.2 r hr;omega
 refine Nk.bind (P:=(· = false)) (.bif (λh=>by simp at h) λ_=>hsame.bind λv hv => .pure<|by rw [hv];rfl) λs5 h5=>?_;subst h5;refine Nk.bind (P:=(· = !(mN (toP p) i k).2)) (.bif (λh=>by cases h) λ_ => .pure rfl) λs8 h8=>?_;subst h8;refine .bif (λ_=>?_) λhok=>?_
 ·exact Nk.bind (P:=(· = true)) (.bif (λ_=>hsame.bind λv hv => .pure hv) λh=>by simp at h) λs hs => .pure hs
 have hc:(cK (toP p)&&(Nj i 2&&Nj k 2))=true:=by
  unfold mN at hok
  split at hok
  ·assumption
  cases hok
 have hR:mN (toP p) i k=((toP p).map<|List.map<|eG i k,true):=by unfold mN;rw [if_pos hc]
 simp only [hR];rw [bae,bae] at hc;obtain ⟨hvb,hbi,hbk⟩:=hc;have hvt:=D7 hbi hbk<|toP p;simp only [Nj,bae,dte] at hbi hbk;obtain ⟨hi0,hi1⟩:=hbi;obtain ⟨hk0,hk1⟩:=hbk;obtain ⟨i,rfl⟩:=SB hi0;obtain ⟨k,rfl⟩:=SB hk0;have hwp:=PW.of hvb;have h3:=hwp.pv.vs.1;have hi2:i<=2:=by omega
 have hk2:k<=2:=by omega
 have hp1:1<=p.length:=by
  have : cK (toP p)=true:=hvb;simp only [cK,bae,dte] at this;have := this.1.2;simp only [toP,llm] at this;omega
 have hvq:cK (toP<|ofP<|(toP p).map<|List.map<|eG i k)=true:=by
  rw [J2,hvt];exact hvb
 have hwq:=PW.of hvq;have hlq:(ofP<|(toP p).map<|List.map<|eG i k).length=p.length:=by simp [ofP,toP]
 have hvalp:aA p=some true:=by
  have : aA p=some (cK<|p.map λr=>r.map fK):=kT<|decide_eq_true hsz;rw [this];exact congrArg some hvb
 have hszq:(ofP<|(toP p).map<|List.map<|eG i k).length<=1048576/\total (ofP<|(toP p).map<|List.map<|eG i k)<=1048576:=by
  have := hq;rw [hR] at this
  dsimp only at this
  have ht:=ve this.2;refine ⟨by omega,?_⟩;have h9:(ofP<|(toP p).map<|List.map<|eG i k).length*9<=81:=by have := this.1;omega
  omega
 have hvalq:aA (ofP<|(toP p).map<|List.map<|eG i k)=some true:=by
  have : aA (ofP<|(toP p).map<|List.map<|eG i k)=some (cK<|(ofP<|(toP p).map<|List.map<|eG i k).map λr=>r.map fK):=kT<|decide_eq_true hszq;rw [this];exact congrArg some hvq
 have hpr:prg (ofP<|(toP p).map<|List.map<|eG i k)=λt=>(prg p t).map (lcX<|sI i k):=by
  have ex:∀ x:Nf,z8 (eG i k<|fK x)=lcX (sI i k) x:=λx=>by
   unfold eG lcX sI fK z8 mH
   by_cases h:x.Op=4
   ·simp [h]
   simp [h]
  have e:ofP ((toP p).map<|List.map<|eG i k)=p.map λr=>r.map (lcX<|sI i k):=by
   unfold ofP toP;rw [SD,SD];refine SE λr _=>?_;simp only [Function.comp,SD];exact SE λx _=>ex x
  funext t
  rw [e];unfold prg;rw [gdq,SK,gdq]
  cases p[t]? <;> rfl
 generalize ofP ((toP p).map<|List.map<|eG i k)=q at hvq hwq hlq hszq hvalq hpr ⊢;have hlx:∀ x:Nf,lcX (sI i k) (lcX (sI i k) x)=x:=λx=>by
  obtain ⟨o,l,r,v⟩:=x;unfold lcX
  by_cases h:o=4
  ·simp [h]
  simp [h,Ah]
 have hprb:prg p=λt=>(prg q t).map (lcX<|sI i k):=by
  rw [hpr]
  funext t
  simp only [SD]
  conv=>lhs;rw [<- Tf (prg p t)]
  exact SE λx _=>(hlx x).symm
 have fw:∀ j o,MO p j o->MO q j (tF p.length 0 0 i k o):=λj o h=>LA hwp hwq hp1 hi2 hk2 hlq hpr h;have bw:∀ j o,MO q j o->MO p j (tF p.length 0 0 i k o):=λj o h=>by
  have := LA hwq hwp (by omega) hi2 hk2 hlq.symm hprb h
  rwa [hlq] at this
 refine Nk.sum (PS:=λ_=>True) (PW:=(· = true)) ?_ λ_ _ => .pure rfl;refine Nk.loop (λz=>0<=z/\z<=4) (λz=>(4-z).toNat) ⟨Sz _,by decide⟩ λz ⟨h1,h2⟩ => ?_;unfold kO;refine .bifD (λhlt=>?_) λ_ => .pure trivial;have hlt4:z<4:=by simpa using hlt
 refine Nk.sum (PS:=λ_=>True) ?_ λ_ _ => .gdI (by omega)<|.pure ⟨⟨by omega,by omega⟩,by omega⟩;obtain ⟨j,rfl⟩:=SB h1;have hj:j<4:=by omega
 refine Nk.mono (P:=(· = .inl ())) (.gdD ⟨h1,hlt⟩ ?_) λz hz=>by subst hz;trivial
 simp only [tnn,H5 hj];refine (Gb hwp hvb hvalp hj).bind λa ha=>(Gb hwq hvq hvalq hj).bind λb' hb' => ?_;have hlen:=H6 ha hb' (fw j) (bw j) (λo ho=>CX hp1 (by omega) (by omega) hi2 hk2 (CY hwp ho).1) λo ho=>CX hp1 (by omega) (by omega) hi2 hk2 (by rw [(CY hwq ho).1,hlq]);refine Nk.sum (PS:=λ_=>True) (PW:=(· = .inl ())) ((MW (f:=tF p.length 0 0 i k) (T:=λo=>eH p o (0:Int) (0:Int) i k) (g:=kN (p,(i:Int),(k:Int)) a b') ha.len hb'.len (hb'.row hwq) (λo ho=>?_) (λo ho=>(hb'.mem _).2<|fw j o<|(ha.mem o).1 ho) λz=>rfl).mono λz hz=>by subst hz;trivial) λ_ _ => .bif (λh=>?_) λ_ => .pure rfl
 ·have hbd:=CY hwp<|(ha.mem o).1 ho;exact FP hvalp h3 hbd.1 hbd.2 (i:=0) (k:=0) (by omega) (by omega) hi2 hk2
 rw [hlen] at h;simp at h
theorem Nq:TyF Tryz.prog 3 false 1:=⟨by kernel_rfl,by kernel_rfl,by kernel_rfl,by kernel_rfl⟩
theorem zs3:TyZ Tryz.prog 3 [I (0:Int)]:=⟨by kernel_rfl,by kernel_rfl⟩
theorem ty4:TyF Tryz.prog 4 false 1:=⟨by kernel_rfl,by kernel_rfl,by kernel_rfl,by kernel_rfl⟩
theorem bt4:nz Tryz.prog 4=true:=by kernel_rfl
theorem Nr:TyF Tryz.prog 5 false 1:=⟨by kernel_rfl,by kernel_rfl,by kernel_rfl,by kernel_rfl⟩
theorem zs5:TyZ Tryz.prog 5 [Y (0:Int)]:=⟨by kernel_rfl,by kernel_rfl⟩
theorem ty9:TyF Tryz.prog 9 false 1:=⟨by kernel_rfl,by kernel_rfl,by kernel_rfl,by kernel_rfl⟩
theorem zs9:TyZ Tryz.prog 9 [St (⟨#[]⟩:ByteArray)]:=⟨by kernel_rfl,by kernel_rfl⟩
theorem zk:TyF Tryz.prog 22 false 1:=⟨by kernel_rfl,by kernel_rfl,by kernel_rfl,by kernel_rfl⟩
theorem MX:TyZ Tryz.prog 22 [.nil]:=⟨by kernel_rfl,by kernel_rfl⟩
theorem Gc:TyF Tryz.prog 24 false 1:=⟨by kernel_rfl,by kernel_rfl,by kernel_rfl,by kernel_rfl⟩
theorem Eg:TyF Tryz.prog 41 false 1:=⟨by kernel_rfl,by kernel_rfl,by kernel_rfl,by kernel_rfl⟩
theorem MZ:TyZ Tryz.prog 41 [.nil]:=⟨by kernel_rfl,by kernel_rfl⟩
theorem Aj:TyF Tryz.prog 66 false 1:=⟨by kernel_rfl,by kernel_rfl,by kernel_rfl,by kernel_rfl⟩
theorem M0:TyZ Tryz.prog 66 [.nil]:=⟨by kernel_rfl,by kernel_rfl⟩
theorem lW:TyF Tryz.prog 69 true 4:=⟨by kernel_rfl,by kernel_rfl,by kernel_rfl,by kernel_rfl⟩
theorem uy:TyZ Tryz.prog 69 [I (0:Int),I (0:Int),I (0:Int),I (0:Int)]:=⟨by kernel_rfl,by kernel_rfl⟩
theorem jY:TyS Tryz.prog 69 [(0,1),(1,1),(2,1),(3,1)]:=⟨by kernel_rfl⟩
theorem M3:TyE Tryz.prog 69:=⟨by kernel_rfl,by kernel_rfl,by kernel_rfl⟩
theorem J7:TyF Tryz.prog 91 false 1:=⟨by kernel_rfl,by kernel_rfl,by kernel_rfl,by kernel_rfl⟩
theorem M4:TyZ Tryz.prog 91 [.v .nilIface]:=⟨by kernel_rfl,by kernel_rfl⟩
theorem M5:TyZ Tryz.prog 99 [.nil,I (0:Int)]:=⟨by kernel_rfl,by kernel_rfl⟩
theorem Eh:TyS Tryz.prog 99 [(0,1),(1,1)]:=⟨by kernel_rfl⟩
theorem uG:TyF Tryz.prog 115 true 3:=⟨by kernel_rfl,by kernel_rfl,by kernel_rfl,by kernel_rfl⟩
theorem Mo:TyZ Tryz.prog 115 [Y (0:Int),Y (0:Int),Y (0:Int)]:=⟨by kernel_rfl,by kernel_rfl⟩
theorem Mq:TyF Tryz.prog 116 true 9:=⟨by kernel_rfl,by kernel_rfl,by kernel_rfl,by kernel_rfl⟩
theorem LC:TyF Tryz.prog 118 true 16:=⟨by kernel_rfl,by kernel_rfl,by kernel_rfl,by kernel_rfl⟩
theorem H9:TyZ Tryz.prog 118 [.nil,Y (0:Int),Y (0:Int),Y (0:Int),Y (0:Int),Y (0:Int),Y (0:Int),Y (0:Int),Y (0:Int),Y (0:Int),Y (0:Int),Y (0:Int),Y (0:Int),Y (0:Int),Y (0:Int),Y (0:Int)]:=⟨by kernel_rfl,by kernel_rfl⟩
theorem jS:TyS Tryz.prog 118 [(0,1),(1,3),(4,9),(13,3)]:=⟨by kernel_rfl⟩
theorem LD:TyF Tryz.prog 120 true 16:=⟨by kernel_rfl,by kernel_rfl,by kernel_rfl,by kernel_rfl⟩
theorem LF:TyZ Tryz.prog 120 [.nil,Y (0:Int),Y (0:Int),Y (0:Int),Y (0:Int),Y (0:Int),Y (0:Int),Y (0:Int),Y (0:Int),Y (0:Int),Y (0:Int),Y (0:Int),Y (0:Int),Y (0:Int),Y (0:Int),Y (0:Int)]:=⟨by kernel_rfl,by kernel_rfl⟩
theorem Gd:TyS Tryz.prog 120 [(0,16)]:=⟨by kernel_rfl⟩
theorem bq:TyF Tryz.prog 127 false 1:=⟨by kernel_rfl,by kernel_rfl,by kernel_rfl,by kernel_rfl⟩
theorem J8:TyF Tryz.prog 128 true 3:=⟨by kernel_rfl,by kernel_rfl,by kernel_rfl,by kernel_rfl⟩
theorem cg:TyF Tryz.prog 129 true 3:=⟨by kernel_rfl,by kernel_rfl,by kernel_rfl,by kernel_rfl⟩
theorem J9:TyZ Tryz.prog 129 [Y (0:Int),Y (0:Int),Y (0:Int)]:=⟨by kernel_rfl,by kernel_rfl⟩
theorem Mr:TyF Tryz.prog 130 true 9:=⟨by kernel_rfl,by kernel_rfl,by kernel_rfl,by kernel_rfl⟩
theorem LG:TyF Tryz.prog 132 true 28:=⟨by kernel_rfl,by kernel_rfl,by kernel_rfl,by kernel_rfl⟩
theorem LH:TyZ Tryz.prog 132 [.nil,Y (0:Int),Y (0:Int),Y (0:Int),Y (0:Int),Y (0:Int),Y (0:Int),Y (0:Int),Y (0:Int),Y (0:Int),Y (0:Int),Y (0:Int),Y (0:Int),Y (0:Int),Y (0:Int),Y (0:Int),.nil,.nil,.nil,Y (0:Int),Y (0:Int),Y (0:Int),Y (0:Int),Y (0:Int),Y (0:Int),Y (0:Int),Y (0:Int),Y (0:Int)]:=⟨by kernel_rfl,by kernel_rfl⟩
theorem cu:TyS Tryz.prog 132 [(0,16),(16,3),(19,9)]:=⟨by kernel_rfl⟩
theorem Gf:TyF Tryz.prog 134 true 5:=⟨by kernel_rfl,by kernel_rfl,by kernel_rfl,by kernel_rfl⟩
theorem xj:TyZ Tryz.prog 134 [Y (0:Int),Bo false,Y (0:Int),Y (0:Int),Y (0:Int)]:=⟨by kernel_rfl,by kernel_rfl⟩
theorem jT:TyS Tryz.prog 134 [(0,1),(1,1),(2,3)]:=⟨by kernel_rfl⟩
theorem uH:TyF Tryz.prog 150 false 1:=⟨by kernel_rfl,by kernel_rfl,by kernel_rfl,by kernel_rfl⟩
theorem LJ:TyF Tryz.prog 152 true 18:=⟨by kernel_rfl,by kernel_rfl,by kernel_rfl,by kernel_rfl⟩
theorem LK:TyZ Tryz.prog 152 [.nil,Y (0:Int),Y (0:Int),Y (0:Int),Y (0:Int),Y (0:Int),Y (0:Int),Y (0:Int),Y (0:Int),Y (0:Int),Y (0:Int),Y (0:Int),Y (0:Int),Y (0:Int),Y (0:Int),Y (0:Int),Bo false,.nil]:=⟨by kernel_rfl,by kernel_rfl⟩
theorem nP:TyS Tryz.prog 152 [(0,16),(16,1),(17,1)]:=⟨by kernel_rfl⟩
theorem ou:SlT Tryz.prog 22 5 false 1 [Y (0:Int)] 1:=⟨Tryz.underlying22,Nr,zs5,rfl,rfl,by kernel_rfl⟩
theorem kF:SlT Tryz.prog 24 66 false 1 [.nil] 24:=⟨Tryz.underlying24,Aj,M0,rfl,rfl,by kernel_rfl⟩
theorem wT:SlT Tryz.prog 34 41 false 1 [.nil] 24:=⟨Tryz.underlying34,Eg,MZ,rfl,rfl,by kernel_rfl⟩
theorem BL:SlT Tryz.prog 40 9 false 1 [St (⟨#[]⟩:ByteArray)] 16:=⟨Tryz.underlying40,ty9,zs9,rfl,rfl,by kernel_rfl⟩
theorem j3:SlT Tryz.prog 41 3 false 1 [I (0:Int)] 8:=⟨Tryz.underlying41,Nq,zs3,rfl,rfl,by kernel_rfl⟩
theorem sG:SlT Tryz.prog 66 69 true 4 [I (0:Int),I (0:Int),I (0:Int),I (0:Int)] 32:=⟨Tryz.underlying66,lW,uy,rfl,rfl,by kernel_rfl⟩
theorem yY:KeyA Tryz.prog 9 1 sP:=KL Tryz.underlying9
theorem mK:SlT Tryz.prog 110 91 false 1 [.v .nilIface] 16:=⟨Tryz.underlying110,J7,M4,rfl,rfl,by kernel_rfl⟩
theorem fG:SlT Tryz.prog 127 134 true 5 [Y (0:Int),Bo false,Y (0:Int),Y (0:Int),Y (0:Int)] 5:=⟨Tryz.underlying127,Gf,xj,rfl,rfl,by kernel_rfl⟩
theorem qh:SlT Tryz.prog 150 22 false 1 [.nil] 24:=⟨Tryz.underlying150,zk,MX,rfl,rfl,by kernel_rfl⟩
section
variable {P:Program} {o:Oper} {ρ ρ':Operand->AV} {H:AH} {K K':AV->AH->Prop}
theorem OpG.congr {R:AV->AH->Prop} (h:OpG P o ρ H R) (he:∀ x∈o.op.operands,ρ x=ρ' x):OpG P o ρ' H R:=
 λc a K Q hH hr hxs hK=>h c a K Q hH hr (λx hx=>by rw [he x hx];exact hxs x hx) hK
theorem OpG.mono {R R':AV->AH->Prop} (h:OpG P o ρ H R) (hR:∀ r G,R r G->R' r G):OpG P o ρ H R':=
 λc a K Q hH hr hxs hK=>h c a K Q hH hr hxs λv c' r hr1 hr2 hr3 hr4=>hK v c' r (hR _ _ hr1) hr2 hr3 hr4
theorem M7.opG {r:AV} {H':AH} (h:M7 P o ρ H r H'):OpG P o ρ H λr' G=>r'=r/\G=H':=
 λc a K Q hH hr hxs hK=>h c a K Q hH hr hxs λv c' hc hr2 hr3 hr4=>hK v c' r ⟨rfl,hc⟩ hr2 hr3 hr4
abbrev Xc:=Bool×List Nat
def agr (F:List Nat) (G H:AH):Prop:=∀ b∈F,G[b]? = H[b]?
theorem agr.a0 {b:Nat} {F:List Nat} {G H:AH} (h:agr (b::F) G H) {x:Option ABlk} (hx:H[b]? = some x):G[b]? = some x:=(h b<|by simp).trans hx
theorem agr.a1 {b c:Nat} {F:List Nat} {G H:AH} (h:agr (c::b::F) G H) {x:Option ABlk} (hx:H[b]? = some x):G[b]? = some x:=(h b<|by simp).trans hx
theorem agr.a2 {a b c:Nat} {F:List Nat} {G H:AH} (h:agr (a::c::b::F) G H) {x:Option ABlk} (hx:H[b]? = some x):G[b]? = some x:=(h b<|by simp).trans hx
def qR (W:List Nat) (H H':AH):Prop:=∀ b,b<H.length->b∉W->H'[b]? = H[b]?
theorem lH {b:Nat} {X:Option ABlk}:qR [b] H (H.set b X):=λc _ hc=>List.getElem?_set_ne λe=>hc (by simp [e])
theorem Ia {L:AH}:qR [] H (H++L):=λ_ hb _=>gal hb
def wF (P:Program) (o:Oper) (ρ:Operand->AV) (H:AH) (b:Xc) (K:AV->AH->Prop):Prop:=match b.1 with
 | false=>∃ r,(∀ c∈b.2,c<H.length)/\(∀ G,agr b.2 G H->M7 P o ρ G r G)/\K r H
 | true=>OpG P o ρ H λr H'=>qR b.2 H H'/\K r H'
theorem wF.mono {b:Xc} (h:wF P o ρ H b K) (hK:∀ r G,K r G->K' r G):wF P o ρ H b K':=by
 obtain ⟨b,F⟩:=b
 cases b with
 | false=>
  obtain ⟨r,h0,h1,h2⟩:=h;exact ⟨r,h0,h1,hK _ _ h2⟩
 | true=>
  show OpG P o ρ H λr H'=>qR F H H'/\K' r H';exact OpG.mono (R:=λr H'=>qR F H H'/\K r H') h λr G hr=>⟨hr.1,hK _ _ hr.2⟩
theorem wF.congr {b:Xc} (h:wF P o ρ H b K) (he:∀ x∈o.op.operands,ρ x=ρ' x):wF P o ρ' H b K:=by
 obtain ⟨b,F⟩:=b
 cases b with
 | false=>
  obtain ⟨r,h0,h1,h2⟩:=h;exact ⟨r,h0,λG hG=>(h1 G hG).congr he,h2⟩
 | true=>
  show OpG P o ρ' H λr H'=>qR F H H'/\K r H';exact OpG.congr (R:=λr H'=>qR F H H'/\K r H') h he
theorem wF.opG {b:Xc} (h:wF P o ρ H b K):OpG P o ρ H K:=by
 obtain ⟨b,F⟩:=b
 cases b with
 | false=>
  obtain ⟨r,_,h1,h2⟩:=h;refine (M7.opG<|h1 H λ_ _=>rfl).mono ?_;rintro r' G ⟨rfl,rfl⟩;exact h2
 | true=>exact OpG.mono (R:=λr H'=>qR F H H'/\K r H') h λr G hr=>hr.2
def Ib (a b:Xc):Bool := !b.1||a.2.all λx => !b.2.contains x
def Ic (P:Program) (ops:Array Oper) (cls:Nat->Xc) (Q:Env->AH->Prop):Nat->Array Bool->Env->AH->Prop
 | 0,listed,e,H=>Region.ready .any ops listed=[]/\Q e H
 | fuel+1,listed,e,H=>(Region.ready .any ops listed=[]->Q e H) /\
  ∀ i∈Region.ready .any ops listed,∃ o,ops[i]? = some o/\wF P o (rho e) H (cls i) λr H'=>Ic P ops cls Q fuel (listed.setIfInBounds i true) (ng e o.dst r) H'
theorem D9 {ops:Array Oper} {cls:Nat->Xc} {Q:Env->AH->Prop} {i:Nat} {oi:Oper} {r:AV} {F:List Nat} (hi:ops[i]? = some oi) (hci:cls i=(false,F)) :
  ∀ (fuel:Nat) (listed:Array Bool) (e:Env) (H:AH),
   (∀ (j:Nat) (oj:Oper),ops[j]? = some oj->j≠i->listed.getD j true=false->(∀ ed∈oj.after,Region.binds .any ed=true->ed.on≠i)->oi.apart ops oj=true/\Ib (cls i) (cls j)=true) ->
   i∈Region.ready .any ops listed->(∀ c∈F,c<H.length)->(∀ G,agr F G H->M7 P oi (rho e) G r G)->Ic P ops cls Q fuel (listed.setIfInBounds i true) (ng e oi.dst r) H->Ic P ops cls Q (fuel+1) listed e H:=by
 intro fuel
 induction fuel with
 | zero=>
  intro listed e H _ hr hF hy hA;refine ⟨λh=>(by rw [h] at hr;cases hr),λj hj=>?_⟩
  by_cases hji:j=i
  ·subst hji;exact ⟨oi,hi,by rw [hci];exact ⟨r,hF,hy,hA⟩⟩
  have := ready_mono hj hji;rw [hA.1] at this
  cases this
 | succ fuel ih=>
  intro listed e H hfree hr hF hy hA;refine ⟨λh=>(by rw [h] at hr;cases hr),λj hj=>?_⟩
  by_cases hji:j=i
  ·subst hji;exact ⟨oi,hi,by rw [hci];exact ⟨r,hF,hy,hA⟩⟩
  obtain ⟨oj,hoj,hsj⟩:=hA.2 j<|ready_mono hj hji;obtain ⟨hjun,oj',hoj',hall⟩:=mem_ready.1 hj;rw [hoj] at hoj';injection hoj' with hoj';subst hoj';have hnot:∀ ed∈oj.after,Region.binds .any ed=true->ed.on≠i:=λed he hb heq=>by
   have h1:=hall ed he hb;have h0:=(mem_ready.1 hr).1;rw [heq] at h1;rcases S5 i listed.size with h' | h'
   ·simp [h'] at h0 h1;rw [h0] at h1;cases h1
   simp [Array.getElem?_eq_none h'] at h1
  obtain ⟨hap,hcm⟩:=hfree j oj hoj hji hjun hnot;obtain ⟨h1,h2,h3⟩:=Oper.apart_spec hap;have ej:=rE (e:=e) (r:=r) h1;have hfree':∀ (k:Nat) (ok:Oper),ops[k]? = some ok->k≠i->(listed.setIfInBounds j true).getD k true=false->(∀ ed∈ok.after,Region.binds .any ed=true->ed.on≠i)->oi.apart ops ok=true/\Ib (cls i) (cls k)=true:=λk ok hk hki hun hno=>by
   refine hfree k ok hk hki ?_ hno
   by_cases hjk:j=k
   ·subst hjk;exact hjun
   rw [getD_set_ne true hjk] at hun;exact hun
  have hsj':=hsj.congr ej;have go:∀ q Hj,(∀ c∈F,c<Hj.length)->(∀ c∈F,Hj[c]? = H[c]?)->Ic P ops cls Q fuel ((listed.setIfInBounds i true).setIfInBounds j true) (ng (ng e oi.dst r) oj.dst q) Hj->Ic P ops cls Q (fuel+1) (listed.setIfInBounds j true) (ng e oj.dst q) Hj:=λq Hj hF' hHj hAj=>by
   have ei:=rE (e:=e) (oi:=oj) (r:=q) h3;refine ih (listed.setIfInBounds j true) (ng e oj.dst q) Hj hfree' (ready_mono hr<|Ne.symm hji) hF' (λG hG=>(hy G λc hc=>(hG c hc).trans<|hHj c hc).congr λx hx=>(ei x hx).symm) ?_;rw [Array.setIfInBounds_comm _ _ hji,zz (λd hd=>λhd'=>h2 d (by simpa using hd')<|by simpa using hd)];exact hAj
  refine ⟨oj,hoj,?_⟩;rw [hci] at hcm;generalize cls j=cj at hsj' hcm ⊢;obtain ⟨b,W⟩:=cj
  cases b with
  | false=>
   obtain ⟨q,q0,q1,q2⟩:=hsj';exact ⟨q,q0,q1,go q H hF (λ_ _=>rfl) q2⟩
  | true=>
   simp only [Ib,Bool.not_true,Bool.false_or,Ti,S0,Tp,decide_eq_false_iff_not] at hcm;show OpG P oj (rho e) H λr1 H1=>qR W H H1/\Ic P ops cls Q (fuel+1) (listed.setIfInBounds j true) (ng e oj.dst r1) H1;refine OpG.mono (R:=λr1 H1=>qR W H H1/\Ic P ops cls Q fuel ((listed.setIfInBounds i true).setIfInBounds j true) (ng (ng e oi.dst r) oj.dst r1) H1) hsj' λq Hj ⟨k1,k2⟩=>⟨k1,go q Hj (λc hc=>?_) (λc hc=>k1 c (hF c hc)<|hcm c hc) k2⟩;have := k1 c (hF c hc)<|hcm c hc;rw [geq (hF c hc)] at this;exact (ges this).1
def LM (ops:Array Oper) (cls:Nat->Xc):List Nat->Array Bool->Bool
 | [],listed=>(Region.ready .any ops listed).isEmpty
 | i::l,listed=>(match ops[i]? with
  | some oi=>if (cls i).1 then Region.ready .any ops listed==[i] else (Region.ready .any ops listed).contains i&&(SR ops.size).all λj=>j==i||listed.getD j true||(match ops[j]? with
   | some oj=>(oj.after.any λed=>Region.binds .any ed&&ed.on==i)||(oi.apart ops oj&&Ib (cls i) (cls j))
   | none=>true)
  | none=>false)&&LM ops cls l (listed.setIfInBounds i true)
def TX (P:Program) (ops:Array Oper) (cls:Nat->Xc):List Nat->(Env->AH->Prop)->Env->AH->Prop
 | [],K,e,H=>K e H
 | i::l,K,e,H=>∃ o,ops[i]? = some o/\wF P o (rho e) H (cls i) λr H'=>TX P ops cls l K (ng e o.dst r) H'
theorem BM {ops:Array Oper} {cls:Nat->Xc} {Q:Env->AH->Prop}:∀ (l:List Nat) (listed:Array Bool) (e:Env) (H:AH),LM ops cls l listed=true->TX P ops cls l Q e H->Ic P ops cls Q l.length listed e H
 | [],listed,e,H,hc,h=>⟨by simpa [LM] using hc,h⟩
 | i::l,listed,e,H,hc,h=>by
  obtain ⟨oi,hi,hs⟩:=h;simp only [LM,hi,bae] at hc;obtain ⟨hc1,hc2⟩:=hc;generalize hci:cls i=ci at hc1 hs;obtain ⟨b,F⟩:=ci
  cases b with
  | true=>
   simp only [if_true,beq_iff_eq] at hc1;refine ⟨λhn=>(by rw [hc1] at hn;cases hn),λj hj=>?_⟩;rw [hc1,SV] at hj;subst hj;exact ⟨oi,hi,by rw [hci];exact wF.mono (b:=(true,F)) hs λr G hr=>BM l _ _ _ hc2 hr⟩
  | false=>
   obtain ⟨r,hF,hy,hK⟩:=hs;simp only [Bool.false_eq_true,if_false,bae,Tp,dte,Ti,SC] at hc1;refine D9 hi hci l.length listed e H (λj oj hj hne hun hno=>?_) hc1.1 hF hy<|BM l _ _ _ hc2 hK;have hjs:j<ops.size:=(Tq.1 hj).1;have := hc1.2 j hjs;simp only [hj,hun,SU,beq_iff_eq,hne,false_or,Bool.false_eq_true,bae] at this;rw [hci];rcases this with h1 | h1
   ·rw [Array.any_eq_true'] at h1;obtain ⟨ed,h2,h3⟩:=h1;simp only [bae,beq_iff_eq] at h3;exact absurd h3.2<|hno ed h2 h3.1
   exact h1
theorem yh {nt:Nat} {ops:Array Oper} {cls:Nat->Xc} {Q:Exit->Env->AH->Prop} (hd:EA nt ops.toList=true) (hg:ops.all (λo=>o.guard.isNone)=true):∀ (fuel:Nat) (listed:Array Bool) (e:Env) (H:AH),Ic P ops cls (Q .normal) fuel listed e H ->
  ∀ (c c0:Cx) (a:Act),c.H=H->Ext c0 c->SRel c nt e a->wpAny P .any ops (KC nt c0 Q) fuel listed a c.w
 | 0,listed,e,H,h,c,c0,a,hH,hx,hs=>⟨h.1,trivial,c,e,rfl,hx,hs,hH ▸ h.2⟩
 | fuel+1,listed,e,H,h,c,c0,a,hH,hx,hs=>by
  refine ⟨λhr=>⟨trivial,c,e,rfl,hx,hs,hH ▸ h.1 hr⟩,λi hi=>?_⟩;obtain ⟨o,ho,hst⟩:=h.2 i hi;have hm:o∈ops.toList:=by rw [Array.mem_toList_iff];exact Array.mem_of_getElem? ho
  have hgn:o.guard=none:=by
   rw [Array.all_eq_true] at hg;obtain ⟨hlt,rfl⟩:=Tq.1 ho;simpa using hg i hlt
  have hw:Region.wanted o (yielded ops a.tmps)=true:=by simp [Region.wanted,hgn]
  unfold wpOp;simp only [ho];rw [if_pos hw];refine .inl<|hst.opG c a _ _ hH hs.heap (λx _=>hs.rho x) λv c' r hA hr' hx' hv=>?_;exact yh hd hg fuel _ _ _ hA c' c0 _ rfl (hx.trans hx')<|hs.put o.dst (mQ hd hm) hx' hr' hv
end
section
variable {P:Program} {nt b0:Nat} {Q:Exit->Env->AH->Prop} {e:Env} {H H':AH} {r:AV}
theorem T.drawX {i:Nat} {ops:Array Oper} (ord:List Nat) (cls:Nat->Xc) (hm:P.follows .mixedOrders=true) (hg:ops.all (λo=>o.guard.isNone)=true) (hc:(LM ops cls ord (Array.replicate ops.size false)&&(ord.length==ops.size))=true) (h:TX P ops cls ord (Q .normal) e H):T P nt b0 (.region i ops true) Q e H:=by
 intro hok c c0 a hH hb hx hs;simp only [codeOk] at hok;simp only [bae,beq_iff_eq] at hc;refine wp_region_any hm ?_;have hlex:=BM ord (Array.replicate ops.size false) e H hc.1 h;have := yh hok hg ord.length _ e H hlex c.drew c0 a hH (hx.trans c.drew_ext) ⟨hs.size,hs.defers,λt=>(hs.rel t).ext hs.heap c.drew_ext,Cx.drew_rel hs.heap⟩;rw [hc.2] at this;exact this
variable {d:Tmp} {op:Op} {ty:TypeId} {pos:String} {af:Array Edge} {en:List (Nat×AV)} {cls:Nat->Xc} {ops:Array Oper} {i:Nat} {K:Env->AH->Prop} {l:List Nat}
theorem TX.nil (h:K e H):TX P ops cls [] K e H:=h
theorem xN (h0:ops[i]? = some ⟨some d,op,ty,pos,af,none⟩) (hc:cls i=(false,[])) (hv:Na P (rho<|ax en) op r) (h:TX P ops cls l K (ax ((d,r)::en)) H):TX P ops cls (i::l) K (ax en) H:=
 ⟨_,h0,by rw [hc];exact ⟨r,λ_ h=>(by cases h),λG _=>hv _ rfl G,h⟩⟩
theorem xR (F:List Nat) (h0:ops[i]? = some ⟨some d,op,ty,pos,af,none⟩) (hc:cls i=(false,F)) (hb:F.all (λb=>Nat.blt b H.length)=true) (hv:∀ G,agr F G H->EvA P (rho<|ax en) op G r G) (h:TX P ops cls l K (ax ((d,r)::en)) H):TX P ops cls (i::l) K (ax en) H:=
 ⟨_,h0,by rw [hc];exact ⟨r,λb hm=>nlb<|Ti.1 hb b hm,λG hG=>hv G hG _ rfl,h⟩⟩
theorem xT {W:List Nat} {o:Oper} {R:AV->AH->Prop} {e:Env} (h0:ops[i]? = some o) (hc:cls i=(true,W)) (hv:OpG P o (rho e) H R) (hk:∀ r G,R r G->qR W H G/\TX P ops cls l K (ng e o.dst r) G):TX P ops cls (i::l) K e H:=by
 refine ⟨o,h0,?_⟩;rw [hc];exact OpG.mono (R':=λr H'=>qR W H H'/\TX P ops cls l K (ng e o.dst r) H') hv hk
theorem xA {W:List Nat} (h0:ops[i]? = some ⟨some d,op,ty,pos,af,none⟩) (hc:cls i=(true,W)) (hv:EvA P (rho<|ax en) op H r H') (hk:qR W H H') (h:TX P ops cls l K (ax ((d,r)::en)) H'):TX P ops cls (i::l) K (ax en) H:=
 xT h0 hc (M7.opG<|hv ⟨some d,op,ty,pos,af,none⟩ rfl) λr' G hG=>by obtain ⟨e1,e2⟩:=hG;subst e1 e2;exact ⟨hk,h⟩
theorem xV {W:List Nat} (h0:ops[i]? = some ⟨none,op,ty,pos,af,none⟩) (hc:cls i=(true,W)) (hv:EvA P (rho<|ax en) op H r H') (hk:qR W H H') (h:TX P ops cls l K (ax en) H'):TX P ops cls (i::l) K (ax en) H:=
 xT h0 hc (M7.opG<|hv ⟨none,op,ty,pos,af,none⟩ rfl) λr' G hG=>by obtain ⟨e1,e2⟩:=hG;subst e1 e2;exact ⟨hk,h⟩
theorem xG {cl:Call} {f:Operand} {g:FuncId} {kG Ns:List AV} {w m:Nat} {ety:TypeId} {mk:AV->AV} {n:Nat} {rows:List (List AV)} (h0:ops[i]? = some ⟨some d,.call cl,ty,pos,af,none⟩) (hci:cls i=(true,[])) (hc:cl.callee = .value f) (hf:rho (ax en) f = .fn (.func g) kG) (ha:cl.args.toList.map (rho<|ax en)++kG=Ns)
  (h:cT P g Ns H<|zJ w ety mk n rows m H) (k:∀ g ver,(g=true->n=0)->TX P ops cls l K (ax ((d,mk<|hS g m ver w n)::en)) (H++[bE g ver w ety rows])):TX P ops cls (i::l) K (ax en) H:=by
 subst ha;exact xT h0 hci (nG rfl hc hf h) λr' G ⟨g',oL,hg,hr,hH⟩=>by
  subst hr hH;exact ⟨Ia,k g' oL hg⟩
theorem xGW {cl:Call} {f:Operand} {g:FuncId} {kG as0:List AV} {b w0 ver w:Nat} {g0:Bool} {ty0 ty1:TypeId} {l5 rows:List (List AV)} {mk:AV->AV} {n:Nat} (h0:ops[i]? = some ⟨some d,.call cl,ty,pos,af,none⟩) (hci:cls i=(true,[b])) (hc:cl.callee = .value f) (hf:rho (ax en) f = .fn (.func g) kG)
  (h:cT P g as0 [bE g0 ver w0 ty0 l5]<|zJ w ty1 mk n rows 0 []) (hb:H[b]? = some (bE g0 ver w0 ty0 l5)) (has:RenL (λc i=>[b][i]? = some c) (cl.args.toList.map (rho<|ax en)++kG) as0) (hk0:∀ r∈l5,∀ a∈r,isF 9 a=true) (hk:∀ r∈rows,∀ a∈r,isF 9 a=true)
  (hmk:∀ (S:Nat->Nat->Prop) (a b:AV),Ren S a b->Ren S (mk a) (mk b)) (k:∀ g' oL,(g'=true->n=0)->TX P ops cls l K (ax ((d,mk<|hS g' b oL w n)::en)) (H.set b<|bE g' oL w ty1 rows)):TX P ops cls (i::l) K (ax en) H:=
 xT h0 hci (nG rfl hc hf<|h.wown hb has hk0 hk hmk) λr' G ⟨g',oL,hg,hr,hH⟩=>by
  subst hr hH;exact ⟨lH,k g' oL hg⟩
end
def EqS (a b:AV):Prop:=∀ (w:World) (fz:Nat->Prop) (v:Value),FRel w fz a v->FRel w fz b v
def Ie:List AV->List AV->Prop
 | [],[]=>True
 | a::r,b::q=>EqS a b/\Ie r q
 | _,_=>False
theorem Ie.len:∀ {r q:List AV},Ie r q->r.length=q.length
 | [],[],_=>rfl
 | a::r,b::q,h=>by rw [llc,llc,Ie.len h.2]
 | [],_::_,h=>h.elim
 | _::_,[],h=>h.elim
theorem Ie.get:∀ {r q:List AV},Ie r q->∀ {j:Nat} {b:AV},q[j]? = some b->∃ a,r[j]? = some a/\EqS a b
 | [],[],_,j,b,h=>by simp at h
 | a::r,b::q,h,0,c,hc=>by
  simp only [List.getElem?_cons_zero,sie] at hc;subst hc;exact ⟨a,rfl,h.1⟩
 | a::r,b::q,h,j+1,c,hc=>by
  simp only [List.getElem?_cons_succ] at hc ⊢;exact h.2.get hc
 | [],_::_,h,_,_,_=>h.elim
 | _::_,[],h,_,_,_=>h.elim
theorem EqS.sl {n:Nat} {row row':Nat->List AV} (he:∀ i,i<n->Ie (row i) (row' i)):EqS (.sl n row) (.sl n row'):=λw fz v h=>by
 cases h with
 | @sl _ cap s g o _ a us hc hm ha hs hu h1 h3=>
  refine .sl (s:=s) (g:=g) (o:=o) us hc hm ha (λi hi=>?_) (λi j b hi hj=>?_) (λi j b hi hj=>?_) λi j b hi hj=>?_
  ·rw [<- (he i hi).len];exact hs i hi
  ·obtain ⟨a',ha',_⟩:=(he i hi).get hj;exact hu i j a' hi ha'
  ·obtain ⟨a',ha',_⟩:=(he i hi).get hj;exact h1 i j a' hi ha'
  obtain ⟨a',ha',e⟩:=(he i hi).get hj;exact e _ _ _<|h3 i j a' hi ha'
theorem EqS.fp {row row':List AV} (he:Ie row row') {j:Nat}:EqS (.fp row j) (.fp row' j):=λw fz v h=>by
 cases h with
 | fp us hg hlt hu h1 h3=>
  refine .fp us hg hlt (λj b hj=>?_) (λj b hj=>?_) λj b hj=>?_
  ·obtain ⟨a',ha',_⟩:=he.get hj;exact hu j a' ha'
  ·obtain ⟨a',ha',_⟩:=he.get hj;exact h1 j a' ha'
  obtain ⟨a',ha',e⟩:=he.get hj;exact e _ _ _<|h3 j a' ha'
theorem EqS.eL {α β:Type} [Inhabited α] [Inhabited β] {f:α->List AV} {g:β->List AV} {i:α->β} (h:∀ x,Ie (f x)<|g<|i x) (l:List α):EqS (eL f l) (eL g<|l.map i):=by
 unfold Go.Proofs.YtjcmfddobaplbaaGreat.eL;rw [llm];refine .sl λk hk=>?_;have e1:l.getD k default=l[k]:=by rw [gdq,geq hk];rfl
 have e2:(l.map i).getD k default=i l[k]:=by rw [gdq,SK,geq hk];rfl
 rw [e1,e2];exact h _
section
variable {P:Program} {ρ:Operand->AV} {x:Operand} {t e:TypeId} {ag:Bool}
end
section
variable {P:Program} {ρ:Operand->AV} {H:AH}
end
open Go.ChangeShapes Go.WideShapes Go.ChangeAt Go.RowKit
theorem rV (x:Int) (b:Bool) (hb:Nj x 2=b) (w:World):Calls Tryz.prog 72 #[.int .i64 x] w λe w'=>e = .returned (.bool b)/\w=w':=by
 have HW:Hid ((decide ((0:Int)<=x)&&decide (x<=2))=b):=hb;clear hb
 go_enter Tryz.func72,Tryz.ntmps72
 go_wp2_with (go_at_call 47;refine (dN _ _ _ _ HW.out _).mono ?_;rintro e w2 ⟨rfl,rfl⟩)
 go_ret
 exact ⟨rfl,rfl⟩
set_option maxHeartbeats 2000000 in
theorem tO {lo hi:Nat} {u:Value} {p:List (List Ins)} {w:World} (i k:Int) (hu:sD Ins.cells 4 w lo hi u p) (hhi:hi<=w.heap.size) (ht:total p<=1048576) (hp:p.length<=1048576) :
  Calls Tryz.prog 28 #[u,.int .i64 i,.int .i64 k] w λe w'=>(∃ v,e = .returned (.tuple #[v,.bool (mN p i k).2])/\nY Ins.cells 4 66 69 w' w.heap.size w'.heap.size v (mN p i k).1)/\Below w.heap.size w w':=by
 have HU:=Lib.hid hu;clear hu;have PV:=Lib.hid<|kI (w:=w) HU.out hhi ht
 by_cases hv:cK p=true
 ·rw [hv] at PV
  by_cases h1:Nj i 2=true
  ·have L1:=Lib.hid λW=>rV i true h1 W
   by_cases h2:Nj k 2=true
   ·have L2:=Lib.hid λW=>rV k true h2 W;have hr:mN p i k=(p.map<|List.map<|eG i k,true):=by unfold mN;rw [hv,h1,h2];rfl
    rw [hr];clear hr hv h1 h2
    go_enter Tryz.func28,Tryz.ntmps28
    go_wp2_with fail
    refine PV.out.mono ?_;rintro e w1 ⟨rfl,hb1⟩
    go_wp2_with fail
    refine (L1.out _).mono ?_;rintro e w2 ⟨rfl,rfl⟩
    go_wp2_with fail
    refine (L2.out _).mono ?_;rintro e w2 ⟨rfl,rfl⟩;have s1:=hb1.size
    go_wp2_with fail
    refine (uC (HU.out.below hb1 hhi) (by omega) hp ht).mono ?_;rintro e w3 ⟨⟨g,cs,V,rfl,hB,hg,hcs,hrow,hsep⟩,hb3⟩;have hM:=nY.made2 (f:=Ins.cells) (s:=4) (ti:=69) (p:=p) (c:=p.length) hB (lo:=w1.heap.size) (hi:=w3.heap.size) ⟨hg,hB.lt⟩ hcs (SF _) (by omega) hrow hsep;have HM:=Lib.hid hM;clear hM hrow hsep hcs;have hgl:=hB.lt;clear hB;have s3:=hb3.size;have TN:=Lib.hid λx W=>DF x i k W;have HF1:Hid (∀ x:Ins,x.op=4->eG i k x=x):=λx hx=>by unfold eG;rw [if_pos hx]
    have HF2:Hid (∀ x:Ins,¬ x.op=4->eG i k x=⟨x.op,mH x.loc i k,x.reg,x.val⟩):=λx hx=>by unfold eG;rw [if_neg hx]
    obtain ⟨f,hf⟩:∃ f,eG i k=f:=⟨_,rfl⟩;have HFE:=Lib.hid hf;rw [hf] at HF1 HF2;clear hf
    go_wp2_with fail
    go_loopw [30] (λiv wr=>∃ k:Nat,k<=p.length/\iv = .int .i64 k/\Below w.heap.size w wr/\w3.heap.size<=wr.heap.size /\
      nY Ins.cells 4 66 69 wr w1.heap.size w3.heap.size (.slice (some ⟨g,0,none⟩) p.length p.length) (fD f k p)) (λiv _=>p.length-(intOf iv).toNat)
    case atStart=>exact ⟨0,SG _,rfl,hb1.trans<|hb3.mono s1,SF _,by rw [uq];exact HM.out⟩
    case round=>
     obtain ⟨q,hq,rfl,hb,hs,hO⟩:=hrel
     by_cases hlt:q<p.length
     ·obtain ⟨go,co,ct,At,he,_,_,_,hcell⟩:=hO.hdr q p[q]<|tG q p hlt;injection he with he1 he2 he3;injection he1 with he1;injection he1 with he1;subst he1;clear he2 he3;have HO:=Lib.hid hO;clear hO;have i1:(0:Int)<=(q:Int):=by omega
      have i2:(q:Int)<(p.length:Int):=by omega
      have hrl:p[q].length<=1048576:=SJ (mg p q hlt) ht;obtain ⟨wo,rfl⟩:∃ wo:World,wo=wr:=⟨_,rfl⟩
      go_wp2_with fail
      go_loopw [36] (λiv w2=>∃ n:Nat,n<=p[q].length/\iv = .int .i64 n/\Below w.heap.size w w2/\w3.heap.size<=w2.heap.size /\
        nY Ins.cells 4 66 69 w2 w1.heap.size w3.heap.size (.slice (some ⟨g,0,none⟩) p.length p.length) ((fD f q p).set q<|gY f n p[q]) /\
        w2.cell? ⟨g,q,none⟩=some (.slice At p[q].length ct)) (λiv _=>p[q].length-(intOf iv).toNat)
      case atStart=>exact ⟨0,SG _,rfl,hb,hs,by rw [vZ,Aa _ _ _ (tG q p hlt)];exact HO.out,hcell⟩
      case round=>
       obtain ⟨n,hn,rfl,hb2,hs2,hO2,hcell2⟩:=hrel
       by_cases hln:n<p[q].length
       ·have hget:((fD f q p).set q<|gY f n p[q])[q]? = some (gY f n p[q]):=by
         rw [Tt (by rw [kv];exact hlt)]
        obtain ⟨go',co',gt,ct',cur,he,_,_,_,hgg,hg1,hg2,hcl,hBt,hsz,hct,hhas,hset⟩:=hO2.openRow2 (by decide) q _ hget (by rw [bG];omega);rw [bG] at hcl hct;injection he with he1 he2 he3;injection he1 with he1;injection he1 with he1;subst he1;rw [hcl] at hcell2;injection hcell2 with hc2;injection hc2 with hc3 hc4 hc5;subst hc3 hc5;clear he2 he3 hc4;have hx:=hhas n (by rw [bG];exact hln);rw [ko _ _ _ _ hln,if_neg (by omega)] at hx;obtain ⟨d1,d2,d3,d4⟩:=hBt.ins hx;have hgt:=hBt.lt;have NW:=hBt.alloc<|.cells #[.int .i64 p[q][n].op,.int .i64 p[q][n].loc,.int .i64 p[q][n].reg,.int .i64 p[q][n].val] 69;have FZ:=NW.frozen<|n*4+1;have e2:=(NW.ins hx).2.1;have hgg2:gt≠wr.heap.size:=by omega
        have HNW:=Lib.hid NW;clear NW;have HBT:=Lib.hid hBt;clear hBt;have HSET:=Lib.hid hset;clear hset;have HHAS:=Lib.hid hhas;clear hhas;have HX:=Lib.hid hx;clear hx;have HSZ:=Lib.hid hsz;clear hsz;have HO2:=Lib.hid hO2;clear hO2;have HCL:=Lib.hid hcl;clear hcl hget hcell;have j1:(0:Int)<=(n:Int):=by omega
        have j2:(n:Int)<(p[q].length:Int):=by omega
        go_wp2_with (go_at_call 74;refine (TN.out _ _).mono ?_;rintro e w5 ⟨rfl,rfl⟩)
        ·have hne : ¬ p[q][n].op=4:=by simpa using ‹(p[q][n].op != 4)=true›
         go_roundw
         case rel=>
          have hfr:∀ b,b<wr.heap.size->b≠gt->((wr.setCell ⟨gt,n*4+1,none⟩<|.int .i64<|mH p[q][n].loc i k).alloc<|.cells #[.int .i64 p[q][n].op,.int .i64 p[q][n].loc,.int .i64 p[q][n].reg,.int .i64 p[q][n].val] 69).heap[b]? = wr.heap[b]? := by
           intro b hb hbn;rw [Below.heap_alloc _ _ _ (by simpa [World.setCell] using hb),Below.heap_setCell _ _ _ _ (by exact hbn)]
          have hO3:=HSET.out _ _ (gY f (n+1) p[q]) hfr ((HBT.out.set_ (n*4+1) _).alloc _) (by simp) (by rw [bG,bG])<|CE HHAS.out hln (by have := HSZ.out;omega)<|HF2.out _ hne;rw [Tj] at hO3;refine ⟨n+1,by omega,by go_num,(hb2.setCell (by simp;omega) _).alloc (by simp [World.setCell];exact hb2.size) _,by simp [World.setCell];omega,hO3,?_⟩;rw [<- HCL.out];exact World.cell?_of_block<|hfr g (by omega) hgg
         case measure=>simp [intOf];omega
        have hne:p[q][n].op=4:=by simpa using ‹(p[q][n].op != 4)=false›
        go_roundw
        case rel=>
         have hfr:∀ b,b<wr.heap.size->b≠gt->(wr.alloc<|.cells #[.int .i64 p[q][n].op,.int .i64 p[q][n].loc,.int .i64 p[q][n].reg,.int .i64 p[q][n].val] 69).heap[b]? = wr.heap[b]? :=
          λb hb hbn=>Below.heap_alloc _ _ _ hb
         have hO3:=HSET.out _ _ (gY f n p[q]) hfr (HBT.out.alloc _) rfl rfl HHAS.out;rw [Tj,<- CF hln (HF1.out _ hne)] at hO3;refine ⟨n+1,by omega,by go_num,hb2.alloc hb2.size _,by simp;omega,hO3,?_⟩;rw [<- HCL.out];exact World.cell?_of_block<|hfr g (by omega) hgg
        case measure=>simp [intOf];omega
       have hnx:n=p[q].length:=by omega
       go_wp2_with fail
       go_roundw
       case rel=>
        refine ⟨q+1,by omega,by go_num,hb2,hs2,?_⟩;rw [<- ut q p hlt,<- yd (n:=n) p[q] (by omega)];exact hO2
       case measure=>simp [intOf];omega
     have hqx:q=p.length:=by omega
     go_wp2_with fail
     go_ret2
     rw [wh p (by omega),<- HFE.out] at hO;exact ⟨⟨_,rfl,hO.mono s1 hs⟩,hb⟩
   have h2':Nj k 2=false:=by simpa using h2
   have L2:=Lib.hid λW=>rV k false h2' W;have hr:mN p i k=([],false):=by unfold mN;rw [h2'];simp
   rw [hr];clear hr hv h1 h2 h2'
   go_enter Tryz.func28,Tryz.ntmps28
   go_wp2_with fail
   refine PV.out.mono ?_;rintro e w1 ⟨rfl,hb1⟩
   go_wp2_with fail
   refine (L1.out _).mono ?_;rintro e w2 ⟨rfl,rfl⟩
   go_wp2_with fail
   refine (L2.out _).mono ?_;rintro e w2 ⟨rfl,rfl⟩
   go_wp2_with fail
   go_ret2
   exact ⟨⟨_,rfl,nY.uP _ _<|by omega⟩,hb1⟩
  have h1':Nj i 2=false:=by simpa using h1
  have L1:=Lib.hid λW=>rV i false h1' W;have hr:mN p i k=([],false):=by unfold mN;rw [h1'];simp
  rw [hr];clear hr hv h1 h1'
  go_enter Tryz.func28,Tryz.ntmps28
  go_wp2_with fail
  refine PV.out.mono ?_;rintro e w1 ⟨rfl,hb1⟩
  go_wp2_with fail
  refine (L1.out _).mono ?_;rintro e w2 ⟨rfl,rfl⟩
  go_wp2_with fail
  go_ret2
  exact ⟨⟨_,rfl,nY.uP _ _<|by omega⟩,hb1⟩
 have hv':cK p=false:=by simpa using hv
 rw [hv'] at PV;have hr:mN p i k=([],false):=by unfold mN;rw [hv'];rfl
 rw [hr];clear hr hv hv'
 go_enter Tryz.func28,Tryz.ntmps28
 go_wp2_with fail
 refine PV.out.mono ?_;rintro e w1 ⟨rfl,hb1⟩
 go_wp2_with fail
 go_ret2
 exact ⟨⟨_,rfl,nY.uP _ _<|by omega⟩,hb1⟩
abbrev jA:=@TO.nil
abbrev jC:=@T.region
abbrev jE:=@T.block
abbrev jG:=@T.skip
abbrev jH:=@T.seq
abbrev jI:=@T.sr
abbrev jK:=@T.ret
abbrev jM:=@T.exit
abbrev jN:=@T.ifH
abbrev jO:=@T.loop
abbrev jP:=@T.drawF
abbrev jQ:=@Fin.ret
abbrev jR:=@TF.nil
theorem qC {m:Nat} {H:AH} {a:AV} (h:isF 9 a=true):Fz m H a a:=.of_isF 9 _ h
theorem qD {α:Sort _} {β:α->Sort _} {f:(x:α)->β x}:∀ x,f x=f x:=λ_=>rfl
theorem tP (p:List<|List Nf) (i k:Int) {q} (h:jp p i k=some q):aW Tryz.prog 28 [eL (cL Nf.c) p,I i,I k] (.tup [eL (cL Nf.c) q.1,Bo q.2]):=by
 unfold jp at h;obtain ⟨⟨h1,h2⟩,h⟩:=gdD h;obtain rfl:=osl h;refine CC (to:=66) (ti:=69) (r:=mN (toP p) i k) (by kernel_rfl) λw fz vs hl hrel=>?_;obtain ⟨u,rfl⟩:=FN hl hrel;have hs:=kL (f:=Ins.cells) (s:=4) (e:=fK) (λ_=>rfl) (λ_=>rfl)<|hrel 0 _ u rfl rfl;exact tO i k hs (SF _) (by rw [rN];exact h2) (by rw [llm];exact h1)
theorem tQ {lo hi:Nat} {u:Value} {p:List (List Ins)} {w:World} (i k:Int) (hu:sD Ins.cells 4 w lo hi u p) (hhi:hi<=w.heap.size) (ht:total p<=1048576) (hp:p.length<=1048576) :
  Calls Tryz.prog 29 #[u,.int .i64 i,.int .i64 k] w λe w'=>(∃ v,e = .returned (.tuple #[v,.bool (mN p i k).2])/\nY Ins.cells 4 66 69 w' w.heap.size w'.heap.size v (mN p i k).1)/\Below w.heap.size w w':=by
 have HU:=Lib.hid hu;clear hu;have PV:=Lib.hid<|kH (w:=w) HU.out hhi ht
 by_cases hv:cK p=true
 ·rw [hv] at PV
  by_cases h1:Nj i 2=true
  ·have L1:Hid ((decide ((0:Int)<=i)&&decide (i<=2))=true):=h1
   by_cases h2:Nj k 2=true
   ·have L2:Hid ((decide ((0:Int)<=k)&&decide (k<=2))=true):=h2;have hr:mN p i k=(p.map<|List.map<|eG i k,true):=by unfold mN;rw [hv,h1,h2];rfl
    rw [hr];clear hr hv h1 h2
    go_enter Tryz.func29,Tryz.ntmps29
    go_wp2_with fail
    refine PV.out.mono ?_;rintro e w1 ⟨rfl,hb1⟩
    go_wp2_with fail
    refine (iV _ _ true L1.out _).mono ?_;rintro e w2 ⟨rfl,rfl⟩
    go_wp2_with fail
    refine (iV _ _ true L2.out _).mono ?_;rintro e w2 ⟨rfl,rfl⟩;have s1:=hb1.size
    go_wp2_with fail
    refine (DD (HU.out.below hb1 hhi) (by omega) hp ht).mono ?_;rintro e w3 ⟨⟨A0,c0,rfl,hM⟩,hb3⟩;have HM:=Lib.hid hM;clear hM;have s3:=hb3.size;have TN:=Lib.hid λx W=>Bn x i k W;have HF1:Hid (∀ x:Ins,x.op=4->eG i k x=x):=λx hx=>by unfold eG;rw [if_pos hx]
    have HF2:Hid (∀ x:Ins,¬ x.op=4->eG i k x=⟨x.op,mH x.loc i k,x.reg,x.val⟩):=λx hx=>by unfold eG;rw [if_neg hx]
    obtain ⟨f,hf⟩:∃ f,eG i k=f:=⟨_,rfl⟩;have HFE:=Lib.hid hf;rw [hf] at HF1 HF2;clear hf
    go_wp2_with fail
    go_loopw [9] (λiv wr=>∃ k:Nat,k<=p.length/\iv = .int .i64 k/\Below w.heap.size w wr/\w3.heap.size<=wr.heap.size /\
      nY Ins.cells 4 66 69 wr w1.heap.size w3.heap.size (.slice A0 p.length c0) (fD f k p)) (λiv _=>p.length-(intOf iv).toNat)
    case atStart=>exact ⟨0,SG _,rfl,hb1.trans<|hb3.mono s1,SF _,by rw [uq];exact HM.out⟩
    case round=>
     obtain ⟨q,hq,rfl,hb,hs,hO⟩:=hrel
     by_cases hlt:q<p.length
     ·have HO:=Lib.hid hO;clear hO;have i1:(0:Int)<=(q:Int):=by omega
      have i2:(q:Int)<(p.length:Int):=by omega
      have hrl:p[q].length<=1048576:=SJ (mg p q hlt) ht;obtain ⟨wo,rfl⟩:∃ wo:World,wo=wr:=⟨_,rfl⟩
      go_wp2_with fail
      go_loopw [10] (λiv w2=>∃ n:Nat,n<=p[q].length/\iv = .int .i64 n/\Below w.heap.size w w2/\w3.heap.size<=w2.heap.size /\
        nY Ins.cells 4 66 69 w2 w1.heap.size w3.heap.size (.slice A0 p.length c0) ((fD f q p).set q (gY f n p[q]))) (λiv _=>p[q].length-(intOf iv).toNat)
      case atStart=>exact ⟨0,SG _,rfl,hb,hs,by rw [vZ,Aa _ _ _ (tG q p hlt)];exact HO.out⟩
      case round=>
       obtain ⟨n,hn,rfl,hb2,hs2,hO2⟩:=hrel;have hget:((fD f q p).set q<|gY f n p[q])[q]? = some (gY f n p[q]):=by
        rw [Tt (by rw [kv];exact hlt)]
       by_cases hln:n<p[q].length
       ·obtain ⟨go',co',gt,ct',cur,he,_,_,_,hgg,hg1,hg2,hcl,hBt,hsz,hct,hhas,hset⟩:=hO2.openRow2 (by decide) q _ hget (by rw [bG];omega);rw [bG] at hcl hct;injection he with he1 he2 he3;subst he1 he3;clear he2;have hx:=hhas n (by rw [bG];exact hln);rw [ko _ _ _ _ hln,if_neg (by omega)] at hx;obtain ⟨d1,d2,d3,d4⟩:=hBt.ins hx;have hgt:=hBt.lt;have FZ:=hBt.frozen<|n*4+1;have HBT:=Lib.hid hBt;clear hBt;have HSET:=Lib.hid hset;clear hset;have HHAS:=Lib.hid hhas;clear hhas;have HX:=Lib.hid hx;clear hx;have HSZ:=Lib.hid hsz;clear hsz;have HO2:=Lib.hid hO2;clear hO2;clear hget;have j1:(0:Int)<=(n:Int):=by omega
        have j2:(n:Int)<(p[q].length:Int):=by omega
        go_wp2_with fail
        ·have hne : ¬ p[q][n].op=4:=by simpa using ‹(p[q][n].op != 4)=true›
         go_region_with (go_at_call 70;refine (TN.out _ _).mono ?_;rintro e w5 ⟨rfl,rfl⟩)
         all_goals
          go_wp2_with fail
          go_roundw
          case rel=>
           have hfr:∀ b,b<wr.heap.size->b≠gt->(wr.setCell ⟨gt,n*4+1,none⟩<|.int .i64<|mH p[q][n].loc i k).drew.heap[b]? = wr.heap[b]? := by
            intro b hb hbn;rw [heap_drew,Below.heap_setCell _ _ _ _ (by exact hbn)]
           have hO3:=HSET.out _ _ (gY f (n+1) p[q]) hfr ((HBT.out.set_ (n*4+1) _).drew) (by simp) (by rw [bG,bG])<|CE HHAS.out hln (by have := HSZ.out;omega)<|HF2.out _ hne;rw [Tj] at hO3;exact ⟨n+1,by omega,by go_num,(hb2.setCell (by simp;omega) _).drew,by rw [heap_drew];simp [World.setCell];omega,hO3⟩
          case measure=>simp [intOf];omega
        have hne:p[q][n].op=4:=by simpa using ‹(p[q][n].op != 4)=false›
        go_roundw
        case rel=>
         have hO3:=HO2.out;rw [<- CF hln (HF1.out _ hne)] at hO3;exact ⟨n+1,by omega,by go_num,hb2,hs2,hO3⟩
        case measure=>simp [intOf];omega
       have hnx:n=p[q].length:=by omega
       obtain ⟨go',co',ct',At,he,_,_,_,hcl⟩:=hO2.hdr q _ hget;rw [bG] at hcl;injection he with he1 he2 he3;subst he1 he3;clear he2
       go_wp2_with fail
       go_roundw
       case rel=>
        refine ⟨q+1,by omega,by go_num,hb2,hs2,?_⟩;rw [<- ut q p hlt,<- yd (n:=n) p[q] (by omega)];exact hO2
       case measure=>simp [intOf];omega
     have hqx:q=p.length:=by omega
     go_wp2_with fail
     go_ret2
     rw [wh p (by omega),<- HFE.out] at hO;exact ⟨⟨_,rfl,hO.mono s1 hs⟩,hb⟩
   have h2':Nj k 2=false:=by simpa using h2
   have L2:Hid ((decide ((0:Int)<=k)&&decide (k<=2))=false):=h2';have hr:mN p i k=([],false):=by unfold mN;rw [h2'];simp
   rw [hr];clear hr hv h1 h2 h2'
   go_enter Tryz.func29,Tryz.ntmps29
   go_wp2_with fail
   refine PV.out.mono ?_;rintro e w1 ⟨rfl,hb1⟩
   go_wp2_with fail
   refine (iV _ _ true L1.out _).mono ?_;rintro e w2 ⟨rfl,rfl⟩
   go_wp2_with fail
   refine (iV _ _ false L2.out _).mono ?_;rintro e w2 ⟨rfl,rfl⟩
   go_wp2_with fail
   go_ret2
   exact ⟨⟨_,rfl,nY.uP _ _<|by omega⟩,hb1.alloc hb1.size _⟩
  have h1':Nj i 2=false:=by simpa using h1
  have L1:Hid ((decide ((0:Int)<=i)&&decide (i<=2))=false):=h1';have hr:mN p i k=([],false):=by unfold mN;rw [h1'];simp
  rw [hr];clear hr hv h1 h1'
  go_enter Tryz.func29,Tryz.ntmps29
  go_wp2_with fail
  refine PV.out.mono ?_;rintro e w1 ⟨rfl,hb1⟩
  go_wp2_with fail
  refine (iV _ _ false L1.out _).mono ?_;rintro e w2 ⟨rfl,rfl⟩
  go_wp2_with fail
  go_ret2
  exact ⟨⟨_,rfl,nY.uP _ _<|by omega⟩,hb1.alloc hb1.size _⟩
 have hv':cK p=false:=by simpa using hv
 rw [hv'] at PV;have hr:mN p i k=([],false):=by unfold mN;rw [hv'];rfl
 rw [hr];clear hr hv hv'
 go_enter Tryz.func29,Tryz.ntmps29
 go_wp2_with fail
 refine PV.out.mono ?_;rintro e w1 ⟨rfl,hb1⟩
 go_wp2_with fail
 go_ret2
 exact ⟨⟨_,rfl,nY.uP _ _<|by omega⟩,hb1.alloc hb1.size _⟩
theorem tT (p:List<|List Nf) (i k:Int) {q} (h:jq p i k=some q):aW Tryz.prog 29 [eL (cL Nf.c) p,I i,I k] (.tup [eL (cL Nf.c) q.1,Bo q.2]):=by
 unfold jq at h;obtain ⟨⟨h1,h2⟩,h⟩:=gdD h;obtain rfl:=osl h;refine CC (to:=66) (ti:=69) (r:=mN (toP p) i k) (by kernel_rfl) λw fz vs hl hrel=>?_;obtain ⟨u,rfl⟩:=FN hl hrel;have hs:=kL (f:=Ins.cells) (s:=4) (e:=fK) (λ_=>rfl) (λ_=>rfl)<|hrel 0 _ u rfl rfl;exact tQ i k hs (SF _) (by rw [rN];exact h2) (by rw [llm];exact h1)



theorem I2 {vs:Array Value} {a:AV} (hl:vs.size=[a].length):∃ u,vs = #[u]:=by
 obtain ⟨l⟩:=vs
 match l,hl with
 | [u],_=>exact ⟨u,rfl⟩
theorem dx (p:List<|List Nf) {q} (h:aA p=some q):aW Tryz.prog 16 [eL (cL Nf.c) p] (Bo q):=by
 unfold aA at h;obtain ⟨⟨h1,h2⟩,h⟩:=gdD h;obtain rfl:=osl h;refine ⟨by kernel_rfl,λw fz vs hlt _ hl hrel=>?_⟩;obtain ⟨u,rfl⟩:=I2 hl;have hs:=kL (f:=Ins.cells) (s:=4) (e:=fK) (λ_=>rfl) (λ_=>rfl)<|hrel 0 _ u rfl rfl;refine (kI hs (SF _)<|by rw [rN];exact h2).mono λe w' ⟨he,hb⟩ => ?_;exact ⟨_,fz,he,hb,.v Z,λg hg=>hg,λg hg => .inl hg,λg hg=>Nat.lt_of_lt_of_le (hlt g hg) hb.size⟩
theorem kP (p:List<|List Nf) {q} (h:cZ p=some q):aW Tryz.prog 68 [eL (cL Nf.c) p] (Bo q):=by
 unfold cZ at h;obtain ⟨⟨h1,h2⟩,h⟩:=gdD h;obtain rfl:=osl h;refine ⟨by kernel_rfl,λw fz vs hlt _ hl hrel=>?_⟩;obtain ⟨u,rfl⟩:=I2 hl;have hs:=kL (f:=Ins.cells) (s:=4) (e:=fK) (λ_=>rfl) (λ_=>rfl)<|hrel 0 _ u rfl rfl;refine (kH hs (SF _)<|by rw [rN];exact h2).mono λe w' ⟨he,hb⟩ => ?_;exact ⟨_,fz,he,hb,.v Z,λg hg=>hg,λg hg => .inl hg,λg hg=>Nat.lt_of_lt_of_le (hlt g hg) hb.size⟩
end
end Go.Proofs.YtjcmfddobaplbaaGreat
