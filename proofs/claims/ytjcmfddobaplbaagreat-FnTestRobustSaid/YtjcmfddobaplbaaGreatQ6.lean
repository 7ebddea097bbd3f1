/- Texts joined. No conditions. -/
import Derived.Test.YtjcmfddobaplbaaGreatProg
import Derived.Lib.Bytealg
import Derived.Laws.Externs
import Derived.Deep.RegionWith
import Derived.WalkKit
import Derived.Test.YtjcmfddobaplbaaGreatQ5
namespace Go.Proofs.YtjcmfddobaplbaaGreat
noncomputable section
open _root_.Option renaming bind -> GD, getD_some -> GJ, bind_eq_some_iff -> Hy
open _root_.Int renaming le_refl -> GF, mul_tdiv_add_tmod -> Hd
open _root_.List renaming all_eq_true -> GG, isEmpty_iff -> GH, range -> GI, getElem_mem -> GK, mem_cons -> GL, not_mem_nil -> GQ, mem_range -> GR, flatMap_cons -> GU, mem_cons_self -> GV, getElem_of_mem -> GX, map_cons -> GZ, mem_of_getElem? -> G3, mem_singleton -> G5, isEmpty_eq_false_iff -> G6, getElem_map -> G8, length_range -> G9, getElem?_set_ne -> Ha, mem_append -> He, eq_nil_of_length_eq_zero -> Hg, length_singleton -> Hk, cons_append -> Hl, getElem?_map -> Hm, map_eq_nil_iff -> Hn, mem_or_eq_of_mem_set -> Hp, mem_of_mem_drop -> Hq, mem_cons_of_mem -> Hr, map_congr_left -> Hs, exists_cons_of_ne_nil -> Ht, eq_nil_iff_forall_not_mem -> Hu, flatMap_append -> Hv, length_pos_iff -> Hw, contains_eq_mem -> Hz
open _root_.Nat renaming zero_le -> GM, lt_or_ge -> GN, le_refl -> G7, le_trans -> Hf
open _root_.BitVec renaming ofInt -> GY
open _root_.Bool renaming not_eq_true' -> Hh
open _root_.Array renaming getElem?_eq_some_iff -> HL
set_option maxHeartbeats 4000000
open Go.RowKit
set_option maxRecDepth 100000
def prg (p:List<|List CV):Nat->List CV:=λt=>p.getD t default
def clB (sp:Bool):Int->Int:=λl=>bif sp then l else 0
def qz (sp:Bool) (c:Int):Prop:=(sp=true/\0<=c/\c<=2)\/(sp=false/\c=0)
instance (sp:Bool) (c:Int):Decidable (qz sp c):=by unfold qz;infer_instance
def ixB (sp:Bool) (t:Nat) (c:Int):Nat:=bif sp then 3*t+c.toNat else t
def rJ (b:Int):Int×Int:=(b.tdiv 16,b.tmod 16)
def pcF (a:Z3b):Nat->Nat:=λt=>if t<3 then (Z3b.get a t).toNat else 0
def rgF (a:Z33):Nat->Int->Int:=λt g=>if t<3/\0<=g/\g<=2 then Z3b.get (Z33.get a t) g else 0
def mmF (a:Z3b):Int->Int:=λl=>if 0<=l/\l<=2 then Z3b.get a l else 0
def bfF (n:Nat) (sp:Bool) (w:LL):Nat->Int->List (Int×Int):=λt c=>if t<n/\qz sp c then (w.getD (ixB sp t c) default).map rJ else []
def AB (s:aa):TS:=⟨pcF s.values.pc,rgF s.values.reg,mmF s.values.mem,bfF s.values.p.length s.split s.waits⟩
def AS (s:CX):TS:=⟨pcF s.values.pc,rgF s.values.reg,mmF s.values.mem,λ_ _=>[]⟩
theorem xa (a:Z3b) {t:Nat} (ht:t<3) (v:Int):pcF (Z3b.set a t v)=ud (pcF a) t v.toNat:=by
 funext i
 simp only [pcF,rA]
 by_cases h:i<3
 ·rw [if_pos h,if_pos h,iJ _ _ _ _ (by omega) (by omega)]
  by_cases e:i=t
  ·rw [if_pos (by omega),if_pos e]
  rw [if_neg (by omega),if_neg e]
 rw [if_neg h,if_neg h,if_neg (by omega)]
theorem Bc (a:Z33) (t:Nat) (g:Int):rgF a t g=if t<3/\0<=g/\g<=2 then Z3b.get (Z33.get a t) g else 0:=rfl
theorem Bd (n:Nat) (sp:Bool) (w:LL) (t:Nat) (c:Int):bfF n sp w t c=if t<n/\qz sp c then (w.getD (ixB sp t c) default).map rJ else []:=rfl
theorem xc (a:Z33) {t:Nat} (ht:t<3) {g:Int} (hg:0<=g/\g<=2) (v:Int):rgF (Z33.set a t<|Z3b.set (Z33.get a t) g v)=ud (rgF a) t (ud (rgF a t) g v):=by
 funext i j
 rw [Bc];simp only [rA]
 by_cases e:i=t
 ·subst e;rw [if_pos rfl];simp only [rA,rgF]
  by_cases h:0<=j/\j<=2
  ·rw [if_pos ⟨ht,h⟩,nS _ _ _ _ (by omega) (by omega),if_pos rfl,iJ _ _ _ _ hg h]
   by_cases k:j=g
   ·rw [if_pos k,if_pos k]
   rw [if_neg k,if_neg k,if_pos ⟨ht,h⟩]
  rw [if_neg λk=>h k.2,if_neg λk=>h (by rw [k];exact hg),if_neg λk=>h k.2]
 rw [if_neg e];simp only [rgF]
 by_cases h:i<3/\0<=j/\j<=2
 ·rw [if_pos h,if_pos h,nS _ _ _ _ (by omega) (by omega),if_neg (by omega)]
 rw [if_neg h,if_neg h]
theorem sI (a:Z3b) {l:Int} (hl:0<=l/\l<=2) (v:Int):mmF (Z3b.set a l v)=ud (mmF a) l v:=by
 funext i
 simp only [mmF,rA]
 by_cases h:0<=i/\i<=2
 ·rw [if_pos h,if_pos h,iJ _ _ _ _ hl h]
 rw [if_neg h,if_neg h,if_neg λe=>h (by rw [e];exact hl)]
theorem xd {sp:Bool} {t t':Nat} {c c':Int} (h:qz sp c) (h':qz sp c') (e:ixB sp t c=ixB sp t' c'):t=t'/\c=c':=by
 unfold ixB at e;rcases h with ⟨rfl,h⟩ | ⟨rfl,rfl⟩
 ·rcases h' with ⟨_,h'⟩ | ⟨h',_⟩
  ·simp only [cond_true] at e;omega
  cases h'
 rcases h' with ⟨h',_⟩ | ⟨_,rfl⟩
 ·cases h'
 exact ⟨e,rfl⟩
theorem xe {sp:Bool} {t n:Nat} {c:Int} (h:qz sp c) (ht:t<n):ixB sp t c<bif sp then 3*n else n:=by
 unfold ixB;rcases h with ⟨rfl,h⟩ | ⟨rfl,rfl⟩
 ·simp only [cond_true];omega
 exact ht
theorem rC {sp:Bool} {n b:Nat} (hb:b<bif sp then 3*n else n):∃ t c,t<n/\qz sp c/\ixB sp t c=b:=by
 cases sp with
 | true=>
  simp only [cond_true] at hb;exact ⟨b / 3,((b % 3:Nat):Int),by omega,.inl ⟨rfl,by omega,by omega⟩,by simp only [ixB,cond_true];omega⟩
 | false=>exact ⟨b,0,hb,.inr ⟨rfl,rfl⟩,rfl⟩
theorem xg (sp:Bool) {l:Int} (hl:0<=l/\l<=2):qz sp (clB sp l):=by
 cases sp with
 | true=>exact .inl ⟨rfl,hl⟩
 | false=>exact .inr ⟨rfl,rfl⟩
theorem mX (sp:Bool) (t:Nat) {l:Int} (hl:0<=l/\l<=2):(dI sp t l).toNat=ixB sp t (clB sp l)/\0<=dI sp t l:=by
 unfold dI ixB clB
 cases sp with
 | true=>simp only [cond_true];omega
 | false=>simp only [cond_false];omega
theorem xj {n:Nat} {sp:Bool} {w:LL} {t:Nat} {c:Int} (ht:t<n) (hc:qz sp c) (hw:w.length=bif sp then 3*n else n) (v:LI):bfF n sp (w.set (ixB sp t c) v)=ud (bfF n sp w) t (ud (bfF n sp w t) c<|v.map rJ):=by
 have hlt:=xe hc ht;rw [<- hw] at hlt
 funext i j
 rw [Bd];simp only [rA]
 by_cases e:i=t
 ·subst e;rw [if_pos rfl];simp only [rA,bfF]
  by_cases g:j=c
  ·subst g;rw [if_pos ⟨ht,hc⟩,if_pos rfl];simp [List.getD,hlt]
  rw [if_neg g]
  by_cases h:qz sp j
  ·rw [if_pos ⟨ht,h⟩,if_pos ⟨ht,h⟩];have : ixB sp i c≠ixB sp i j:=λk=>g (xd hc h k).2.symm;simp [List.getD,Ha this]
  rw [if_neg λk=>h k.2,if_neg λk=>h k.2]
 rw [if_neg e];simp only [bfF]
 by_cases h:i<n/\qz sp j
 ·rw [if_pos h,if_pos h];have : ixB sp t c≠ixB sp i j:=λk=>e (xd hc h.2 k).1.symm;simp [List.getD,Ha this]
 rw [if_neg h,if_neg h]
theorem uV (w:LI) (l z:Int):l8 w l z=pK l (w.map rJ) z:=by
 unfold l8 pK;rw [<- List.map_reverse];generalize w.reverse=r
 induction r with
 | nil=>rfl
 | cons b r ih=>
  simp only [GZ,List.find?_cons]
  by_cases h:b.tdiv 16=l
  ·have : (b.tdiv 16==l)=true:=by simpa using h
   rw [this];simp [rJ,h]
  have : (b.tdiv 16==l)=false:=by simpa using h
  rw [this];simp only [rJ,h,decide_false];exact ih
theorem yw {a b:Int} (h:rJ a=rJ b):a=b:=by
 unfold rJ at h;injection h with h1 h2;have ha:=Hd a 16;have hb:=Hd b 16;omega
theorem mG:∀ {v w:LI},v.map rJ=w.map rJ->v=w
 | [],[],_=>rfl
 | [],_::_,h=>by cases h
 | _::_,[],h=>by cases h
 | a::v,b::w,h=>by
  injection h with h1 h2;rw [yw h1,mG h2]
structure PW (p:List (List CV)):Prop where
 pv:PV p
 ev:evN (prg p 0)+evN (prg p 1)+evN (prg p 2)<=12
 op:∀ (t k:Nat) (x:CV),(prg p t)[k]? = some x->1<=x.Op/\x.Op<=5
section
variable {p:List (List CV)}
theorem uf {t k:Nat} {x:CV} (h:(prg p t)[k]? = some x):t<p.length:=by
 rcases GN t p.length with g | g
 ·exact g
 unfold prg at h;rw [gdq,gen g] at h
 cases h
theorem PV.prg (hp:PV p) (t k:Nat) (x:CV) (h:(prg p t)[k]? = some x):InR x:=by
 have ht:=uf h;obtain ⟨hk,e⟩:=ges h;have := hp.ins t k ht hk;have e2:(p.getD t default).getD k default=x:=by
  rw [gdq];unfold Go.Proofs.YtjcmfddobaplbaaGreat.prg at h;rw [h];rfl
 rw [e2] at this;exact this
theorem PV.prg0 (hp:PV p) (t:Nat) (h:3<=t):Go.Proofs.YtjcmfddobaplbaaGreat.prg p t=[]:=by
 have := hp.vs.1;unfold Go.Proofs.YtjcmfddobaplbaaGreat.prg;rw [gdq,gen (by omega)]
 rfl
theorem PW.cnl (hp:PW p) {cl:Int->Int} (V:List TS) (hn:V.Nodup) (hV:∀ v∈V,Rch (StT (prg p) false cl) a0T v):V.length<=549755813888:=
 CG hp.pv.prg hp.pv.prg0 hp.pv.vs.2 hp.ev V hn hV
structure IB (p:List (List CV)) (sp:Bool) (s:aa):Prop where
 up:s.values.p=p
 sq:s.split=sp
 wl:s.waits.length=bif sp then 3*p.length else p.length
 by_:∀ w∈s.waits,∀ b∈w,0<=b/\b<=255
 pc:∀ t:Nat,t<3->0<=Z3b.get s.values.pc t
variable {sp:Bool} {s:aa}
theorem IB.iv (h:IB p sp s) {cl:Int->Int} (hi:InT (prg p) cl<|AB s):Iv p s.values where
 up:=h.up
 pc:=λt ht=>by
  have h1:=hi.pc t;have h2:=h.pc t ht;simp only [AB,pcF,if_pos ht] at h1;unfold prg at h1;omega
 rv:=λt g ht hg=>by
  have := (hi.vl t).1 g;simp only [AB,rgF] at this
  rwa [if_pos ⟨ht,by omega,by omega⟩] at this
 mv:=λl hl=>by
  have := hi.mm l;simp only [AB,mmF] at this
  rwa [if_pos ⟨by omega,by omega⟩] at this
theorem IB.bf (h:IB p sp s) {t:Nat} {c:Int} (ht:t<p.length) (hc:qz sp c):(AB s).bf t c=(s.waits.getD (ixB sp t c) default).map rJ:=by
 simp only [AB,bfF,h.up,h.sq];rw [if_pos ⟨ht,hc⟩]
theorem IB.bf0 (h:IB p sp s) {t:Nat} {c:Int} (hc : ¬ (t<p.length/\qz sp c)):(AB s).bf t c=[]:=by
 simp only [AB,bfF,h.up,h.sq];rw [if_neg hc]
theorem jf {u:CW} (hu:u.p=p) {t:Nat} (ht:t<3) (h0:0<=Z3b.get u.pc t):(sF u t=true->(prg p t)[pcF u.pc t]? = some (nU u t))/\(∀ x,(prg p t)[pcF u.pc t]? = some x->sF u t=true/\x=nU u t):=by
 have hpc:pcF u.pc t=(Z3b.get u.pc t).toNat:=if_pos ht;rw [hpc];unfold sF nU prg;rw [hu,tnn];refine ⟨λh=>?_,λx h=>?_⟩
 ·have h:=of_decide_eq_true h;have : (Z3b.get u.pc t).toNat<(p.getD t default).length:=by omega
  rw [gdq (l:=p.getD t default),geq this]
  rfl
 obtain ⟨h1,h2⟩:=ges h;refine ⟨decide_eq_true (by omega),?_⟩;rw [gdq (l:=p.getD t default),h]
 rfl
def mH (s:aa) (t:Nat):Bool:=([0,1,2]:LI).all λl=>(s.waits.getD (dI s.split t l).toNat default).isEmpty
theorem IB.empty (h:IB p sp s) {t:Nat} (ht:t<p.length):mH s t=true↔∀ c,(AB s).bf t c=[]:=by
 unfold mH;rw [GG,h.sq];refine ⟨λg c=>?_,λg l hl=>?_⟩
 ·by_cases hc:qz sp c
  ·rw [h.bf ht hc];have : ∃ l:Int,l∈([0,1,2]:LI)/\(0<=l/\l<=2)/\clB sp l=c:=by
    rcases hc with ⟨rfl,h1⟩ | ⟨rfl,rfl⟩
    ·have : c=0\/c=1\/c=2:=by omega
     exact ⟨c,by rcases this with rfl | rfl | rfl <;> decide,h1,rfl⟩
    exact ⟨0,by decide,by decide,rfl⟩
   obtain ⟨l,h1,h2,h3⟩:=this;have := g l h1;rw [(mX sp t h2).1,h3] at this;rw [GH.1 this];rfl
  exact h.bf0 λk=>hc k.2
 have hl':0<=l/\l<=2:=by
  simp only [GL,GQ,or_false] at hl;omega
 have := g<|clB sp l;rw [h.bf ht (xg sp hl')] at this;rw [(mX sp t hl').1,GH];exact Hn.1 this
def cnB (s:aa) (t:Nat):Bool:=sF s.values t&&(((nU s.values t).Op != 4&&(nU s.values t).Op != 5)||mH s t)
theorem IB.can (hp:PV p) (h:IB p sp s) {t:Nat} (ht:t<p.length):cnB s t=true↔BZ (prg p) (AB s) t (nU s.values t):=by
 have hl:=hp.vs.1;obtain ⟨h1,h2⟩:=jf h.up (by omega:t<3)<|h.pc t (by omega);unfold cnB BZ;rw [bae,Bool.or_eq_true,bae,h.empty ht];refine ⟨λ⟨g1,g2⟩=>⟨h1 g1,λg3=>g2.elim (λg2=>?_) id⟩,λ⟨g1,g2⟩=>⟨(h2 _ g1).1,?_⟩⟩
 ·simp only [bne_iff_ne] at g2;exact absurd g3 (by omega)
 by_cases g3:(nU s.values t).Op=4\/(nU s.values t).Op=5
 ·exact .inr<|g2 g3
 refine .inl ⟨?_,?_⟩ <;> simp only [bne_iff_ne] <;> omega
def exB (s:aa) (t:Int) (x:CV):aa:=
 ⟨⟨s.values.p,Z3b.set s.values.pc t (Z3b.get s.values.pc t+1),
  if rdX x=true then Z33.set s.values.reg t (Z3b.set (Z33.get s.values.reg t) x.Reg<|l8 (s.waits.getD (dI s.split t x.Loc).toNat default) x.Loc<|Z3b.get s.values.mem x.Loc) else s.values.reg,
  if x.Op=5 then Z3b.set s.values.mem x.Loc x.Val else s.values.mem⟩,s.split,
  if rB x=true then s.waits.set (dI s.split t x.Loc).toNat (s.waits.getD (dI s.split t x.Loc).toNat default++[x.Loc*16+rI s.values t x]) else s.waits⟩
def flB (s:aa) (b:Nat):aa:=
 ⟨⟨s.values.p,s.values.pc,s.values.reg,Z3b.set s.values.mem (((s.waits.getD b default).getD 0 default).tdiv 16)<|((s.waits.getD b default).getD 0 default).tmod 16⟩,s.split,s.waits.set b<|(s.waits.getD b default).drop 1⟩
theorem zV {l v:Int} (hl:0<=l/\l<=2) (hv:0<=v/\v<=3):rJ (l*16+v)=(l,v):=by
 unfold rJ;have h1:=Hd (l*16+v) 16;have h2:0<=(l*16+v).tmod 16:=Int.tmod_nonneg _ (by omega);have h3:(l*16+v).tmod 16<16:=Int.tmod_lt_of_pos _ (by decide);refine Prod.ext ?_ ?_ <;> simp only [] <;> omega
theorem IB.val (h:IB p sp s) (iv:Iv p s.values) {t:Nat} (ht:t<3) {x:CV} (hx:InR x):rI s.values t x=sH (AB s) t x/\0<=rI s.values t x/\rI s.values t x<=3:=by
 obtain ⟨x1,x2,x3,x4,x5,x6⟩:=hx;unfold rI sH
 split
 ·simp only [AB,rgF];rw [if_pos ⟨ht,x3,x4⟩];have := iv.rv t x.Reg.toNat ht (by omega);rw [Int.toNat_of_nonneg x3] at this;exact ⟨rfl,this⟩
 exact ⟨rfl,x5,x6⟩
theorem IB.exA (hp:PV p) (h:IB p sp s) (iv:Iv p s.values) {t:Nat} (ht:t<p.length) {x:CV} (hx:InR x):AB (exB s t x)=exT false (clB sp) (AB s) t x:=by
 have hl:=hp.vs.1;have ht3:t<3:=by omega
 have hloc:0<=x.Loc/\x.Loc<=2:=⟨hx.1,hx.2.1⟩;have hreg:0<=x.Reg/\x.Reg<=2:=⟨hx.2.2.1,hx.2.2.2.1⟩;have hv:=h.val iv ht3 hx;have hix:=mX sp t hloc;have hc:=xg sp hloc;have hbf:=h.bf ht hc;refine TS.ext ?_ ?_ ?_ ?_
 ·have := iv.pc t ht3;simp only [AB,exB,exT];rw [xa _ ht3]
  congr 1
  simp only [pcF,if_pos ht3];omega
 ·have hse:l8 (s.waits.getD (dI s.split t x.Loc).toNat default) x.Loc (Z3b.get s.values.mem x.Loc)=jX (clB sp) (AB s) t x.Loc:=by
   have hm:(AB s).mm x.Loc=Z3b.get s.values.mem x.Loc:=if_pos hloc;unfold jX;rw [uV,h.sq,hix.1,<- hbf,hm]
  rw [zm,<- hse];simp only [AB,exB]
  split
  ·rw [xc _ ht3 hreg]
  rfl
 ·rw [zn];simp only [AB,exB]
  by_cases h5:x.Op=5
  ·have : (wrX x&&(false||x.Op==5))=true:=by unfold wrX;rw [h5];rfl
   rw [if_pos h5,if_pos this,sI _ hloc]
   congr 1
   unfold sH;rw [if_neg (by omega)]
  have : (wrX x&&(false||x.Op==5))=false:=by simp [h5]
  rw [if_neg h5,if_neg (by rw [this];decide)]
 rw [zo];simp only [AB,exB]
 by_cases hs:rB x=true
 ·rw [if_pos hs,if_pos (by rw [hs];rfl),h.sq,h.up,hix.1,xj ht hc h.wl,List.map_append,List.map_singleton,zV hloc hv.2,hv.1];simp only [AB,h.sq,h.up] at hbf;rw [<- hbf]
  rfl
 rw [if_neg hs,if_neg (by simpa using hs)]
theorem IB.flA (hp:PV p) (h:IB p sp s) {t:Nat} {c:Int} (ht:t<p.length) (hc:qz sp c) {e:Int×Int} {r:List (Int×Int)} (hb:(AB s).bf t c=e::r) (he:0<=e.1/\e.1<=2):AB (flB s<|ixB sp t c)=flT (AB s) t c e r:=by
 rw [h.bf ht hc] at hb;obtain ⟨b,w,hw,rfl,rfl⟩:=List.map_eq_cons_iff.1 hb;refine TS.ext rfl rfl ?_ ?_
 ·simp only [AB,flB,flT];rw [hw];exact sI _ he _
 simp only [AB,flB,flT];rw [h.sq,h.up,xj ht hc h.wl,hw]
 rfl
theorem IB.ex (hp:PV p) (h:IB p sp s) (iv:Iv p s.values) {t:Nat} (ht:t<p.length) {x:CV} (hx:InR x):IB p sp (exB s t x):=by
 have hl:=hp.vs.1;have hv:=h.val iv (by omega:t<3) hx;refine ⟨h.up,h.sq,?_,λw hw b hb=>?_,λi hi=>?_⟩
 ·simp only [exB]
  split
  ·rw [List.length_set];exact h.wl
  exact h.wl
 ·simp only [exB] at hw
  split at hw
  ·rcases Hp hw with hw | rfl
   ·exact h.by_ w hw b hb
   rcases He.1 hb with hb | hb
   ·have : s.waits.getD (dI s.split t x.Loc).toNat default∈s.waits\/s.waits.getD (dI s.split t x.Loc).toNat default=[]:=by
     rw [gdq]
     cases e:s.waits[(dI s.split t x.Loc).toNat]? with
     | none=>exact .inr rfl
     | some w=>exact .inl (G3 e)
    rcases this with g | g
    ·exact h.by_ _ g b hb
    rw [g] at hb;cases hb
   rw [G5.1 hb];obtain ⟨x1,x2,_⟩:=hx;omega
  exact h.by_ w hw b hb
 simp only [exB];rw [iJ _ _ _ _ (by omega) (by omega)];have h1:=h.pc t (by omega);have h2:=h.pc i hi
 split <;> omega
theorem IB.fl (h:IB p sp s) (b:Nat):IB p sp (flB s b):=by
 refine ⟨h.up,h.sq,?_,λw hw b' hb=>?_,h.pc⟩
 ·simp only [flB];rw [List.length_set];exact h.wl
 simp only [flB] at hw;rcases Hp hw with hw | rfl
 ·exact h.by_ w hw b' hb
 have hb:=Hq hb;have : s.waits.getD b default∈s.waits\/s.waits.getD b default=[]:=by
  rw [gdq]
  cases e:s.waits[b]? with
  | none=>exact .inr rfl
  | some w=>exact .inl (G3 e)
 rcases this with g | g
 ·exact h.by_ _ g b' hb
 rw [g] at hb;cases hb
def Be (s:aa):LI:=keyL s.values++s.waits.flatMap λw=>(w.length:Int)::w
def mb:Mac aa where
 mv s:=((GI s.values.p.length).filter<|cnB s).map Int.ofNat++((GI s.waits.length).filter λb => !(s.waits.getD b default).isEmpty).map λb:Nat=>(s.values.p.length:Int)+(b:Int)
 af s m:=if (s.values.p.length:Int)<=m then flB s (m-(s.values.p.length:Int)).toNat else exB s m (nU s.values m)
 ky s:=strOfNums<|Be s
 dn s:=(nT s.values).isEmpty&&s.waits.all (·.isEmpty)
 oc s:=wT s.values
theorem qp {m:Int}:m∈mb.mv s↔(∃ t:Nat,t<s.values.p.length/\m=t/\cnB s t=true)\/∃ b:Nat,b<s.waits.length/\m=(s.values.p.length:Int)+(b:Int)/\s.waits.getD b default≠[]:=by
 simp only [mb,He,List.mem_map,List.mem_filter,GR];refine or_congr ⟨λ⟨t,⟨h1,h2⟩,h3⟩=>⟨t,h1,h3.symm,h2⟩,λ⟨t,h1,h2,h3⟩=>⟨t,⟨h1,h3⟩,h2.symm⟩⟩ ⟨λ⟨t,⟨h1,h2⟩,h3⟩=>⟨t,h1,h3.symm,by simpa using h2⟩,λ⟨t,h1,h2,h3⟩=>⟨t,⟨h1,by simpa using h3⟩,h2.symm⟩⟩
def il (p:List<|List CV) (sp:Bool):aa:=⟨v0 p,sp,List.replicate (bif sp then 3*p.length else p.length) []⟩
theorem IB.start (p:List<|List CV) (sp:Bool):IB p sp (il p sp):=by
 refine ⟨rfl,rfl,?_,λw hw b hb=>?_,λt _=>?_⟩
 ·simp [il]
 ·rw [List.eq_of_mem_replicate hw] at hb;cases hb
 simp only [il,v0,z3];exact GF _
theorem ug (p:List<|List CV):pcF (v0 p).pc=a0T.pc/\rgF (v0 p).reg=a0T.rg/\mmF (v0 p).mem=a0T.mm:=by
 refine ⟨?_,?_,?_⟩
 ·funext t;simp only [pcF,v0,z3,a0T];split <;> rfl
 ·funext t g;simp only [rgF,v0,z33,z3,a0T];split <;> rfl
 funext t;simp only [mmF,v0,z3,a0T];split <;> rfl
theorem yx (p:List<|List CV) (sp:Bool):AB (il p sp)=a0T:=by
 obtain ⟨h1,h2,h3⟩:=ug p;refine TS.ext h1 h2 h3 ?_
 funext t c
 simp only [AB,bfF,il,a0T]
 split
 ·rw [gdq,List.getElem?_replicate]
  split <;> rfl
 rfl
theorem Bf {α β:Type} {f g:α->List β}:∀ {l:List α},(∀ x∈l,f x=g x)->l.flatMap f=l.flatMap g
 | [],_=>rfl
 | x::l,h=>by rw [GU,GU,h x GV,Bf λy hy=>h y (Hr _ hy)]
theorem zq {u:CW} {a:TS} (h1:a.rg=rgF u.reg) (h2:a.mm=mmF u.mem) (hl:u.p.length<=3):outT u.p.length a=wT u:=by
 unfold outT wT nV BJ;rw [h1,h2]
 congr 1
 refine Bf λt ht=>Hs λg hg=>?_;have ht:=GR.1 ht;have hg:=GR.1 hg;simp only [rgF];rw [if_pos ⟨by omega,by omega,by omega⟩]
theorem xk (hp:PW p) (sp:Bool):Bis mb (il p sp) (StT (prg p) false<|clB sp) a0T (DnT<|prg p) (outT p.length) (IB p sp) AB where
 i0:=IB.start p sp
 h0:=yx p sp
 fw:=λs m h hr hm=>by
  have hi:=InT.of hp.pv.prg hr;have iv:=h.iv hi;have hl:=hp.pv.vs.1;rcases qp.1 hm with ⟨t,h1,rfl,h2⟩ | ⟨b,h1,rfl,h2⟩
  ·rw [h.up] at h1;have hc:=(h.can hp.pv h1).1 h2;have hx:=hp.pv.prg _ _ _ hc.1;have e:mb.af s t=exB s t (nU s.values t):=by
    simp only [mb,h.up];rw [if_neg (by omega)]
   rw [e,h.exA hp.pv iv h1 hx];exact ⟨h.ex hp.pv iv h1 hx,.ex hc⟩
  rw [h.wl] at h1;obtain ⟨t,c,ht,hc,rfl⟩:=rC h1;have e:mb.af s ((s.values.p.length:Int)+(ixB sp t c:Nat))=flB s (ixB sp t c):=by
   simp only [mb];rw [if_pos (by omega)]
   congr 1
   omega
  rw [e];have hb:=h.bf ht hc;obtain ⟨b,w,hw⟩:=Ht h2;rw [hw,GZ] at hb;have he:=((hi.vl t).2 c (rJ b)<|by show _∈(AB s).bf t c;rw [hb];exact GV).1;rw [h.flA hp.pv ht hc hb he];exact ⟨h.fl _,.fl hb⟩
 bw:=λs a h hr hs=>by
  have hi:=InT.of hp.pv.prg hr;have iv:=h.iv hi;have hl:=hp.pv.vs.1
  cases hs with
  | @ex t x hc=>
   have ht:=uf hc.1;obtain ⟨h1,h2⟩:=jf h.up (by omega:t<3)<|h.pc t (by omega);obtain ⟨h3,rfl⟩:=h2 x hc.1;refine ⟨t,qp.2<|.inl ⟨t,by rw [h.up];exact ht,rfl,(h.can hp.pv ht).2 hc⟩,?_⟩;have e:mb.af s t=exB s t (nU s.values t):=by
    simp only [mb,h.up];rw [if_neg (by omega)]
   rw [e];exact h.exA hp.pv iv ht<|hp.pv.prg _ _ _ hc.1
  | @fl t c e r hb=>
   have hq:t<p.length/\qz sp c:=Decidable.byContradiction λk=>by rw [h.bf0 k] at hb;cases hb
   have hb':=hb;rw [h.bf hq.1 hq.2] at hb';have he:=((hi.vl t).2 c e<|by show _∈(AB s).bf t c;rw [hb];exact GV).1;refine ⟨_,qp.2<|.inr ⟨ixB sp t c,by rw [h.wl];exact xe hq.2 hq.1,rfl,λk=>by rw [k] at hb';cases hb'⟩,?_⟩;have e2:mb.af s ((s.values.p.length:Int)+(ixB sp t c:Nat))=flB s (ixB sp t c):=by
    simp only [mb];rw [if_pos (by omega)]
    congr 1
    omega
   rw [e2];exact h.flA hp.pv hq.1 hq.2 hb he
 dn:=λs h hr=>by
  have hl:=hp.pv.vs.1;have hpc:(nT s.values).isEmpty=true↔∀ t,(prg p t).length<=(AB s).pc t:=by
   rw [GH];refine ⟨λg t=>?_,λg=>?_⟩
   ·rcases GN t p.length with ht | ht
    ·refine Decidable.byContradiction λk=>?_;obtain ⟨h1,h2⟩:=jf h.up (by omega:t<3)<|h.pc t (by omega);have := (h2 _<|geq<|Nat.lt_of_not_le k).1;have : (t:Int)∈nT s.values:=gz.2 ⟨t,by rw [h.up];exact ht,rfl,this⟩;rw [g] at this;cases this
    unfold prg;rw [gdq,gen ht];exact GM _
   refine Hu.2 λm hm=>?_;obtain ⟨t,ht,rfl,hc⟩:=gz.1 hm;rw [h.up] at ht;obtain ⟨h1,h2⟩:=jf h.up (by omega:t<3)<|h.pc t (by omega);have := (ges<|h1 hc).1;have := g t;simp only [AB] at this;omega
  have hw:s.waits.all (·.isEmpty)=true↔∀ t c,(AB s).bf t c=[]:=by
   rw [GG];refine ⟨λg t c=>?_,λg w hw=>?_⟩
   ·by_cases hq:t<p.length/\qz sp c
    ·rw [h.bf hq.1 hq.2,gdq]
     cases e:s.waits[ixB sp t c]? with
     | none=>rfl
     | some w=>rw [GJ,GH.1 (g w<|G3 e)];rfl
    exact h.bf0 hq
   obtain ⟨b,hb,rfl⟩:=GX hw;obtain ⟨t,c,ht,hc,e⟩:=rC (by rw [<- h.wl];exact hb:b<bif sp then 3*p.length else p.length);have := g t c;rw [h.bf ht hc,e] at this;have := Hn.1 this;rw [GH,<- this];simp [List.getD,hb]
  show ((nT s.values).isEmpty&&s.waits.all (·.isEmpty))=true↔_;rw [bae,hpc,hw]
  rfl
 oc:=λs h hr _=>by
  have := hp.pv.vs.1;have := zq (u:=s.values) (a:=AB s) rfl rfl (by rw [h.up];exact this);rw [h.up] at this;exact this.symm
end
section
variable {p:List (List CV)} {sp:Bool} {s:aa}
theorem sJ (hp:PV p) {u:CW} (h:Iv p u):CY (aS u) (· = (nT u).isEmpty):=by
 have e:bA ⟨u⟩=aS u:=by
  unfold bA
  cases aS u <;> rfl
 rw [<- e];exact A7 hp h
theorem yz (u:CW):CY (aX u) (· = strOfNums (keyL u)):=by
 have e:bz ⟨u⟩=aX u:=by
  unfold bz
  cases aX u <;> rfl
 rw [<- e];exact tY u
theorem uW {l:LI} (h:∀ x∈l,0<=x/\x<=255):ik (strOfNums l)=l:=by
 unfold ik;rw [strOfNums_data,List.map_map]
 conv=>rhs;rw [<- List.map_id l]
 refine Hs λx hx=>?_;have := h x hx;simp only [Function.comp,UInt8.toNat_ofNat',id];omega
def fil (f:Nat->Bool) (g:Nat->Int) (n:Nat):LI:=((GI n).filter f).map g
theorem mY (f:Nat->Bool) (g:Nat->Int) (n:Nat):fil f g (n+1)=if f n=true then fil f g n++[g n] else fil f g n:=by
 unfold fil;rw [List.range_succ,List.filter_append,List.map_append]
 split
 ·rename_i h;rw [List.filter_cons_of_pos h];rfl
 rename_i h;rw [List.filter_cons_of_neg h];simp
theorem nY (f:Nat->Bool) (g:Nat->Int) (n:Nat):(fil f g n).length<=n:=by
 unfold fil;rw [llm];exact Hf (List.length_filter_le _ _) (by simp)
theorem pQ (s:aa) {t l:Int} (ht:0<=t/\t<=3) (hl:0<=l/\l<=2):CY (bB s t l) (· = dI s.split t l):=by
 unfold bB dI;refine .bif (λhb => .gdI (by omega)<|.gdI (by omega)<|.pure<|by rw [hb];rfl) λhb => .pure (by rw [hb];rfl)
theorem IB.ixl (h:IB p sp s) {t:Nat} (ht:t<p.length) {l:Int} (hl:0<=l/\l<=2):0<=dI s.split t l/\(dI s.split t l)<(s.waits.length:Int):=by
 have h1:=mX sp t hl;have h2:=xe (xg sp hl) ht;rw [h.sq];rw [h.wl];omega
theorem xm (hp:PV p) (h:IB p sp s) {t:Nat} (ht:t<p.length):CY (bU s t) (· = mH s t):=by
 have hl:=hp.vs.1;unfold bU;refine CY.sum (PS:=λ_=>mH s t=true) (PW:=(· = mH s t)) ?_ λ_ he => .pure he.symm;refine CY.loop (λi=>(0<=i/\i<=3)/\∀ l:Int,0<=l->l<i->(s.waits.getD (dI s.split t l).toNat default).isEmpty=true) (λi=>(3-i).toNat) ⟨⟨GF _,by decide⟩,λl h1 h2=>by omega⟩ λi ⟨⟨h1,h2⟩,h3⟩ => ?_;unfold ez;refine .bifD (λhlt=>(pQ s (by omega)<|by omega).bind λv hv=>?_) λhge => .pure ?_
 ·subst hv;have := h.ixl ht (l:=i) (by omega);refine .gdD this<|.bifD (λhn => .pure ?_) λhn => .gdI (by omega)<|.pure ⟨⟨⟨by omega,by omega⟩,λl g1 g2=>?_⟩,by omega⟩
  ·simp only [];unfold mH;refine (List.all_eq_false.2 ⟨i,?_,?_⟩).symm
   ·have : i=0\/i=1\/i=2:=by omega
    rcases this with rfl | rfl | rfl <;> decide
   rw [Bool.not_eq_true,G6];intro e;rw [e] at hn;simp at hn
  by_cases e:l=i
  ·subst e;rw [GH];exact Hg (by omega)
  exact h3 l g1 (by omega)
 simp only [];unfold mH;refine GG.2 λl hl=>h3 l ?_ ?_ <;> (simp only [GL,GQ,or_false] at hl;omega)
theorem uX (hp:PV p) (h:IB p sp s) (iv:Iv p s.values):CY (bh s) (· = mb.mv s):=by
 have hl:=hp.vs.1;have hw:=h.wl;have hwl:s.waits.length<=9:=by rw [hw];cases sp <;> simp only [cond_true,cond_false] <;> omega
 unfold bh;refine CY.bind (P:=(· = fil (cnB s) Int.ofNat p.length)) ?_ λv hv=>CY.bind (P:=(· = fil (cnB s) Int.ofNat p.length++fil (λb => !(s.waits.getD b default).isEmpty) (λb:Nat=>(s.values.p.length:Int)+(b:Int)) s.waits.length)) ?_ λv hv => .pure ?_
 ·refine CY.loop (λz=>(0<=z.2/\z.2<=(p.length:Int))/\z.1=fil (cnB s) Int.ofNat z.2.toNat) (λz=>((p.length:Int)-z.2).toNat) ⟨⟨GF _,by simp only [];omega⟩,rfl⟩ λz ⟨⟨h1,h2⟩,h3⟩ => ?_;unfold dz;simp only [h.up];refine .bifD (λhlt=>?_) λhge => .pure (by rw [h3,show z.2.toNat=p.length by omega]);obtain ⟨l,i⟩:=z;simp only at h1 h2 h3 hlt;obtain ⟨n,rfl⟩:∃ n:Nat,i=n:=⟨i.toNat,by omega⟩;simp only [tnn] at h3;subst h3;have hfl:=nY (cnB s) Int.ofNat n;have hpn:n<p.length:=by omega
  refine CY.bind (P:=(· = fil (cnB s) Int.ofNat (n+1))) ?_ λv hv => .gdI (by omega)<|.pure ⟨⟨⟨by simp only [];omega,by simp only [];omega⟩,hv⟩,by simp only [];omega⟩;refine (wU hp iv hpn).bind λv ⟨e1,e2⟩ => ?_;refine CY.bind (P:=(· = cnB s n)) ?_ λb hb => .bif (λhc => .gd (fP (by simp only [];omega) rfl)<|.pure ?_) λhc => .pure ?_
  ·refine .bif (λhc=>?_) λhc => .pure ?_
   ·have e3:=e2 hc;refine CY.bind (P:=(· = ((nU s.values n).Op != 4&&(nU s.values n).Op != 5))) ?_ λw hw=>CY.bind (P:=(· = cnB s n)) (.bif (λk => .pure ?_) λk=>(xm hp h hpn).bind λw hw => .pure ?_) λw hw => .pure hw
    ·rw [e3];exact .bif (λk => .pure<|by rw [k];rfl) λk => .pure (by rw [k];rfl)
    ·unfold cnB;rw [<- e1,hc,<- hw,k];rfl
    unfold cnB;rw [<- e1,hc,hw,<- ‹_=((nU s.values n).Op != 4&&_)›,k];rfl
   unfold cnB;rw [<- e1,hc];rfl
  ·rw [mY,if_pos (by rw [<- hb,hc])];rfl
  rw [mY,if_neg (by rw [<- hb,hc];decide)]
 ·subst hv;refine CY.loop (λz=>(0<=z.2/\z.2<=(s.waits.length:Int))/\z.1=fil (cnB s) Int.ofNat p.length++fil (λb => !(s.waits.getD b default).isEmpty) (λb:Nat=>(s.values.p.length:Int)+(b:Int)) z.2.toNat) (λz=>((s.waits.length:Int)-z.2).toNat) ⟨⟨GF _,by simp only [];omega⟩,by simp [fil]⟩ λz ⟨⟨h1,h2⟩,h3⟩ => ?_;unfold cQ;refine .bifD (λhlt=>?_) λhge => .pure (by rw [h3,show z.2.toNat=s.waits.length by omega]);obtain ⟨l,i⟩:=z;simp only at h1 h2 h3 hlt;obtain ⟨n,rfl⟩:∃ n:Nat,i=n:=⟨i.toNat,by omega⟩;simp only [tnn] at h3 ⊢;subst h3;have hf1:=nY (cnB s) Int.ofNat p.length;have hf2:=nY (λb => !(s.waits.getD b default).isEmpty) (λb:Nat=>(s.values.p.length:Int)+(b:Int)) n;have hup:s.values.p.length<=3:=by rw [h.up];exact hl
  refine CY.bind (P:=(· = fil (cnB s) Int.ofNat p.length++fil (λb => !(s.waits.getD b default).isEmpty) (λb:Nat=>(s.values.p.length:Int)+(b:Int)) (n+1))) ?_ λv hv => .gdI (by omega)<|.pure ⟨⟨⟨by omega,by omega⟩,hv⟩,by omega⟩;refine .gdD ⟨h1,hlt⟩<|.bifD (λhc => .gdI (by omega)<|.gd (fP (by rw [lla];omega) rfl)<|.pure ?_) λhc => .pure ?_
  ·rw [mY,if_pos,List.append_assoc];rw [Hh,G6];intro e;rw [e] at hc;simp at hc
  rw [mY,if_neg];rw [Hh,G6,ne_eq,Decidable.not_not];exact Hg (by omega)
 rw [hv];simp only [mb,fil,h.up]
theorem xn (hp:PV p) (h:IB p sp s) (iv:Iv p s.values):CY (bu s) (· = mb.dn s):=by
 have hl:=hp.vs.1;have hwl:s.waits.length<=9:=by rw [h.wl];cases sp <;> simp only [cond_true,cond_false] <;> omega
 unfold bu;refine (sJ hp iv).bind λv hv=>CY.bind (P:=(· = mb.dn s)) (.bif (λhb=>?_) λhb => .pure ?_) λw hw => .pure hw
 ·unfold aC;refine CY.bind (P:=(· = !s.waits.all (·.isEmpty))) ?_ λw hw => .pure ?_
  ·refine CY.bind (P:=λv:Int=>decide (0<=v) = !s.waits.all (·.isEmpty)) ?_ λv hv => .pure hv;unfold aF;refine CY.sum (PS:=λ_=>s.waits.all (·.isEmpty)=true) (PW:=λv:Int=>decide (0<=v) = !s.waits.all (·.isEmpty)) ?_ λ_ he => .pure (by rw [he];rfl);refine CY.loop (λi=>(0<=i/\i<=(s.waits.length:Int))/\∀ j:Nat,(j:Int)<i->(s.waits.getD j default).isEmpty=true) (λi=>((s.waits.length:Int)-i).toNat) ⟨⟨GF _,by omega⟩,λj hj=>by omega⟩ λi ⟨⟨h1,h2⟩,h3⟩ => ?_;unfold aQ;refine .bifD (λhlt => .gdD ⟨h1,hlt⟩ ?_) λhge => .pure ?_
   ·refine CY.bind (P:=λb=>b=decide ((0:Int)<((s.waits.getD i.toNat default).length:Int))) (.pure rfl) λb hb=>?_;rw [hb];refine .bifD (λhn => .pure ?_) λhn => .gdI (by omega)<|.pure ⟨⟨⟨by omega,by omega⟩,λj hj=>?_⟩,by omega⟩
    ·simp only [];rw [decide_eq_true h1];have hi:i.toNat<s.waits.length:=by omega
     have : s.waits.all (·.isEmpty)=false:=List.all_eq_false.2 ⟨s.waits[i.toNat],GK hi,by
      rw [Bool.not_eq_true,G6];intro e;rw [gdq,geq hi,GJ,e] at hn;simp at hn⟩
     rw [this];rfl
    by_cases e:j=i.toNat
    ·subst e;rw [GH];exact Hg (by omega)
    exact h3 j (by omega)
   simp only [];refine GG.2 λw hw=>?_;obtain ⟨j,hj,rfl⟩:=GX hw;have := h3 j (by omega)
   rwa [gdq,geq hj,GJ] at this
  show _=((nT s.values).isEmpty&&s.waits.all (·.isEmpty));rw [hw,<- hv,hb,Bool.not_not];rfl
 show _=((nT s.values).isEmpty&&s.waits.all (·.isEmpty));rw [<- hv,hb];rfl
theorem uh {cl:Int->Int} {l:List CV}:∀ {k:Nat} {u:LSt},u∈LSn cl l k->∀ c,(u.2 c).length<=k
 | 0,u,h,c=>by rw [G5.1 h];exact G7 _
 | k+1,u,h,c=>by
  obtain ⟨v,hv,hu⟩:=List.mem_flatMap.1 h;have ih:=uh hv;have := ih c;unfold lsx at hu
  split at hu
  ·simp only [GL,GQ,or_false] at hu;rcases hu with rfl | rfl | rfl | rfl <;> (simp only [];omega)
  split at hu
  ·simp only [GL,GQ,or_false] at hu;rcases hu with rfl | rfl
   ·simp only [rA]
    split
    ·rename_i e;have := ih<|cl (l.getD k default).Loc;rw [lla,Hk];omega
    omega
   simp only [rA]
   split
   ·exact GM _
   omega
  rw [G5.1 hu];omega
theorem IB.wlen (hp:PV p) (h:IB p sp s) {cl:Int->Int} (hi:InT (prg p) cl<|AB s) (b:Nat):(s.waits.getD b default).length<=7:=by
 rcases GN b s.waits.length with hb | hb
 ·obtain ⟨t,c,ht,hc,rfl⟩:=rC (by rw [<- h.wl];exact hb:b<bif sp then 3*p.length else p.length);have h1:=uh (hi.ls t) c;have h2:=hi.pc t;have h3:=hp.vs.2 t;simp only at h1;rw [h.bf ht hc,llm] at h1;unfold prg at h2;omega
 rw [gdq,gen hb];exact GM _
theorem yA (hp:PV p) (h:IB p sp s) {cl:Int->Int} (hi:InT (prg p) cl<|AB s):CY (aZ s) (· = mb.ky s):=by
 have iv:=h.iv hi;have hwl:s.waits.length<=9:=by have := hp.vs.1;rw [h.wl];cases sp <;> simp only [cond_true,cond_false] <;> omega
 unfold aZ;refine (yz s.values).bind λv hv=>?_;subst hv;have hk:(keyL s.values).length=15:=rfl;have hsz:(strOfNums<|keyL s.values).size=15:=by
  have := congrArg List.length<|strOfNums_data<|keyL s.values;simpa [hk] using this
 refine .gdD (by rw [hsz];decide) ?_;rw [uW (pJ hp iv)];refine CY.bind (P:=(· = Be s)) ?_ λv hv => .pure (by rw [hv];rfl);refine CY.loop (λz=>(0<=z.2/\z.2<=(s.waits.length:Int))/\z.1=keyL s.values++((s.waits.take z.2.toNat).flatMap λw=>(w.length:Int)::w)/\z.1.length<=15+8*z.2.toNat) (λz=>((s.waits.length:Int)-z.2).toNat) ⟨⟨GF _,by simp only [];omega⟩,by simp,by simp only [hk];omega⟩ λz ⟨⟨h1,h2⟩,h3,h4⟩ => ?_;unfold dO;refine .bifD (λhlt=>?_) λhge => .pure ?_
 ·have hw:=h.wlen hp hi z.2.toNat;have hn:z.2.toNat<s.waits.length:=by omega
  refine .gdD ⟨h1,hlt⟩<|.gdY (by omega)<|.gd (fP (by omega) rfl)<|.gd (fP (by rw [lla,Hk];omega) rfl)<|.gdI (by omega)<|.pure ⟨⟨⟨by simp only [];omega,by simp only [];omega⟩,?_,?_⟩,by simp only [];omega⟩
  ·simp only [];rw [show (z.2+1).toNat=z.2.toNat+1 by omega,List.take_add_one,geq hn,h3,Hv,show s.waits.getD z.2.toNat default=s.waits[z.2.toNat] by simp [List.getD,hn]];simp only [Option.toList,GU,List.flatMap_nil,List.append_nil,List.append_assoc,Hl,List.nil_append]
  simp only [lla,Hk];omega
 rw [h3,show z.2.toNat=s.waits.length by omega,List.take_length]
 rfl
theorem ui {α:Type} {e:Bool} {A B:Option α} {v:α} (ha:e=true->A=some v) (hb:B=some v):CY (nilK e A B) (· = v):=by
 unfold nilK
 cases e with
 | true=>
  rw [cond_true,if_pos ((ha rfl).trans hb.symm)];exact ⟨v,ha rfl,rfl⟩
 | false=>exact ⟨v,hb,rfl⟩
theorem xp (w:LL) (h:w.length<=9):CY (cG w) (· = w):=
 ui (λe=>by rw [GH.1 e]) (kF<|fP (by simp;omega) rfl)
theorem uY (w:LI) (h:w.length<=9):CY (cT w) (· = w):=
 ui (λe=>by rw [GH.1 e]) (kF<|fP (by simp;omega) rfl)
theorem xq (hp:PV p) (h:IB p sp s) {t:Nat} (ht:t<p.length) {l:Int} (hl:0<=l/\l<=2):CY (bQ s t l) (· = l8 (s.waits.getD (dI s.split t l).toNat default) l (Z3b.get s.values.mem l)):=by
 have := hp.vs.1;have hx:=h.ixl ht hl;unfold bQ;refine .gdD ⟨by omega,by omega⟩<|.gdD hx.2<|.gd ?_<|.pure rfl;refine GG.2 λb hb=>decide_eq_true ?_;have hi:(dI s.split t l).toNat<s.waits.length:=by omega
 rw [gdq,geq hi,GJ] at hb;exact h.by_ _ (GK hi) b hb
theorem uZ (hp:PV p) (h:IB p sp s) {cl:Int->Int} (hi:InT (prg p) cl<|AB s) {m:Int} (hm:m∈mb.mv s):CY (bi s m) (· = mb.af s m):=by
 have iv:=h.iv hi;have hl:=hp.vs.1;have hup:s.values.p.length=p.length:=by rw [h.up]
 have hwl:s.waits.length<=9:=by rw [h.wl];cases sp <;> simp only [cond_true,cond_false] <;> omega
 unfold bi;refine (xp s.waits hwl).bind λv1 e1=>?_;subst e1;rcases qp.1 hm with ⟨t,h1,rfl,h2⟩ | ⟨b,h1,rfl,h2⟩
 ·rw [hup] at h1;refine .bifD (λk=>absurd k<|by omega) λ_=>?_;have hc:sF s.values t=true:=by
   unfold cnB at h2;exact (bae _ _ ▸ h2).1
  have hx:=iv.ins hp h1 hc;have e:mb.af s t=exB s t (nU s.values t):=by
   simp only [mb,h.up];rw [if_neg (by omega)]
  rw [e];refine (wU hp iv h1).bind λv ⟨g1,g2⟩ => ?_;have g3:=g2<|g1.trans hc;have hpc:=iv.pc t (by omega);have hr7:=hp.vs.2 t;have hval:=(h.val iv (by omega:t<3) hx).2;rw [<- g3] at hx hval ⊢;generalize v.1=x at hx hval ⊢;have hX:=hx;obtain ⟨x1,x2,x3,x4,x5,x6⟩:=hX;refine .gdD ⟨by omega,by omega⟩<|.gdY (by omega) ?_;refine CY.bind (P:=λw=>(⟨⟨w.1,w.2.1,w.2.2.1⟩,⟨w.2.2.2.1,w.2.2.2.2.1,w.2.2.2.2.2.1⟩,⟨w.2.2.2.2.2.2.1,w.2.2.2.2.2.2.2.1,w.2.2.2.2.2.2.2.2.1⟩⟩:Z33)=(exB s t x).values.reg/\w.2.2.2.2.2.2.2.2.2=s.waits) ?_ λw5 ⟨hw5,hw6⟩ => ?_
  ·refine (zk _).bind λb hb=>?_;have hb':b=rdX x:=hb;refine .bif (λhc=>(xq hp h h1 ⟨x1,x2⟩).bind λv20 hv20 => .gdD ⟨x3,by omega⟩<|.pure ⟨?_,rfl⟩) λhc => .pure ⟨?_,rfl⟩
   ·simp only [exB];rw [if_pos (by rw [<- hb'];exact hc),hv20]
   simp only [exB];rw [if_neg (by rw [<- hb',hc];decide)]
  refine CY.bind (P:=λw=>(⟨w.1,w.2.1,w.2.2.1⟩:Z3b)=(exB s t x).values.mem/\w.2.2.2=(exB s t x).waits) ?_ λw10 ⟨hw10,hw11⟩ => .pure ?_
  ·rw [hw6];refine CY.bind (P:=(· = rB x)) (.bif (λhc => .pure<|by unfold rB;rw [hc];rfl) λhc => .pure<|by unfold rB;rw [hc];rfl) λb hb=>?_;subst hb;refine .bif (λhs=>?_) λhs=>?_
   ·obtain ⟨o1,o2,o3,o4⟩:=zR hs;refine (pQ s (by omega) ⟨x1,x2⟩).bind λv29 hv29=>?_;subst hv29;have hix:=h.ixl h1 (l:=x.Loc) ⟨x1,x2⟩;have hwb:=h.wlen hp hi (dI s.split t x.Loc).toNat;refine .gdD hix<|.gdY (by omega)<|.gdY (by omega)<|(uY _<|by omega).bind λv33 hv33=>?_;subst hv33;refine CY.bind (P:=(· = rI s.values t x)) ?_ λv37 hv37=>?_
    ·unfold bG rI;refine .bif (λho => .gdD ⟨by omega,by omega⟩<|.gdD ⟨x3,by simp only [];omega⟩<|.pure ?_) λho => .gdY (by simp only [];omega) (.pure ?_)
     ·rw [if_pos (by simpa using ho)]
     rw [if_neg (by simpa using ho)]
    subst hv37;refine .gdY (by omega)<|.gd (fP (by omega) rfl)<|.gdD hix<|.pure ⟨?_,?_⟩
    ·simp only [exB];rw [if_neg o4]
    simp only [exB];rw [if_pos hs]
   refine .bif (λh5 => .gdY (by omega)<|.gdD ⟨x1,by omega⟩<|.pure ⟨?_,?_⟩) λh5 => .pure ⟨?_,?_⟩
   ·simp only [exB];rw [if_pos (by simpa using h5)]
   ·simp only [exB];rw [if_neg (by rw [hs];decide)]
   ·simp only [exB];rw [if_neg (by simpa using h5)]
   simp only [exB];rw [if_neg (by rw [hs];decide)]
  rw [hw5,hw10,hw11]
  rfl
 have hb:(s.waits.getD b default).length<=7:=h.wlen hp hi b;have hne:0<(s.waits.getD b default).length:=Hw.2 h2;have eb:((s.values.p.length:Int)+(b:Int)-(s.values.p.length:Int)).toNat=b:=by omega
 have e:mb.af s ((s.values.p.length:Int)+(b:Int))=flB s b:=by
  simp only [mb];rw [if_pos (by omega),eb]
 rw [e];have hloc:0<=((s.waits.getD b default).getD 0 default).tdiv 16/\((s.waits.getD b default).getD 0 default).tdiv 16<=2:=by
  rw [h.wl] at h1;obtain ⟨t,c,ht,hc,rfl⟩:=rC h1;have hb:=h.bf ht hc;obtain ⟨b,w,hw⟩:=Ht h2;rw [hw,GZ] at hb;have he:=((hi.vl t).2 c (rJ b)<|by show _∈(AB s).bf t c;rw [hb];exact GV).1;rw [hw];exact he
 refine .bifD (λ_=>?_) λk=>absurd (by omega) k;rw [eb];refine .gdI (by omega)<|.gdD ⟨by omega,by omega⟩<|.gdD ⟨GF _,by omega⟩<|.gdD ⟨by omega,by omega,GF _⟩<|.gdD ⟨by omega,by omega⟩<|.gdD (by decide)<|.gdY ?_<|.gdD ⟨hloc.1,?_⟩<|.pure ?_
 ·exact ⟨hloc.1,Int.le_trans hloc.2<|by decide⟩
 ·exact Int.lt_of_le_of_lt hloc.2 (by decide)
 unfold flB;have : ((s.waits.getD b default).drop (1:Int).toNat).take (((s.waits.getD b default).length:Int).toNat-(1:Int).toNat)=(s.waits.getD b default).drop 1:=by
  rw [List.take_of_length_le]
  ·rfl
  rw [List.length_drop];exact G7 _
 rw [this]
 rfl
end
theorem xu {a b:Z3b} (h:∀ t:Nat,t<3->Z3b.get a t=Z3b.get b t):a=b:=by
 have h0:=h 0 (by decide);have h1:=h 1 (by decide);have h2:=h 2 (by decide);rw [Cr,Cr] at h0;rw [Cs,Cs] at h1;rw [Ct,Ct] at h2
 cases a;cases b
 simp only at h0 h1 h2;rw [h0,h1,h2]
theorem zW {a b:Z33} (h:∀ t:Nat,t<3->Z33.get a t=Z33.get b t):a=b:=by
 have h0:a.x0=b.x0:=h 0 (by decide);have h1:a.x1=b.x1:=h 1 (by decide);have h2:a.x2=b.x2:=h 2 (by decide)
 cases a;cases b
 simp only at h0 h1 h2;rw [h0,h1,h2]
theorem rD:∀ {v w:LL},v.length=w.length->(v.flatMap λw=>(w.length:Int)::w)=(w.flatMap λw=>(w.length:Int)::w)->v=w
 | [],[],_,_=>rfl
 | [],_::_,h,_=>by cases h
 | _::_,[],h,_=>by cases h
 | a::v,b::w,h,e=>by
  rw [GU,GU,Hl,Hl] at e;injection e with e1 e2;obtain ⟨e3,e4⟩:=List.append_inj e2 (by omega);rw [e3,rD (by simpa using h) e4]
section
variable {p:List (List CV)} {sp:Bool}
theorem zX {u v:CW} (hp:u.p=v.p) (h1:pcF u.pc=pcF v.pc) (hu:∀ t:Nat,t<3->0<=Z3b.get u.pc t) (hv:∀ t:Nat,t<3->0<=Z3b.get v.pc t) (h2:rgF u.reg=rgF v.reg) (h3:mmF u.mem=mmF v.mem):u=v:=by
 have e1:u.pc=v.pc:=xu λt ht=>by
  have := congrFun h1 t;simp only [pcF,if_pos ht] at this;have := hu t ht;have := hv t ht;omega
 have e2:u.reg=v.reg:=zW λt ht=>xu λg hg=>by
  have := congrFun (congrFun h2 t) g;simp only [rgF] at this
  rwa [if_pos ⟨ht,by omega,by omega⟩,if_pos ⟨ht,by omega,by omega⟩] at this
 have e3:u.mem=v.mem:=xu λl hl=>by
  have := congrFun h3 l;simp only [mmF] at this
  rwa [if_pos ⟨by omega,by omega⟩,if_pos ⟨by omega,by omega⟩] at this
 cases u;cases v
 simp only at hp e1 e2 e3;subst hp e1 e2 e3
 rfl
theorem Bg {s t:aa} (hs:IB p sp s) (ht:IB p sp t) (h:AB s=AB t):s=t:=by
 have e1:s.values=t.values:=zX (hs.up.trans ht.up.symm) (congrArg TS.pc h) hs.pc ht.pc (congrArg TS.rg h)<|congrArg TS.mm h;have e2:s.waits=t.waits:=by
  refine List.ext_getElem (hs.wl.trans ht.wl.symm) λb h1 h2=>?_;rw [hs.wl] at h1;obtain ⟨i,c,hi,hc,rfl⟩:=rC h1;have := congrFun (congrFun (congrArg TS.bf h) i) c;rw [hs.bf hi hc,ht.bf hi hc] at this;have := mG this;rw [<- hs.wl] at h1;simpa [List.getD,h1,h2] using this
 have e3:=hs.sq.trans ht.sq.symm
 cases s;cases t
 simp only at e1 e2 e3;subst e1 e2 e3
 rfl
theorem xw (hp:PV p) {s:aa} (h:IB p sp s) {cl:Int->Int} (hi:InT (prg p) cl<|AB s):∀ x∈Be s,0<=x/\x<=255:=λx hx=>by
 unfold Be at hx;rcases He.1 hx with hx | hx
 ·exact pJ hp (h.iv hi) x hx
 obtain ⟨w,hw,hx⟩:=List.mem_flatMap.1 hx;rcases GL.1 hx with rfl | hx
 ·obtain ⟨b,hb,rfl⟩:=GX hw;have := h.wlen hp hi b;rw [gdq,geq hb,GJ] at this;omega
 exact h.by_ w hw x hx
theorem zY (hp:PW p):Mok mb (il p sp) 549755813888:=
 (xk hp sp).mok (λs t hs ht rs rt h=>by
  have is:=InT.of hp.pv.prg rs;have it:=InT.of hp.pv.prg rt;have e:=lC (xw hp.pv hs is) (xw hp.pv ht it) h;unfold Be at e;obtain ⟨e1,e2⟩:=List.append_inj e rfl;have e3:=qo (hs.up.trans ht.up.symm) e1;have e4:=rD (hs.wl.trans ht.wl.symm) e2;have e5:=hs.sq.trans ht.sq.symm
  cases s;cases t
  simp only at e3 e4 e5;subst e3 e4 e5
  rfl) (λs t hs ht h=>Bg hs ht h) hp.cnl
theorem zZ (hp:PW p):Mrt bh bi aZ bu (λs=>aG s.values) mb (il p sp):=by
 have B:=xk hp sp;have hi:∀ {s},Rea mb (il p sp) s->InT (prg p) (clB sp) (AB s):=λh=>InT.of hp.pv.prg (B.rea h).2;refine ⟨λs hs=>uX hp.pv (B.rea hs).1<|(B.rea hs).1.iv<|hi hs,λs m hs hm=>uZ hp.pv (B.rea hs).1 (hi hs) hm,λs hs=>yA hp.pv (B.rea hs).1<|hi hs,λs hs=>xn hp.pv (B.rea hs).1<|(B.rea hs).1.iv<|hi hs,λs hs _=>tX hp.pv<|(B.rea hs).1.iv<|hi hs,λs hs=>?_⟩;have h1:=nY (cnB s) Int.ofNat s.values.p.length;have h2:=nY (λb => !(s.waits.getD b default).isEmpty) (λb:Nat=>(s.values.p.length:Int)+(b:Int)) s.waits.length;have h3:=hp.pv.vs.1;have h4:=(B.rea hs).1.wl;have h5:=(B.rea hs).1.up;have h6:s.waits.length<=9:=by rw [h4];cases sp <;> simp only [cond_true,cond_false] <;> omega
 have e:mb.mv s=fil (cnB s) Int.ofNat s.values.p.length++fil (λb => !(s.waits.getD b default).isEmpty) (λb:Nat=>(s.values.p.length:Int)+(b:Int)) s.waits.length:=rfl;rw [e,lla];have : s.values.p.length<=3:=by rw [h5];exact h3
 omega
theorem yB (hp:PV p) (sp:Bool):CY (dU p sp) (· = il p sp):=by
 have := hp.vs.1;unfold dU;refine .gdD ⟨by omega,GF _,by omega,by omega⟩ ?_;refine CY.bind (P:=(· = List.replicate (bif sp then 3*p.length else p.length) [])) (.bif (λh => .gdI (by omega)<|.gdD ⟨by omega,GF _,by omega,by omega⟩<|.pure ?_) λh => .pure ?_) λv hv => .pure ?_
 ·rw [h,cond_true];congr 1
 ·rw [h,cond_false];congr 1
 rw [hv];rfl
structure Run (O:List Int->Prop) (q:List (List Int)):Prop where
 lt:q.Pairwise ltL
 mem:∀ o,o∈q↔O o
 len:q.length<=549755813888
def yC (p:List<|List CV) (sp:Bool):LI->Prop:=BL (prg p) false (clB sp) p.length
theorem uj (hp:PW p) (hv:ak p=some true) (sp:Bool):CY (cV p sp) λq=>Run (yC p sp) q.1:=by
 unfold cV;rw [hv];refine CY.bind (P:=(· = true)) (.pure rfl) λb hb => .bif (λh=>absurd h (by rw [hb];decide)) λ_=>?_;refine (yB hp.pv sp).bind λv ev=>?_;subst ev;refine CY.bind (P:=λq:LL×Int=>Run (yC p sp) q.1) ?_ λq hq => .pure hq;have e:bW (il p sp)=BI bh bi aZ bu (λs=>aG s.values) aH (il p sp):=rfl;rw [e];have B:=xk hp sp;have hQ:∀ l:LL,l.length<=549755813888->(∀ o∈l,Ar mb (il p sp) o)->CY (aH l) λq=>Sor l q/\l.length<=549755813888:=λl hl ho=>(pG (by omega) λr hr=>by
  obtain ⟨s,h1,_,rfl⟩:=ho r hr;have h2:=(B.rea h1).1.up;have h3:=hp.pv.vs.1;show (wT s.values).length<=_;rw [ub,h2];omega).mono λq h=>⟨h,hl⟩
 exact (wR (Q:=λl q=>Sor l q/\l.length<=549755813888) (zY hp) (zZ hp) (by decide) hQ).mono λq ⟨l,⟨h1,h3⟩,h2,_⟩=>⟨h1.lt,λo=>(h1.mem o).trans<|(h2 o).trans<|B.outs o,Hf h1.len h3⟩
theorem Bh (hp:PV p) (cl:Int->Int):Bis AY ⟨v0 p⟩ (StT (prg p) true cl) a0T (DnT<|prg p) (outT p.length) (λs=>Iv p s.values) AS:=by
 have hl:=hp.vs.1;have hex:∀ (s:CX) (t:Nat) (x:CV),Iv p s.values->t<p.length->InR x->AS ⟨wQ s.values t x⟩=exT true cl (AS s) t x:=λs t x h ht hx=>by
  have ht3:t<3:=by omega
  have hloc:0<=x.Loc/\x.Loc<=2:=⟨hx.1,hx.2.1⟩;have hreg:0<=x.Reg/\x.Reg<=2:=⟨hx.2.2.1,hx.2.2.2.1⟩;have hv:rI s.values t x=sH (AS s) t x:=by
   unfold rI sH
   split
   ·simp only [AS,rgF];rw [if_pos ⟨ht3,hreg⟩]
   rfl
  have hm:(AS s).mm x.Loc=Z3b.get s.values.mem x.Loc:=if_pos hloc;have hse:jX cl (AS s) t x.Loc=Z3b.get s.values.mem x.Loc:=hm;refine TS.ext ?_ ?_ ?_ ?_
  ·have := h.pc t ht3;simp only [AS,wQ,exT];rw [xa _ ht3]
   congr 1
   simp only [pcF,if_pos ht3];omega
  ·rw [zm,hse];simp only [AS,wQ]
   split
   ·rw [xc _ ht3 hreg]
   rfl
  ·rw [zn,<- hv];simp only [AS,wQ,Bool.true_or,Bool.and_true]
   split
   ·rw [sI _ hloc]
   rfl
  rw [zo];simp [AS]
 refine ⟨Iv.start p,?_,λs m h hr hm=>?_,λs a h hr hs=>?_,λs h hr=>?_,λs h hr _=>?_⟩
 ·obtain ⟨h1,h2,h3⟩:=ug p;exact TS.ext h1 h2 h3 rfl
 ·obtain ⟨t,h1,rfl,h2⟩:=gz.1 hm;rw [h.up] at h1;have hx:=h.ins hp h1 h2;show Iv p (wQ _ t<|nU _ t)/\_;refine ⟨h.after (by omega) h2 hx,?_⟩;show StT _ _ _ _ (AS ⟨wQ s.values t<|nU s.values t⟩);rw [hex s t _ h h1 hx];exact .ex ⟨(jf h.up (by omega:t<3) (h.pc t<|by omega).1).1 h2,λ_ _=>rfl⟩
 ·cases hs with
  | @ex t x hc=>
   have ht:=uf hc.1;obtain ⟨h3,rfl⟩:=(jf h.up (by omega:t<3) (h.pc t<|by omega).1).2 x hc.1;exact ⟨t,gz.2 ⟨t,by rw [h.up];exact ht,rfl,h3⟩,hex s t _ h ht<|hp.prg _ _ _ hc.1⟩
  | fl hb=>cases hb
 ·show (nT s.values).isEmpty=true↔_;rw [GH];refine ⟨λg=>⟨λt=>?_,λ_ _=>rfl⟩,λg=>?_⟩
  ·rcases GN t p.length with ht | ht
   ·refine Decidable.byContradiction λk=>?_;have := ((jf h.up (by omega:t<3) (h.pc t<|by omega).1).2 _<|geq<|Nat.lt_of_not_le k).1;have : (t:Int)∈nT s.values:=gz.2 ⟨t,by rw [h.up];exact ht,rfl,this⟩;rw [g] at this;cases this
   unfold prg;rw [gdq,gen ht];exact GM _
  refine Hu.2 λm hm=>?_;obtain ⟨t,ht,rfl,hc⟩:=gz.1 hm;rw [h.up] at ht;have := (ges<|(jf h.up (by omega:t<3) (h.pc t<|by omega).1).1 hc).1;have := g.1 t;simp only [AS] at this;omega
 have := zq (u:=s.values) (a:=AS s) rfl rfl (by rw [h.up];exact hl);rw [h.up] at this;exact this.symm
theorem uk (hp:PV p) (cl:Int->Int) (o:LI):yp p o↔BL (prg p) true cl p.length o:=(Bh hp cl).outs o
theorem yD (hp:PV p) (hv:ak p=some true):CY (dS p) (Run<|yp p):=by
 have h0:Iv p (⟨v0 p⟩:CX).values:=Iv.start p;have e:dJ ⟨v0 p⟩=BI bY bZ bz bA (λs=>aG s.values) aH ⟨v0 p⟩:=rfl;have hQ:∀ l:LL,l.length<=8589934592->(∀ o∈l,yp p o)->CY (aH l) λq=>Sor l q/\l.length<=8589934592:=λl hl ho=>(pG (by omega) λr hr=>by
  obtain ⟨s,h1,_,rfl⟩:=ho r hr;have h2:=(lD hp h0 h1).up;have h3:=hp.vs.1;show (wT s.values).length<=_;rw [ub,h2];omega).mono λq h=>⟨h,hl⟩
 have hr:=(wR (Q:=λl q=>Sor l q/\l.length<=8589934592) (zP hp h0) (zQ hp h0) (by decide) hQ).mono (P':=λq=>Run (yp p) q.1) λq ⟨l,⟨h1,h3⟩,h2,_⟩=>⟨h1.lt,λo=>(h1.mem o).trans<|h2 o,Hf h1.len<|by omega⟩;unfold dS;rw [hv];refine CY.bind (P:=(· = true)) (.pure rfl) λb hb => .bif (λh=>absurd h<|by rw [hb];decide) λ_=>?_;exact CY.bind (P:=λs:CX=>s=⟨v0 p⟩) (.pure rfl) λv hv=>CY.bind (P:=λq:LL×Int=>Run (yp p) q.1) (hv ▸ (e ▸ hr)) λq hq => .pure hq
theorem ul (n:Nat) (a:TS):(outT n a).length=3*n+3:=by
 unfold outT;rw [lla];have : ∀ n,((GI n).flatMap λt=>(GI 3).map λg:Nat=>a.rg t g).length=3*n:=λn=>by
  induction n with
  | zero=>rfl
  | succ n ih=>
   rw [show GI (n+1)=GI n++[n] from List.range_succ,Hv,lla,ih];simp;omega
 rw [this];simp
theorem um {o:LI} (h:yC p sp o):o.length=3*p.length+3:=by
 obtain ⟨a,_,_,rfl⟩:=h;exact ul _ _
theorem yE (hp:PV p) {o:LI} (h:yp p o):o.length=3*p.length+3:=by
 obtain ⟨a,_,_,rfl⟩:=(uk hp id o).1 h;exact ul _ _
theorem z7 (hp:PV p) {o:LI} (h:yp p o) (sp:Bool):yC p sp o:=yt<|(uk hp (clB sp) o).1 h
theorem PW.of (h:fB (p.map λr=>r.map kH)=true):PW p:=by
 have hp:=PV.of h;refine ⟨hp,?_,λt k x hx=>?_⟩
 ·have hc:ma pz (p.map λr=>r.map kH)<=12:=by
   simp only [fB,mF,bae,dte] at h;exact h.1.1.2
  have he:∀ l:List CV,evN l=(l.map kH).countP pz:=λl=>by
   unfold evN;rw [List.countP_map]
   rfl
  have hl:=hp.vs.1;unfold ma at hc;have hd:(default:List CV)=[]:=rfl;unfold prg
  match p,hl with
  | [],_=>simp [he,hd]
  | [a],_=>simp [he,hd] at hc ⊢;omega
  | [a,b],_=>simp [he,hd] at hc ⊢;omega
  | [a,b,c],_=>simp [he,hd] at hc ⊢;omega
  | _::_::_::_::_,hl=>simp at hl
 have ht:=uf hx;obtain ⟨hk,e⟩:=ges hx;have h1:=(Vs.of h).2 t k ht hk;have e2:(p.getD t default).getD k default=x:=by
  rw [gdq];unfold Go.Proofs.YtjcmfddobaplbaaGreat.prg at hx;rw [hx];rfl
 rw [e2] at h1;unfold iG kH at h1;simp only at h1
 split at h1
 ·omega
 split at h1
 ·omega
 split at h1
 ·omega
 split at h1
 ·omega
 cases h1
end
def bC (s1_:List CV) (s2_:List CV):LS Int (Unit ⊕ Bool):=λs5=>bif decide (s5<(s1_.length:Int)) then gd (decide<|0<=s5/\s5<(s1_.length:Int)) <|gd (decide<|0<=s5/\s5<(s2_.length:Int)) <|bif (!(((s1_.getD s5.toNat default).Op)==((s2_.getD s5.toNat default).Op)&&(((s1_.getD s5.toNat default).Loc)==((s2_.getD s5.toNat default).Loc)&&(((s1_.getD s5.toNat default).Reg)==((s2_.getD s5.toNat default).Reg)&&(((s1_.getD s5.toNat default).Val)==((s2_.getD s5.toNat default).Val)&&true))))) then some (.inr<|.inr false) else gd (CS .i64<|s5+(1:Int)) <|some (.inl<|s5+(1:Int)) else some (.inr<|.inl ())
def aJ (s1_:List CV) (s2_:List CV):Option Bool:= bif ((s1_.length:Int) != (s2_.length:Int)) then some false else sumK (dH (bC s1_ s2_) (0:Int)) λs2=>some true
def ek (x:List CV) (y:List CV):Option Bool:= GD (aJ x y) λv1=>some v1
def au (s1_:List<|List CV) (s2_:List<|List CV):LS Int (Unit ⊕ Bool):=λs5=>bif decide (s5<(s1_.length:Int)) then gd (decide<|0<=s5/\s5<(s1_.length:Int)) <|gd (decide<|0<=s5/\s5<(s2_.length:Int)) <|GD (ek (s1_.getD s5.toNat default)<|s2_.getD s5.toNat default) λv10=>bif !v10 then some (.inr<|.inr false) else gd (CS .i64<|s5+(1:Int)) <|some (.inl<|s5+(1:Int)) else some (.inr<|.inl ())
def ai (s1_:List<|List CV) (s2_:List<|List CV):Option Bool:= bif ((s1_.length:Int) != (s2_.length:Int)) then some false else sumK (dH (au s1_ s2_) (0:Int)) λs2=>some true
def cn (a:List<|List CV) (b:List<|List CV):Option Bool:= GD (ai a b) λv1=>some v1
def eB (code:LI):Option ah:= GD (bif decide ((2000:Int)<(code.length:Int)) then gd (decide<|0<=(0:Int)/\(0:Int)<=(2000:Int)/\(2000:Int)<=(code.length:Int)) <|some ((code.drop (0:Int).toNat).take<|(2000:Int).toNat-(0:Int).toNat) else some code) λs1=>some (⟨s1,(0:Int)⟩:ah)
def aV (r_:ah) (n:Int):Option (ah×Int):= gd (CS .i64<|r_.p+(1:Int)) <|GD (bif decide (n<(1:Int)) then some true else some ((r_.b.length:Int)==(0:Int))) λs2=>bif s2 then some ((⟨r_.b,(r_.p+(1:Int))⟩:ah),(0:Int)) else gd (CS .i64<|(r_.p+(1:Int))-(1:Int)) <|bif decide (((r_.p+(1:Int))-(1:Int))<(r_.b.length:Int)) then gd (decide<|0<=((r_.p+(1:Int))-(1:Int))/\((r_.p+(1:Int))-(1:Int))<(r_.b.length:Int)) <|gd (CS .i64<|r_.b.getD ((r_.p+(1:Int))-(1:Int)).toNat default) <|gd (decide<|n≠0) <|some ((⟨r_.b,(r_.p+(1:Int))⟩:ah),((r_.b.getD ((r_.p+(1:Int))-(1:Int)).toNat default).tmod n)) else gd (decide<|(r_.b.length:Int)≠0) <|gd (decide<|0<=(((r_.p+(1:Int))-(1:Int)).tmod (r_.b.length:Int))/\(((r_.p+(1:Int))-(1:Int)).tmod (r_.b.length:Int))<(r_.b.length:Int)) <|gd (CS .i64<|r_.b.getD (((r_.p+(1:Int))-(1:Int)).tmod (r_.b.length:Int)).toNat default) <|gd (CS .i64<|(r_.b.getD (((r_.p+(1:Int))-(1:Int)).tmod (r_.b.length:Int)).toNat default)*(131:Int)) <|gd (CS .i64<|((r_.p+(1:Int))-(1:Int))*(7:Int)) <|gd (CS .i64<|(((r_.p+(1:Int))-(1:Int))*(7:Int))+(3:Int)) <|gd (decide<|0<=(((((r_.p+(1:Int))-(1:Int))*(7:Int))+(3:Int)).tmod (r_.b.length:Int))/\(((((r_.p+(1:Int))-(1:Int))*(7:Int))+(3:Int)).tmod (r_.b.length:Int))<(r_.b.length:Int)) <|gd (CS .i64<|r_.b.getD (((((r_.p+(1:Int))-(1:Int))*(7:Int))+(3:Int)).tmod (r_.b.length:Int)).toNat default) <|gd (CS .i64<|(r_.b.getD (((((r_.p+(1:Int))-(1:Int))*(7:Int))+(3:Int)).tmod (r_.b.length:Int)).toNat default)*(1117:Int)) <|gd (CS .i64<|((r_.b.getD (((r_.p+(1:Int))-(1:Int)).tmod (r_.b.length:Int)).toNat default)*(131:Int))+((r_.b.getD (((((r_.p+(1:Int))-(1:Int))*(7:Int))+(3:Int)).tmod (r_.b.length:Int)).toNat default)*(1117:Int))) <|gd (CS .i64<|((r_.p+(1:Int))-(1:Int))*(29:Int)) <|gd (CS .i64<|(((r_.b.getD (((r_.p+(1:Int))-(1:Int)).tmod (r_.b.length:Int)).toNat default)*(131:Int))+((r_.b.getD (((((r_.p+(1:Int))-(1:Int))*(7:Int))+(3:Int)).tmod (r_.b.length:Int)).toNat default)*(1117:Int)))+(((r_.p+(1:Int))-(1:Int))*(29:Int))) <|gd (CS .i64<|((r_.p+(1:Int))-(1:Int)).tdiv (r_.b.length:Int)) <|gd (CS .i64<|(((r_.p+(1:Int))-(1:Int)).tdiv (r_.b.length:Int))*(53:Int)) <|gd (CS .i64<|((((r_.b.getD (((r_.p+(1:Int))-(1:Int)).tmod (r_.b.length:Int)).toNat default)*(131:Int))+((r_.b.getD (((((r_.p+(1:Int))-(1:Int))*(7:Int))+(3:Int)).tmod (r_.b.length:Int)).toNat default)*(1117:Int)))+(((r_.p+(1:Int))-(1:Int))*(29:Int)))+((((r_.p+(1:Int))-(1:Int)).tdiv (r_.b.length:Int))*(53:Int))) <|gd (decide<|(64:Int)≠0) <|gd (CS .i64<|(((((r_.b.getD (((r_.p+(1:Int))-(1:Int)).tmod (r_.b.length:Int)).toNat default)*(131:Int))+((r_.b.getD (((((r_.p+(1:Int))-(1:Int))*(7:Int))+(3:Int)).tmod (r_.b.length:Int)).toNat default)*(1117:Int)))+(((r_.p+(1:Int))-(1:Int))*(29:Int)))+((((r_.p+(1:Int))-(1:Int)).tdiv (r_.b.length:Int))*(53:Int))).tdiv (64:Int)) <|GD (some<|BD .i64 (((((r_.b.getD (((r_.p+(1:Int))-(1:Int)).tmod (r_.b.length:Int)).toNat default)*(131:Int))+((r_.b.getD (((((r_.p+(1:Int))-(1:Int))*(7:Int))+(3:Int)).tmod (r_.b.length:Int)).toNat default)*(1117:Int)))+(((r_.p+(1:Int))-(1:Int))*(29:Int)))+((((r_.p+(1:Int))-(1:Int)).tdiv (r_.b.length:Int))*(53:Int)))<|(((((r_.b.getD (((r_.p+(1:Int))-(1:Int)).tmod (r_.b.length:Int)).toNat default)*(131:Int))+((r_.b.getD (((((r_.p+(1:Int))-(1:Int))*(7:Int))+(3:Int)).tmod (r_.b.length:Int)).toNat default)*(1117:Int)))+(((r_.p+(1:Int))-(1:Int))*(29:Int)))+((((r_.p+(1:Int))-(1:Int)).tdiv (r_.b.length:Int))*(53:Int))).tdiv (64:Int)) λw27=>gd (decide<|n≠0) <|some ((⟨r_.b,(r_.p+(1:Int))⟩:ah),(w27.tmod n))
def dB (r_:ah) (list:LI):Option (ah×Int):= GD (aV (⟨r_.b,r_.p⟩:ah) (list.length:Int)) λv1=>gd (decide<|0<=v1.2/\v1.2<(list.length:Int)) <|some ((⟨v1.1.b,v1.1.p⟩:ah),(list.getD v1.2.toNat default))
def cH (code:LI):Option Int:= GD (eB code) λv1=>GD (aV (⟨v1.b,v1.p⟩:ah) (10:Int)) λv2=>bif (v2.2==(0:Int)) then GD (dB (⟨v2.1.b,v2.1.p⟩:ah) ([(-1:Int),(1296:Int),(1295:Int),(0:Int)]:LI)) λv4=>some v4.2 else GD (aV (⟨v2.1.b,v2.1.p⟩:ah) (36:Int)) λv5=>gd (CS .i64<|v5.2*(36:Int)) <|GD (aV (⟨v5.1.b,v5.1.p⟩:ah) (36:Int)) λv7=>gd (CS .i64<|(v5.2*(36:Int))+v7.2) <|some<|(v5.2*(36:Int))+v7.2
def dV:Option Int:= some (1296:Int)
def gB (x:Int) (low:Int) (high:Int):Option Bool:= GD (bif decide (low<=x) then some (decide<|x<=high) else some false) λs1=>some s1
def dK:Option (List CV):= some ([(⟨(2:Int),(0:Int),(0:Int),(1:Int)⟩:CV),(⟨(2:Int),(1:Int),(0:Int),(1:Int)⟩:CV),(⟨(1:Int),(0:Int),(0:Int),(0:Int)⟩:CV),(⟨(1:Int),(1:Int),(1:Int),(0:Int)⟩:CV),(⟨(4:Int),(0:Int),(0:Int),(0:Int)⟩:CV),(⟨(5:Int),(0:Int),(2:Int),(2:Int)⟩:CV)]:List CV)
def eD (n:Int):Option (List<|List CV):= GD (dK) λv1=>gd (decide<|(216:Int)≠0) <|gd (CS .i64<|n.tdiv (216:Int)) <|gd (decide<|0<=(n.tdiv (216:Int))/\(n.tdiv (216:Int))<(v1.length:Int)) <|gd (decide<|(36:Int)≠0) <|gd (CS .i64<|n.tdiv (36:Int)) <|gd (decide<|(6:Int)≠0) <|gd (decide<|0<=((n.tdiv (36:Int)).tmod (6:Int))/\((n.tdiv (36:Int)).tmod (6:Int))<(v1.length:Int)) <|gd (CS .i64<|n.tdiv (6:Int)) <|gd (decide<|0<=((n.tdiv (6:Int)).tmod (6:Int))/\((n.tdiv (6:Int)).tmod (6:Int))<(v1.length:Int)) <|gd (decide<|0<=(n.tmod (6:Int))/\(n.tmod (6:Int))<(v1.length:Int)) <|some ([([(v1.getD (n.tdiv (216:Int)).toNat default),(v1.getD ((n.tdiv (36:Int)).tmod (6:Int)).toNat default)]:List CV),([(v1.getD ((n.tdiv (6:Int)).tmod (6:Int)).toNat default),(v1.getD (n.tmod (6:Int)).toNat default)]:List CV)]:List<|List CV)
def dC (n:Int):Option ((List<|List CV)×Bool):= GD (dV) λv1=>gd (CS .i64<|v1-(1:Int)) <|GD (gB n (0:Int)<|v1-(1:Int)) λv3=>bif !v3 then some (([]:List<|List CV),false) else GD (eD n) λv5=>some (v5,true)
def dD:Option (List CV):= some ([(⟨(2:Int),(0:Int),(0:Int),(1:Int)⟩:CV),(⟨(2:Int),(1:Int),(0:Int),(1:Int)⟩:CV),(⟨(1:Int),(0:Int),(0:Int),(0:Int)⟩:CV),(⟨(1:Int),(1:Int),(1:Int),(0:Int)⟩:CV),(⟨(4:Int),(0:Int),(0:Int),(0:Int)⟩:CV),(⟨(5:Int),(0:Int),(2:Int),(2:Int)⟩:CV)]:List CV)
def dW:Option Int:= GD (dD) λv1=>gd (CS .i64<|(v1.length:Int)*(v1.length:Int)) <|gd (CS .i64<|((v1.length:Int)*(v1.length:Int))*(v1.length:Int)) <|gd (CS .i64<|(((v1.length:Int)*(v1.length:Int))*(v1.length:Int))*(v1.length:Int)) <|some<|(((v1.length:Int)*(v1.length:Int))*(v1.length:Int))*(v1.length:Int)
def dX (v1:(List CV)):LS ((List<|List CV)×Int×Int) (List<|List CV):=λs6=>bif decide ((0:Int)<=s6.2.1) then gd (decide<|(2:Int)≠0) <|gd (CS .i64<|s6.2.1.tdiv (2:Int)) <|gd (decide<|(v1.length:Int)≠0) <|gd (decide<|0<=(s6.2.2.tmod (v1.length:Int))/\(s6.2.2.tmod (v1.length:Int))<(v1.length:Int)) <|gd (decide<|0<=(s6.2.1.tdiv (2:Int))/\(s6.2.1.tdiv (2:Int))<(s6.1.length:Int)) <|gd (fH (([(v1.getD (s6.2.2.tmod (v1.length:Int)).toNat default)]:List CV).length+(s6.1.getD ((s6.2.1.tdiv (2:Int)).toNat) default).length) 32) <|gd (CS .i64<|s6.2.2.tdiv (v1.length:Int)) <|gd (CS .i64<|s6.2.1-(1:Int)) <|some (.inl ((s6.1.set ((s6.2.1.tdiv (2:Int)).toNat)<|([(v1.getD (s6.2.2.tmod (v1.length:Int)).toNat default)]:List CV)++(s6.1.getD ((s6.2.1.tdiv (2:Int)).toNat) default)),(s6.2.1-(1:Int)),(s6.2.2.tdiv (v1.length:Int)))) else some (.inr s6.1)
def fQ (n:Int):Option (List<|List CV):= GD (dD) λv1=>GD (dH (dX v1) (([([]:List CV),([]:List CV)]:List<|List CV),(3:Int),n)) λs2=>some s2
def dE (n:Int):Option ((List<|List CV)×Bool):= GD (bif decide (n<(0:Int)) then some true else GD (dW) λv3=>some<|decide<|v3<=n) λs1=>bif s1 then some (([]:List<|List CV),false) else GD (fQ n) λv5=>some (v5,true)
def cf (name:ByteArray):Option Bool:= GD (bif decide (name=(⟨#[115,101,113]⟩:ByteArray)) then some true else some (decide<|name=(⟨#[116,115,111]⟩:ByteArray))) λs1=>GD (bif s1 then some true else some (decide<|name=(⟨#[112,115,111]⟩:ByteArray))) λs3=>GD (bif s3 then some true else some (decide<|name=(⟨#[114,97]⟩:ByteArray))) λs5=>some s5
def fI (x:LI) (a1:LI):Option Bool:= GD (bq x a1) λv1=>some v1
def aU (s:LL) (f0:LI):LS Int (Unit ⊕ Int):=λs4=>bif decide (s4<(s.length:Int)) then gd (decide<|0<=s4/\s4<(s.length:Int)) <|GD (fI (s.getD s4.toNat default) f0) λv8=>bif v8 then some (.inr<|.inr s4) else gd (CS .i64<|s4+(1:Int)) <|some (.inl<|s4+(1:Int)) else some (.inr<|.inl ())
def aN (s:LL) (f0:LI):Option Int:= sumK (dH (aU s f0) (0:Int)) λs1=>some (-1:Int)
def ay (s:LL) (f0:LI):Option Bool:= GD (aN s f0) λv1=>some<|decide<|(0:Int)<=v1
def gW (a:LL) (b:LL):LS Int (Unit ⊕ Bool):=λs4=>bif decide (s4<(a.length:Int)) then gd (decide<|0<=s4/\s4<(a.length:Int)) <|GD (ay b<|a.getD s4.toNat default) λv8=>bif !v8 then some (.inr<|.inr false) else gd (CS .i64<|s4+(1:Int)) <|some (.inl<|s4+(1:Int)) else some (.inr<|.inl ())
def cW (a:LL) (b:LL):Option Bool:= sumK (dH (gW a b) (0:Int)) λs1=>some true
def bV (a:LL) (b:LL):Option Int:= GD (cW a b) λv1=>GD (cW b a) λv2=>GD (bif v1 then some v2 else some false) λs3=>bif s3 then some (0:Int) else bif v1 then some (1:Int) else bif v2 then some (2:Int) else some (3:Int)
def cZ (p:List<|List CV) (a:ByteArray) (b:ByteArray):Option Bool:= GD (ak p) λv1=>GD (bif v1 then GD (cf a) λv4=>some v4 else some false) λs2=>GD (bif s2 then GD (cf b) λv7=>some v7 else some false) λs5=>GD (bif s5 then GD (ax p a) λv10=>GD (ax p b) λv11=>GD (bV v10 v11) λv12=>some (v12 != (0:Int)) else some false) λs8=>some s8
def bH (p:List<|List CV) (name:ByteArray):Option Bool:= GD (ak p) λv1=>GD (bif v1 then GD (cf name) λv4=>some v4 else some false) λs2=>GD (bif s2 then GD (ax p name) λv7=>GD (dS p) λv8=>GD (cW v7 v8) λv9=>some v9 else some false) λs5=>some s5
def bS (code:LI):Option Bool:= bif decide ((1048576:Int)<(code.length:Int)) then some true else GD (cH code) λv2=>GD (dC v2) λv3=>GD (dE v2) λv4=>GD (bif (!(v3.2==v4.2)) then some true else GD (cn v3.1 v4.1) λv7=>some<|!v7) λs5=>GD (bif s5 then some true else some (!v3.2)) λs8=>bif s8 then GD (bif (v3.2==v4.2) then GD (cn v3.1 v4.1) λv13=>some v13 else some false) λs11=>some s11 else GD (ak v3.1) λv14=>GD (bif !v14 then some true else GD (cZ v3.1 (⟨#[115,101,113]⟩:ByteArray) (⟨#[116,115,111]⟩:ByteArray)) λv17=>GD (bH v3.1 (⟨#[116,115,111]⟩:ByteArray)) λv18=>GD (bif (v17==(!v18)) then GD (cZ v3.1 (⟨#[115,101,113]⟩:ByteArray) (⟨#[112,115,111]⟩:ByteArray)) λv21=>GD (bH v3.1 (⟨#[112,115,111]⟩:ByteArray)) λv22=>some (v21==(!v22)) else some false) λs19=>some s19) λs15=>some s15
theorem z8 {b:LL} {o:LI} (hb:∀ r∈b,r.length<=1048576) (hl:b.length<=1099511627776):CY (ay b o) (· = decide (o∈b)):=by
 unfold ay;refine CY.bind (P:=λv:Int=>decide (0<=v)=decide (o∈b)) ?_ λv hv => .pure hv;unfold aN;refine CY.sum (PS:=λ_=>o∉b) (PW:=λv:Int=>decide (0<=v)=decide (o∈b)) ?_ λ_ he => .pure (by rw [decide_eq_false he];rfl);refine CY.loop (λi=>(0<=i/\i<=(b.length:Int))/\∀ j:Nat,(j:Int)<i->b[j]? ≠ some o) (λi=>((b.length:Int)-i).toNat) ⟨⟨GF _,by omega⟩,λj hj=>by omega⟩ λi ⟨⟨h1,h2⟩,h3⟩ => ?_;unfold aU;refine .bifD (λhlt => .gdD ⟨h1,hlt⟩ ?_) λhge => .pure ?_
 ·have hi:i.toNat<b.length:=by omega
  have eb:b.getD i.toNat default=b[i.toNat]:=by simp [List.getD,hi]
  rw [eb];refine CY.bind (P:=(· = decide (b[i.toNat]=o))) ?_ λv hv=>?_
  ·unfold fI;exact (rz _ _<|hb _<|GK hi).bind λv hv => .pure hv
  subst hv;refine .bifD (λhe => .pure ?_) λhne => .gdI (by omega)<|.pure ⟨⟨⟨by omega,by omega⟩,λj hj=>?_⟩,by omega⟩
  ·simp only [];rw [decide_eq_true h1,decide_eq_true (he ▸ GK hi)]
  by_cases e:j=i.toNat
  ·subst e;rw [geq hi];exact λh=>hne<|osl h
  exact h3 j (by omega)
 simp only [];intro hm;obtain ⟨j,hj,rfl⟩:=GX hm;exact h3 j (by omega)<|geq hj
theorem jg {a b:LL} (hb:∀ r∈b,r.length<=1048576) (hl:b.length<=1099511627776) (ha:a.length<=1099511627776):CY (cW a b) (· = decide (∀ o∈a,o∈b)):=by
 unfold cW;refine CY.sum (PS:=λ_=>∀ o∈a,o∈b) (PW:=(· = decide (∀ o∈a,o∈b))) ?_ λ_ he => .pure (decide_eq_true he).symm;refine CY.loop (λi=>(0<=i/\i<=(a.length:Int))/\∀ (j:Nat) (o:LI),(j:Int)<i->a[j]? = some o->o∈b) (λi=>((a.length:Int)-i).toNat) ⟨⟨GF _,by omega⟩,λj o hj=>by omega⟩ λi ⟨⟨h1,h2⟩,h3⟩ => ?_;unfold gW;refine .bifD (λhlt => .gdD ⟨h1,hlt⟩ ?_) λhge => .pure ?_
 ·have hi:i.toNat<a.length:=by omega
  have eb:a.getD i.toNat default=a[i.toNat]:=by simp [List.getD,hi]
  rw [eb];refine (z8 hb hl).bind λv hv=>?_;subst hv;rw [<- decide_not];refine .bifD (λhn => .pure ?_) λhn => .gdI (by omega)<|.pure ⟨⟨⟨by omega,by omega⟩,λj o hj ho=>?_⟩,by omega⟩
  ·exact (decide_eq_false λh=>hn<|h _<|GK hi).symm
  by_cases e:j=i.toNat
  ·subst e;rw [geq hi] at ho;rw [<- osl ho];exact Decidable.not_not.1 hn
  exact h3 j o (by omega) ho
 simp only [];intro o hm;obtain ⟨j,hj,rfl⟩:=GX hm;exact h3 j _ (by omega)<|geq hj
section
variable {p:List (List CV)}
structure RunL (p:List (List CV)) (O:List Int->Prop) (q:List (List Int)):Prop where
 run:Run O q
 row:∀ r∈q,r.length=3*p.length+3
theorem RunL.small (hp:PV p) {O:LI->Prop} {q:LL} (h:RunL p O q):(∀ r∈q,r.length<=1048576)/\q.length<=1099511627776:=by
 have := hp.vs.1;have := h.run.len;exact ⟨λr hr=>by rw [h.row r hr];omega,by omega⟩
abbrev B0:ByteArray:=⟨#[115,101,113]⟩
abbrev CH:ByteArray:=⟨#[116,115,111]⟩
abbrev CI:ByteArray:=⟨#[112,115,111]⟩
theorem Bi (hp:PV p) (hv:ak p=some true):CY (dS p) (RunL p<|yp p):=(yD hp hv).mono λq h=>⟨h,λr hr=>yE hp<|(h.mem r).1 hr⟩
theorem yF (hp:PV p) (hv:ak p=some true):CY (ax p B0) (RunL p<|yp p):=by
 unfold ax;exact .bifD (λ_=>(Bi hp hv).bind λq h => .pure h) λh=>absurd rfl h
theorem yG (hp:PW p) (hv:ak p=some true):CY (ax p CH) (RunL p<|yC p false):=by
 unfold ax;refine .bifD (λh=>absurd h<|by decide) λ_ => .bifD (λ_=>?_) λh=>absurd rfl h;refine CY.bind (P:=RunL p<|yC p false) ?_ λq h => .pure h;unfold iH;exact (uj hp hv false).bind λq h => .pure ⟨h,λr hr=>um<|(h.mem r).1 hr⟩
theorem yH (hp:PW p) (hv:ak p=some true):CY (ax p CI) (RunL p<|yC p true):=by
 unfold ax;refine .bifD (λh=>absurd h<|by decide) λ_ => .bifD (λh=>absurd h<|by decide) λ_ => .bifD (λ_=>?_) λh=>absurd rfl h;refine CY.bind (P:=RunL p<|yC p true) ?_ λq h => .pure h;unfold iI;exact (uj hp hv true).bind λq h => .pure ⟨h,λr hr=>um<|(h.mem r).1 hr⟩
theorem sK {a b:LL} (ha:(∀ r∈a,r.length<=1048576)/\a.length<=1099511627776) (hb:(∀ r∈b,r.length<=1048576)/\b.length<=1099511627776):CY (bV a b) λv=>(v != 0) = !(decide (∀ o∈a,o∈b)&&decide (∀ o∈b,o∈a)):=by
 unfold bV;refine (jg hb.1 hb.2 ha.2).bind λv1 e1=>(jg ha.1 ha.2 hb.2).bind λv2 e2=>?_;subst e1 e2;refine CY.bind (P:=(· = (decide (∀ o∈a,o∈b)&&decide (∀ o∈b,o∈a)))) (.bif (λh => .pure<|by rw [h];rfl) λh => .pure<|by rw [h];rfl) λv3 e3=>?_;rw [<- e3];exact .bif (λh => .pure<|by rw [h];rfl) λh => .bif (λ_ => .pure<|by rw [h];rfl) λ_ => .bif (λ_ => .pure<|by rw [h];rfl) λ_ => .pure (by rw [h];rfl)
end
theorem yI (s:List CV) (h:s.length<=1048576):CY (aJ s s) (· = true):=by
 unfold aJ;refine .bif (λh=>by simp at h) λ_=>CY.sum (PS:=λ_=>True) (PW:=(· = true)) ?_ λ_ _ => .pure rfl;refine CY.loop (λi=>0<=i/\i<=(s.length:Int)) (λi=>((s.length:Int)-i).toNat) ⟨GF _,by omega⟩ λi ⟨h1,h2⟩ => ?_;unfold bC;refine .bifD (λh3 => .gdD ⟨h1,h3⟩<|.gdD ⟨h1,h3⟩<|.bif (λh=>by simp at h) λ_ => .gdI (by omega)<|.pure ⟨⟨by omega,by omega⟩,by omega⟩) λ_ => .pure trivial
theorem yJ (p:List<|List CV) (h:p.length<=1048576) (hr:∀ r∈p,r.length<=1048576):CY (cn p p) (· = true):=by
 unfold cn;refine CY.bind (P:=(· = true)) ?_ λv hv => .pure hv;unfold ai;refine .bif (λh=>by simp at h) λ_=>CY.sum (PS:=λ_=>True) (PW:=(· = true)) ?_ λ_ _ => .pure rfl;refine CY.loop (λi=>0<=i/\i<=(p.length:Int)) (λi=>((p.length:Int)-i).toNat) ⟨GF _,by omega⟩ λi ⟨h1,h2⟩ => ?_;unfold au;refine .bifD (λh3 => .gdD ⟨h1,h3⟩<|.gdD ⟨h1,h3⟩ ?_) λ_ => .pure trivial;have hi:i.toNat<p.length:=by omega
 have hm:p.getD i.toNat default∈p:=by
  rw [gdq,geq hi];exact GK _
 unfold ek;refine CY.bind (CY.bind (yI _<|hr _ hm) λv hv => .pure (P:=(· = true)) hv) λv hv=>?_;subst hv;exact .bif (λh=>by simp at h) λ_ => .gdI (by omega)<|.pure ⟨⟨by omega,by omega⟩,by omega⟩
section
variable {α:Type} {r:Option α}
theorem eY {n:Int} {x:Option α} (h : -9223372036854775808<=n/\n<=9223372036854775807) (hx:x=r):gd (CS .i64 n) x=r:=by rw [kF (zb h)];exact hx
theorem lF {A:Prop} [Decidable A] {x:Option α} (h:A) (hx:x=r):gd (decide A) x=r:=by rw [kF (decide_eq_true h)];exact hx
theorem xx {b:Bool} {x y:Option α} (h:b=true) (hx:x=r):(bif b then x else y)=r:=by rw [h];exact hx
theorem sM {b:Bool} {x y:Option α} (h:b=false) (hx:y=r):(bif b then x else y)=r:=by rw [h];exact hx
theorem mf {β:Type} {o:Option β} {k:β->Option α} {v:β} (h:o=some v) (hx:k v=r):o.bind k=r:=by rw [h];exact hx
end
def Bts (b:LI):Prop:=b.length<=1048576/\∀ y∈b,0<=y/\y<=255
theorem Bts.get {b:LI} (h:Bts b) (k:Nat):0<=b.getD k default/\b.getD k default<=255:=by
 rw [gdq]
 by_cases hk:k<b.length
 ·rw [geq hk];exact h.2 _<|GK _
 rw [gen (by omega)];exact ⟨by decide,by decide⟩
theorem yK {m n:Int} (hm:0<=m/\m<=1000000000000) (hn:0<=n/\n<=1000000000000):0<=BD .i64 m n:=by
 have e1:∀ x:Int,0<=x->x<=1000000000000->(GY 64 x).toNat<2 ^ 62:=by
  intro x h1 h2;rw [BitVec.toNat_ofInt];have : x % ((2:Nat) ^ 64:Nat)=x:=by
   rw [Int.emod_eq_of_lt h1];omega
  omega
 have h3:(GY 64 m ^^^ GY 64 n).toNat<2 ^ 62:=by
  rw [BitVec.toNat_xor];exact Nat.xor_lt_two_pow (e1 m hm.1 hm.2)<|e1 n hn.1 hn.2
 have h4:=IntWalk.i64_in (((GY 64 m ^^^ GY 64 n).toNat:Nat):Int) ⟨by omega,by omega⟩;unfold BD;rw [show IntKind.i64.bits=64 from rfl,h4];omega
theorem yL {a n:Int} (ha:0<=a) (hn:0<n):0<=a.tmod n/\a.tmod n<n:=by
 rw [Int.tmod_eq_emod_of_nonneg ha];exact ⟨Int.emod_nonneg _ (by omega),Int.emod_lt_of_pos _ hn⟩
theorem Bj {a n:Int} (ha:0<=a) (hn:0<=n):0<=a.tdiv n/\a.tdiv n<=a:=by
 rw [Int.tdiv_eq_ediv_of_nonneg ha];exact ⟨Int.ediv_nonneg ha hn,Int.ediv_le_self _ ha⟩
theorem xy {b:LI} {p:Int} (hb:Bts b) (hp:0<=p/\p<=100000000) (n:Int):∃ v,aV ⟨b,p⟩ n=some (⟨b,p+1⟩,v)/\0<=v/\(v<n\/v=0):=by
 have hl:=hb.1;have e1:p+1-1=p:=by omega
 unfold aV;simp only [e1]
 by_cases h0:n<1\/b.length=0
 ·refine ⟨0,?_,GF _,.inr rfl⟩;refine eY (by omega) ?_;refine mf (v:=true) ?_<|xx rfl rfl
  by_cases hn:n<1
  ·exact xx (by simp [hn]) rfl
  refine sM (by simp [hn]) ?_;have : b.length=0:=by omega
  simp [this]
 have hn:1<=n:=by omega
 have hl0:0<(b.length:Int):=by omega
 by_cases hlt:p<(b.length:Int)
 ·have hg:=hb.get p.toNat;have hv:=yL hg.1 (show (0:Int)<n by omega);refine ⟨(b.getD p.toNat default).tmod n,?_,hv.1,.inl hv.2⟩;refine eY (by omega) ?_;refine mf (v:=false) (sM (by simp;omega)<|congrArg some<|beq_eq_false_iff_ne.2<|by omega) (sM rfl ?_);refine eY (by omega)<|xx (by simpa using hlt) ?_;exact lF (by omega)<|eY (by omega)<|lF (by omega) rfl
 have h1:=yL hp.1 hl0;have h2:=Bj hp.1 (show 0<=(b.length:Int) by omega);have h3:=yL (a:=p*7+3) (by omega) hl0;have h4:=hb.get (p.tmod (b.length:Int)).toNat;have h5:=hb.get ((p*7+3).tmod (b.length:Int)).toNat;have hx:0<=(b.getD (p.tmod (b.length:Int)).toNat default)*131+(b.getD ((p*7+3).tmod (b.length:Int)).toNat default)*1117+p*29+p.tdiv (b.length:Int)*53 /\
  (b.getD (p.tmod (b.length:Int)).toNat default)*131+(b.getD ((p*7+3).tmod (b.length:Int)).toNat default)*1117+p*29+p.tdiv (b.length:Int)*53<=1000000000000:=by omega
 have h6:=Bj hx.1 (show (0:Int)<=64 by omega);have h7:=yK hx ⟨h6.1,Int.le_trans h6.2 hx.2⟩;have hv:=yL h7 (show (0:Int)<n by omega);refine ⟨_,?_,hv.1,.inl hv.2⟩;refine eY (by omega) ?_;refine mf (v:=false) (sM (by simp;omega)<|congrArg some<|beq_eq_false_iff_ne.2<|by omega) (sM rfl ?_);refine eY (by omega)<|sM (by simpa using hlt) ?_;refine lF (by omega)<|lF h1<|eY (by omega)<|eY (by omega)<|eY (by omega)<|eY (by omega)<|lF h3<|eY (by omega) ?_;refine eY (by omega)<|eY (by omega)<|eY (by omega)<|eY (by omega)<|eY (by omega)<|eY (by omega)<|eY (by omega) ?_;refine lF (by omega)<|eY (by omega)<|lF (by omega) rfl
theorem Bl {b:LI} {p:Int} (hb:Bts b) (hp:0<=p/\p<=100000000) (l:LI) (hl:l≠[]):∃ v,dB ⟨b,p⟩ l=some (⟨b,p+1⟩,v)/\v∈l:=by
 obtain ⟨v,h1,h2,h3⟩:=xy hb hp (l.length:Int);have hpos:0<l.length:=Hw.2 hl;have h4:v<(l.length:Int):=by omega
 refine ⟨l.getD v.toNat default,?_,?_⟩
 ·unfold dB;exact mf h1<|lF ⟨h2,h4⟩ rfl
 rw [gdq,geq (by omega)];exact GK _
theorem Aa {b:LI} (hb:Bts b):∃ b',eB b=some ⟨b',0⟩/\Bts b':=by
 unfold eB
 by_cases h:(2000:Int)<(b.length:Int)
 ·refine ⟨_,mf (xx (by simpa using h)<|lF (by omega) rfl) rfl,?_,λy hy=>?_⟩
  ·rw [List.length_take];omega
  exact hb.2 y<|Hq<|List.mem_of_mem_take hy
 exact ⟨b,mf (sM (by simpa using h) rfl) rfl,hb⟩
def Rd (k:Int) (r:ah):Prop:=Bts r.b/\0<=r.p/\r.p<=k
theorem Rd.mk' {k:Int} {r:ah} (h:Rd k r):Rd k ⟨r.b,r.p⟩:=h
theorem qq {k:Int} {r:ah} (h:Rd k r) (hk:k<=100000000) (n:Int):CY (aV r n) λv=>Rd (k+1) v.1/\0<=v.2/\(v.2<n\/v.2=0):=by
 obtain ⟨b,p⟩:=r;obtain ⟨h1,h2,h3⟩:=h;obtain ⟨v,e,h4,h5⟩:=xy h1 (p:=p) ⟨h2,by simp only at h3;omega⟩ n;exact ⟨_,e,⟨h1,by simp only at h2 ⊢;omega,by simp only at h3 ⊢;omega⟩,h4,h5⟩
theorem Ab {k:Int} {r:ah} (h:Rd k r) (hk:k<=100000000) (l:LI) (hl:l≠[]):CY (dB r l) λv=>Rd (k+1) v.1/\v.2∈l:=by
 obtain ⟨b,p⟩:=r;obtain ⟨h1,h2,h3⟩:=h;obtain ⟨v,e,h4⟩:=Bl h1 (p:=p) ⟨h2,by simp only at h3;omega⟩ l hl;exact ⟨_,e,⟨h1,by simp only at h2 ⊢;omega,by simp only at h3 ⊢;omega⟩,h4⟩
theorem yM {b:LI} (h:Bts b):CY (eB b) (Rd 0):=by
 obtain ⟨b',e,h'⟩:=Aa h;exact ⟨_,e,h',GF _,GF _⟩

def Le {α:Type} (a b:Option α):Prop:=∀ q,a=some q->b=some q
theorem Le.refl {α:Type} (a:Option α):Le a a:=λ_ h=>h
theorem Le.bind {α β:Type} {a b:Option α} {k l:α->Option β} (h:Le a b) (hk:∀ x,Le (k x)<|l x):Le (a.bind k) (b.bind l):=λq hq=>by
 obtain ⟨x,h1,h2⟩:=Hy.1 hq;exact Hy.2 ⟨x,h x h1,hk x q h2⟩
theorem Le.gd {α:Type} {a b:Option α} (c:Bool) (h:Le a b):Le (gd c a) (gd c b):=λq hq=>by
 obtain ⟨h1,h2⟩:=gdL hq;rw [kF h1];exact h q h2
theorem Le.bif {α:Type} {a b a' b':Option α} (c:Bool) (h:Le a a') (h':Le b b'):Le (bif c then a else b) (bif c then a' else b'):=by
 cases c
 ·exact h'
 exact h
theorem Le.ifc {α:Type} {a b a' b':Option α} (c:Prop) [Decidable c] (h:Le a a') (h':Le b b'):Le (if c then a else b) (if c then a' else b'):=by
 split
 ·exact h
 exact h'
theorem Le.sumK {S W:Type} {a b:Option (S ⊕ W)} {k l:S->Option W} (h:Le a b) (hk:∀ x,Le (k x)<|l x):Le (sumK a k) (sumK b l):=λq hq=>by
 cases a with
 | none=>cases hq
 | some z=>
  rw [h z rfl]
  cases z with
  | inl s=>exact hk s q hq
  | inr w=>exact hq
def xz {S E:Type} (n:Nat) (step:S->Option (S ⊕ E)) (s:S):Option E:=
 Nat.rec (motive:=λ_=>S->Option E) (λ_=>none) (λ_ ih s=>match step s with
  | none=>none
  | some (.inl s')=>ih s'
  | some (.inr e)=>some e) n s
theorem Le.loop {S E:Type} {n:Nat} {step step':S->Option (S ⊕ E)} (h:∀ s,Le (step s)<|step' s) (s:S):Le (xz n step s) (dH step' s):=by
 induction n generalizing s with
 | zero=>intro q hq;cases hq
 | succ n ih=>
  intro q hq;rw [mU]
  change (match step s with
   | none=>none
   | some (.inl s')=>xz n step s'
   | some (.inr e)=>some e)=some q at hq
  match hs:step s with
  | none=>rw [hs] at hq;cases hq
  | some (.inl s')=>
   rw [hs] at hq;rw [h s _ hs];exact ih s' q hq
  | some (.inr e)=>
   rw [hs] at hq;rw [h s _ hs];exact hq
def Ca {α:Type} (e:Bool) (_ b:Option α):Option α:=bif e then none else b
theorem Le.nilK {α:Type} {e:Bool} {a b a' b':Option α} (_:Le a a') (h:Le b b'):Le (Ca e a b) (nilK e a' b'):=λq hq=>by
 cases e with
 | true=>cases hq
 | false=>
  unfold Go.Proofs.YtjcmfddobaplbaaGreat.nilK;exact h q hq
open Go.RowKit

def smI (x:CV):Bool:=decide<|(-1<=x.Op/\x.Op<=6)/\(-1<=x.Loc/\x.Loc<=3)/\(-1<=x.Reg/\x.Reg<=3)/\(-1<=x.Val/\x.Val<=4)

open Go.RowKit
open Go.RowKit
theorem qw {α:Type} {m:Nat}:∀ {p:List (List α)},(∀ r∈p,r.length<=m)->total p<=p.length*m
 | [],_=>by simp [total]
 | r::p,h=>by
  have h1:=qw (p:=p) λx hx=>h x<|Hr _ hx;have h2:=h r<|GV;simp only [total,GZ,List.sum_cons,llc,Nat.add_mul,Nat.one_mul] at h1 ⊢;omega
def Sm (p:List<|List CV):Prop:=p.length<=9/\∀ r∈p,r.length<=9/\∀ x∈r,smI x=true
theorem Sm.sz {p:List (List CV)} (h:Sm p):p.length<=1048576/\total p<=1048576:=by
 have h1:=qw (m:=9) λr hr=>(h.2 r hr).1;have h2:p.length*9<=81:=by have := h.1;omega
 exact ⟨by have := h.1;omega,by omega⟩
def fJ:Option Int:=
 some (1296:Int)
theorem jY:Le (fJ ) (dV ):=by
 unfold fJ dV
 solve_by_elim (maxDepth:=9999) only [*,Le.gd,Le.bif,Le.bind,Le.sumK,Le.loop,Le.nilK,Le.ifc,Le.refl]
def iK (x:Int) (low:Int) (high:Int):Option Bool:=
 GD (bif decide (low<=x) then
  some (decide<|x<=high)
 else
  some false
 ) λs1=>
 some s1
theorem mO (x:Int) (low:Int) (high:Int):Le (iK x low high) (gB x low high):=by
 unfold iK gB
 solve_by_elim (maxDepth:=9999) only [*,Le.gd,Le.bif,Le.bind,Le.sumK,Le.loop,Le.nilK,Le.ifc,Le.refl]
def eZ:Option (List CV):=
 some ([(⟨(2:Int),(0:Int),(0:Int),(1:Int)⟩:CV),(⟨(2:Int),(1:Int),(0:Int),(1:Int)⟩:CV),(⟨(1:Int),(0:Int),(0:Int),(0:Int)⟩:CV),(⟨(1:Int),(1:Int),(1:Int),(0:Int)⟩:CV),(⟨(4:Int),(0:Int),(0:Int),(0:Int)⟩:CV),(⟨(5:Int),(0:Int),(2:Int),(2:Int)⟩:CV)]:List CV)
theorem jh:Le (eZ ) (dK ):=by
 unfold eZ dK
 solve_by_elim (maxDepth:=9999) only [*,Le.gd,Le.bif,Le.bind,Le.sumK,Le.loop,Le.nilK,Le.ifc,Le.refl]
def f8 (n:Int):Option (List<|List CV):=
 GD (eZ ) λv1=>
 gd (decide<|(216:Int)≠0) <|
 gd (CS .i64<|n.tdiv (216:Int)) <|
 gd (decide<|0<=(n.tdiv (216:Int))/\(n.tdiv (216:Int))<(v1.length:Int)) <|
 gd (decide<|(36:Int)≠0) <|
 gd (CS .i64<|n.tdiv (36:Int)) <|
 gd (decide<|(6:Int)≠0) <|
 gd (decide<|0<=((n.tdiv (36:Int)).tmod (6:Int))/\((n.tdiv (36:Int)).tmod (6:Int))<(v1.length:Int)) <|
 gd (CS .i64<|n.tdiv (6:Int)) <|
 gd (decide<|0<=((n.tdiv (6:Int)).tmod (6:Int))/\((n.tdiv (6:Int)).tmod (6:Int))<(v1.length:Int)) <|
 gd (decide<|0<=(n.tmod (6:Int))/\(n.tmod (6:Int))<(v1.length:Int)) <|
 some ([([(v1.getD (n.tdiv (216:Int)).toNat default),(v1.getD ((n.tdiv (36:Int)).tmod (6:Int)).toNat default)]:List CV),([(v1.getD ((n.tdiv (6:Int)).tmod (6:Int)).toNat default),(v1.getD (n.tmod (6:Int)).toNat default)]:List CV)]:List<|List CV)
theorem kK (n:Int):Le (f8 n) (eD n):=by
 unfold f8 eD
 solve_by_elim (maxDepth:=9999) only [*,jh,Le.gd,Le.bif,Le.bind,Le.sumK,Le.loop,Le.nilK,Le.ifc,Le.refl]
def f9 (n:Int):Option ((List<|List CV)×Bool):=
 GD (fJ ) λv1=>
 gd (CS .i64<|v1-(1:Int)) <|
 GD (iK n (0:Int)<|v1-(1:Int)) λv3=>
 bif !v3 then
  some (([]:List<|List CV),false)
 else
  GD (f8 n) λv5=>
  some (v5,true)
theorem kL (n:Int):Le (f9 n) (dC n):=by
 unfold f9 dC
 solve_by_elim (maxDepth:=9999) only [*,jY,mO,kK,Le.gd,Le.bif,Le.bind,Le.sumK,Le.loop,Le.nilK,Le.ifc,Le.refl]
def eF:Option (List CV):=
 some ([(⟨(2:Int),(0:Int),(0:Int),(1:Int)⟩:CV),(⟨(2:Int),(1:Int),(0:Int),(1:Int)⟩:CV),(⟨(1:Int),(0:Int),(0:Int),(0:Int)⟩:CV),(⟨(1:Int),(1:Int),(1:Int),(0:Int)⟩:CV),(⟨(4:Int),(0:Int),(0:Int),(0:Int)⟩:CV),(⟨(5:Int),(0:Int),(2:Int),(2:Int)⟩:CV)]:List CV)
theorem gL:Le (eF ) (dD ):=by
 unfold eF dD
 solve_by_elim (maxDepth:=9999) only [*,Le.gd,Le.bif,Le.bind,Le.sumK,Le.loop,Le.nilK,Le.ifc,Le.refl]
def fK:Option Int:=
 GD (eF ) λv1=>
 gd (CS .i64<|(v1.length:Int)*(v1.length:Int)) <|
 gd (CS .i64<|((v1.length:Int)*(v1.length:Int))*(v1.length:Int)) <|
 gd (CS .i64<|(((v1.length:Int)*(v1.length:Int))*(v1.length:Int))*(v1.length:Int)) <|
 some ((((v1.length:Int)*(v1.length:Int))*(v1.length:Int))*(v1.length:Int))
theorem jZ:Le (fK ) (dW ):=by
 unfold fK dW
 solve_by_elim (maxDepth:=9999) only [*,gL,Le.gd,Le.bif,Le.bind,Le.sumK,Le.loop,Le.nilK,Le.ifc,Le.refl]
def fM (v1:(List CV)):((List<|List CV)×Int×Int)->Option (((List<|List CV)×Int×Int) ⊕ (List<|List CV)):=λs6=>
 bif decide ((0:Int)<=s6.2.1) then
  gd (decide<|(2:Int)≠0) <|
  gd (CS .i64<|s6.2.1.tdiv (2:Int)) <|
  gd (decide<|(v1.length:Int)≠0) <|
  gd (decide<|0<=(s6.2.2.tmod (v1.length:Int))/\(s6.2.2.tmod (v1.length:Int))<(v1.length:Int)) <|
  gd (decide<|0<=(s6.2.1.tdiv (2:Int))/\(s6.2.1.tdiv (2:Int))<(s6.1.length:Int)) <|
  gd (fH (([(v1.getD (s6.2.2.tmod (v1.length:Int)).toNat default)]:List CV).length+(s6.1.getD ((s6.2.1.tdiv (2:Int)).toNat) default).length) 32) <|
  gd (CS .i64<|s6.2.2.tdiv (v1.length:Int)) <|
  gd (CS .i64<|s6.2.1-(1:Int)) <|
  some (.inl ((s6.1.set ((s6.2.1.tdiv (2:Int)).toNat)<|([(v1.getD (s6.2.2.tmod (v1.length:Int)).toNat default)]:List CV)++(s6.1.getD ((s6.2.1.tdiv (2:Int)).toNat) default)),(s6.2.1-(1:Int)),(s6.2.2.tdiv (v1.length:Int))))
 else
  some (.inr s6.1)
theorem j3 (v1:(List CV)) (sQ:_):Le (fM v1 sQ) (dX v1 sQ):=by
 unfold fM dX
 solve_by_elim (maxDepth:=9999) only [*,Le.gd,Le.bif,Le.bind,Le.sumK,Le.loop,Le.nilK,Le.ifc,Le.refl]
def ib (n:Int):Option (List<|List CV):=
 GD (eF ) λv1=>
 GD (
  xz 40 (fM v1) (([([]:List CV),([]:List CV)]:List<|List CV),(3:Int),n)
 ) λs2=>
 some s2
theorem mg (n:Int):Le (ib n) (fQ n):=by
 unfold ib fQ
 solve_by_elim (maxDepth:=9999) only [*,gL,j3,Le.gd,Le.bif,Le.bind,Le.sumK,Le.loop,Le.nilK,Le.ifc,Le.refl]
def gb (n:Int):Option ((List<|List CV)×Bool):=
 GD (bif decide (n<(0:Int)) then
  some true
 else
  GD (fK ) λv3=>
  some (decide<|v3<=n)
 ) λs1=>
 bif s1 then
  some (([]:List<|List CV),false)
 else
  GD (ib n) λv5=>
  some (v5,true)
theorem kM (n:Int):Le (gb n) (dE n):=by
 unfold gb dE
 solve_by_elim (maxDepth:=9999) only [*,jZ,mg,Le.gd,Le.bif,Le.bind,Le.sumK,Le.loop,Le.nilK,Le.ifc,Le.refl]
instance decIns:DecidableEq CV:=λa b=>decidable_of_iff (a.Op=b.Op/\a.Loc=b.Loc/\a.Reg=b.Reg/\a.Val=b.Val) ⟨λ⟨h1,h2,h3,h4⟩=>by cases a;cases b;simp only at h1 h2 h3 h4;rw [h1,h2,h3,h4],λh=>by rw [h];exact ⟨rfl,rfl,rfl,rfl⟩⟩
def Bm (n:Int):Bool:=match f9 n,gb n with
 | some a,some b=>decide (a.1=b.1)&&(a.2==b.2)&&decide (a.1.length<=2)&&a.1.all λr=>decide (r.length<=2)
 | _,_=>false
theorem xB:((GI 1298).all λk=>Bm<|(k:Int)-1)=true:=by decide +kernel
theorem Bn {n:Int} (h : -1<=n/\n<=1296):∃ a,dC n=some a/\dE n=some a/\a.1.length<=2/\∀ r∈a.1,r.length<=2:=by
 have h1:=GG.1 xB (n+1).toNat (by rw [GR];omega);rw [show (((n+1).toNat:Nat):Int)-1=n by omega] at h1;unfold Bm at h1
 split at h1
 ·rename_i a b ea eb;simp only [bae,dte,GG,beq_iff_eq] at h1;obtain ⟨⟨⟨g1,g2⟩,g3⟩,g4⟩:=h1;have : a=b:=Prod.ext g1 g2;subst this;exact ⟨a,kL n _ ea,kM n _ eb,g3,g4⟩
 cases h1
theorem xC {b:LI} (hb:Bts b):CY (cH b) λv => -1<=v/\v<=1296:=by
 unfold cH;refine (yM hb).bind λr h=>(qq h.mk' (by omega) _).bind λv ⟨a1,a2,a3⟩ => .bif (λ_=>(Ab a1.mk' (by omega) _<|by simp).bind λx ⟨_,c⟩ => .pure ?_) λ_=>(qq a1.mk' (by omega) _).bind λx ⟨c1,c2,c3⟩ => .gdI (by omega)<|(qq c1.mk' (by omega) _).bind λy ⟨d1,d2,d3⟩ => .gdI (by omega)<|.pure (by omega);simp only [GL,GQ,or_false] at c;omega
section
variable {p:List (List CV)}
theorem pR (hp:PW p) (hv:ak p=some true) {nm:ByteArray} {sp:Bool} (hm:cf nm=some true) (hr:CY (ax p nm)<|RunL p<|yC p sp):∃ v,cZ p B0 nm=some v/\bH p nm=some (!v):=by
 obtain ⟨a,ea,ha⟩:=yF hp.pv hv;obtain ⟨b,eb,hb⟩:=hr;obtain ⟨a',ea',ha'⟩:=Bi hp.pv hv;have hsub:∀ o∈a,o∈b:=λo ho=>(hb.run.mem o).2<|z7 hp.pv ((ha.run.mem o).1 ho) sp;have hiff:(∀ o∈b,o∈a)↔∀ o∈b,o∈a':=by
  have : ∀ o,o∈a↔o∈a':=λo=>(ha.run.mem o).trans (ha'.run.mem o).symm;exact ⟨λh o ho=>(this o).1<|h o ho,λh o ho=>(this o).2<|h o ho⟩
 obtain ⟨v,ev,hv'⟩:=sK (ha.small hp.pv)<|hb.small hp.pv;obtain ⟨w,ew,hw⟩:=jg (a:=b) (ha'.small hp.pv).1 (ha'.small hp.pv).2 (hb.small hp.pv).2;refine ⟨v != 0,?_,?_⟩
 ·unfold cZ;simp only [hv,show cf B0=some true from rfl,hm,ea,eb,ev,Option.bind_some,cond_true]
 unfold bH;simp only [hv,hm,eb,ea',ew,Option.bind_some,cond_true];rw [hv',decide_eq_true hsub,Bool.true_and,Bool.not_not,hw]
 congr 1
 exact decide_eq_decide.2 hiff.symm
end
theorem Cb {b:LI} (hb:Bts b):bS b=some true:=by
 refine CY.eq ?_;unfold bS;refine .bifD (λ_ => .pure rfl) λ_=>(xC hb).bind λn hn=>?_;obtain ⟨⟨p,ok⟩,h1,h2,h3,h4⟩:=Bn hn;simp only at h3 h4;refine (CY.of (P:=(· = (p,ok))) h1 rfl).bind λv3 e3=>(CY.of (P:=(· = (p,ok))) h2 rfl).bind λv4 e4=>?_;subst e3 e4;have hsame:=yJ p (by omega) λr hr=>by have := h4 r hr;omega
 have htot:=qw h4;have hsz:p.length<=1048576/\total p<=1048576:=⟨by omega,by omega⟩;have hval:ak p=some (fB<|p.map λr=>r.map kH):=kF<|decide_eq_true hsz;refine CY.bind (P:=(· = false)) (.bif (λh=>by simp at h) λ_=>hsame.bind λv hv => .pure<|by rw [hv];rfl) λs5 h5=>?_;subst h5;refine CY.bind (P:=(· = !ok)) (.bif (λh=>by cases h) λ_ => .pure rfl) λs8 h8=>?_;subst h8;refine .bif (λ_=>?_) λ_=>?_
 ·exact CY.bind (P:=(· = true)) (.bif (λ_=>hsame.bind λv hv => .pure hv) λh=>by simp at h) λs hs => .pure hs
 cases hvb:fB (p.map λr=>r.map kH) with
 | false=>
  rw [hvb] at hval;refine (CY.of (P:=(· = false)) hval rfl).bind λv hv=>?_;subst hv;exact .pure rfl
 | true=>
  have hp:=PW.of hvb;rw [hvb] at hval;refine (CY.of (P:=(· = true)) hval rfl).bind λv hv=>?_;subst hv;obtain ⟨x,ex1,ex2⟩:=pR hp hval rfl<|yG hp hval;obtain ⟨y,ey1,ey2⟩:=pR hp hval rfl<|yH hp hval;refine CY.bind (P:=(· = true)) (.bif (λh=>by cases h) λ_=>?_) λs hs => .pure hs;refine (CY.of (P:=(· = x)) ex1 rfl).bind λa ha=>(CY.of (P:=(· = !x)) ex2 rfl).bind λc hc=>?_;subst ha hc;refine CY.bind (P:=(· = true)) (.bif (λ_=>?_) λh=>by simp at h) λs hs => .pure hs;refine (CY.of (P:=(· = y)) ey1 rfl).bind λa ha=>(CY.of (P:=(· = !y)) ey2 rfl).bind λc hc=>?_;subst ha hc;exact .pure (by simp)
theorem ty3:TyF Tryz.prog 3 false 1:=⟨by kernel_rfl,by kernel_rfl,by kernel_rfl,by kernel_rfl⟩
theorem zs3:TyZ Tryz.prog 3 [I (0:Int)]:=⟨by kernel_rfl,by kernel_rfl⟩
theorem ty4:TyF Tryz.prog 4 false 1:=⟨by kernel_rfl,by kernel_rfl,by kernel_rfl,by kernel_rfl⟩
theorem bt4:iB Tryz.prog 4=true:=by kernel_rfl
theorem CZ:TyF Tryz.prog 5 false 1:=⟨by kernel_rfl,by kernel_rfl,by kernel_rfl,by kernel_rfl⟩
theorem zs5:TyZ Tryz.prog 5 [Y (0:Int)]:=⟨by kernel_rfl,by kernel_rfl⟩
theorem qA:TyF Tryz.prog 22 false 1:=⟨by kernel_rfl,by kernel_rfl,by kernel_rfl,by kernel_rfl⟩
theorem CJ:TyZ Tryz.prog 22 [.nil]:=⟨by kernel_rfl,by kernel_rfl⟩
theorem yN:TyF Tryz.prog 24 false 1:=⟨by kernel_rfl,by kernel_rfl,by kernel_rfl,by kernel_rfl⟩
theorem uo:TyF Tryz.prog 41 false 1:=⟨by kernel_rfl,by kernel_rfl,by kernel_rfl,by kernel_rfl⟩
theorem Cv:TyZ Tryz.prog 41 [.nil]:=⟨by kernel_rfl,by kernel_rfl⟩
theorem Ac:TyF Tryz.prog 66 false 1:=⟨by kernel_rfl,by kernel_rfl,by kernel_rfl,by kernel_rfl⟩
theorem CK:TyZ Tryz.prog 66 [.nil]:=⟨by kernel_rfl,by kernel_rfl⟩
theorem nZ:TyF Tryz.prog 69 true 4:=⟨by kernel_rfl,by kernel_rfl,by kernel_rfl,by kernel_rfl⟩
theorem pU:TyZ Tryz.prog 69 [I (0:Int),I (0:Int),I (0:Int),I (0:Int)]:=⟨by kernel_rfl,by kernel_rfl⟩
theorem j4:TyS Tryz.prog 69 [(0,1),(1,1),(2,1),(3,1)]:=⟨by kernel_rfl⟩
theorem CL:TyE Tryz.prog 69:=⟨by kernel_rfl,by kernel_rfl,by kernel_rfl⟩
theorem Bp:TyF Tryz.prog 91 false 1:=⟨by kernel_rfl,by kernel_rfl,by kernel_rfl,by kernel_rfl⟩
theorem CM:TyZ Tryz.prog 91 [.v .nilIface]:=⟨by kernel_rfl,by kernel_rfl⟩
theorem CN:TyZ Tryz.prog 99 [.nil,I (0:Int)]:=⟨by kernel_rfl,by kernel_rfl⟩
theorem vz:TyS Tryz.prog 99 [(0,1),(1,1)]:=⟨by kernel_rfl⟩
theorem rE:TyF Tryz.prog 115 true 3:=⟨by kernel_rfl,by kernel_rfl,by kernel_rfl,by kernel_rfl⟩
theorem Cc:TyZ Tryz.prog 115 [Y (0:Int),Y (0:Int),Y (0:Int)]:=⟨by kernel_rfl,by kernel_rfl⟩
theorem Ce:TyF Tryz.prog 116 true 9:=⟨by kernel_rfl,by kernel_rfl,by kernel_rfl,by kernel_rfl⟩
theorem Bq:TyZ Tryz.prog 118 [.nil,Y (0:Int),Y (0:Int),Y (0:Int),Y (0:Int),Y (0:Int),Y (0:Int),Y (0:Int),Y (0:Int),Y (0:Int),Y (0:Int),Y (0:Int),Y (0:Int),Y (0:Int),Y (0:Int),Y (0:Int)]:=⟨by kernel_rfl,by kernel_rfl⟩
theorem iq:TyS Tryz.prog 118 [(0,1),(1,3),(4,9),(13,3)]:=⟨by kernel_rfl⟩
theorem Bt:TyF Tryz.prog 120 true 16:=⟨by kernel_rfl,by kernel_rfl,by kernel_rfl,by kernel_rfl⟩
theorem Bu:TyZ Tryz.prog 120 [.nil,Y (0:Int),Y (0:Int),Y (0:Int),Y (0:Int),Y (0:Int),Y (0:Int),Y (0:Int),Y (0:Int),Y (0:Int),Y (0:Int),Y (0:Int),Y (0:Int),Y (0:Int),Y (0:Int),Y (0:Int)]:=⟨by kernel_rfl,by kernel_rfl⟩
theorem xD:TyS Tryz.prog 120 [(0,16)]:=⟨by kernel_rfl⟩
theorem mP:TyF Tryz.prog 150 false 1:=⟨by kernel_rfl,by kernel_rfl,by kernel_rfl,by kernel_rfl⟩
theorem Bv:TyF Tryz.prog 152 true 18:=⟨by kernel_rfl,by kernel_rfl,by kernel_rfl,by kernel_rfl⟩
theorem Bw:TyZ Tryz.prog 152 [.nil,Y (0:Int),Y (0:Int),Y (0:Int),Y (0:Int),Y (0:Int),Y (0:Int),Y (0:Int),Y (0:Int),Y (0:Int),Y (0:Int),Y (0:Int),Y (0:Int),Y (0:Int),Y (0:Int),Y (0:Int),Bo false,.nil]:=⟨by kernel_rfl,by kernel_rfl⟩
theorem iL:TyS Tryz.prog 152 [(0,16),(16,1),(17,1)]:=⟨by kernel_rfl⟩
theorem lV:SlT Tryz.prog 22 5 false 1 [Y (0:Int)] 1:=⟨Tryz.underlying22,CZ,zs5,rfl,rfl,by kernel_rfl⟩
theorem oK:SlT Tryz.prog 24 66 false 1 [.nil] 24:=⟨Tryz.underlying24,Ac,CK,rfl,rfl,by kernel_rfl⟩
theorem qB:SlT Tryz.prog 34 41 false 1 [.nil] 24:=⟨Tryz.underlying34,uo,Cv,rfl,rfl,by kernel_rfl⟩
theorem oq:SlT Tryz.prog 41 3 false 1 [I (0:Int)] 8:=⟨Tryz.underlying41,ty3,zs3,rfl,rfl,by kernel_rfl⟩
theorem n8:SlT Tryz.prog 66 69 true 4 [I (0:Int),I (0:Int),I (0:Int),I (0:Int)] 32:=⟨Tryz.underlying66,nZ,pU,rfl,rfl,by kernel_rfl⟩
theorem ve:KeyA Tryz.prog 9 1 ql:=AQ Tryz.underlying9
theorem lG:SlT Tryz.prog 110 91 false 1 [.v .nilIface] 16:=⟨Tryz.underlying110,Bp,CM,rfl,rfl,by kernel_rfl⟩
theorem j5:SlT Tryz.prog 150 22 false 1 [.nil] 24:=⟨Tryz.underlying150,qA,CJ,rfl,rfl,by kernel_rfl⟩
section
variable {P:Program} {o:Oper} {ρ ρ':Operand->AV} {H:AH} {K K':AV->AH->Prop}
theorem OpG.congr {R:AV->AH->Prop} (h:OpG P o ρ H R) (he:∀ x∈o.op.operands,ρ x=ρ' x):OpG P o ρ' H R:=
 λc a K Q hH hr hxs hK=>h c a K Q hH hr (λx hx=>by rw [he x hx];exact hxs x hx) hK
theorem OpG.mono {R R':AV->AH->Prop} (h:OpG P o ρ H R) (hR:∀ r G,R r G->R' r G):OpG P o ρ H R':=
 λc a K Q hH hr hxs hK=>h c a K Q hH hr hxs λv c' r hr1 hr2 hr3 hr4=>hK v c' r (hR _ _ hr1) hr2 hr3 hr4
theorem CP.opG {r:AV} {H':AH} (h:CP P o ρ H r H'):OpG P o ρ H λr' G=>r'=r/\G=H':=
 λc a K Q hH hr hxs hK=>h c a K Q hH hr hxs λv c' hc hr2 hr3 hr4=>hK v c' r ⟨rfl,hc⟩ hr2 hr3 hr4
abbrev Xc:=Bool×List Nat
def agr (F:List Nat) (G H:AH):Prop:=∀ b∈F,G[b]? = H[b]?
theorem agr.a0 {b:Nat} {F:List Nat} {G H:AH} (h:agr (b::F) G H) {x:Option ABlk} (hx:H[b]? = some x):G[b]? = some x:=(h b<|by simp).trans hx
theorem agr.a1 {b c:Nat} {F:List Nat} {G H:AH} (h:agr (c::b::F) G H) {x:Option ABlk} (hx:H[b]? = some x):G[b]? = some x:=(h b<|by simp).trans hx
theorem agr.a2 {a b c:Nat} {F:List Nat} {G H:AH} (h:agr (a::c::b::F) G H) {x:Option ABlk} (hx:H[b]? = some x):G[b]? = some x:=(h b<|by simp).trans hx
def lH (W:List Nat) (H H':AH):Prop:=∀ b,b<H.length->b∉W->H'[b]? = H[b]?
theorem uq {b:Nat} {X:Option ABlk}:lH [b] H (H.set b X):=λc _ hc=>Ha λe=>hc (by simp [e])
theorem yO {L:AH}:lH [] H (H++L):=λ_ hb _=>gal hb
def n9 (P:Program) (o:Oper) (ρ:Operand->AV) (H:AH) (b:Xc) (K:AV->AH->Prop):Prop:=match b.1 with
 | false=>∃ r,(∀ c∈b.2,c<H.length)/\(∀ G,agr b.2 G H->CP P o ρ G r G)/\K r H
 | true=>OpG P o ρ H λr H'=>lH b.2 H H'/\K r H'
theorem n9.mono {b:Xc} (h:n9 P o ρ H b K) (hK:∀ r G,K r G->K' r G):n9 P o ρ H b K':=by
 obtain ⟨b,F⟩:=b
 cases b with
 | false=>
  obtain ⟨r,h0,h1,h2⟩:=h;exact ⟨r,h0,h1,hK _ _ h2⟩
 | true=>
  show OpG P o ρ H λr H'=>lH F H H'/\K' r H';exact OpG.mono (R:=λr H'=>lH F H H'/\K r H') h λr G hr=>⟨hr.1,hK _ _ hr.2⟩
theorem n9.congr {b:Xc} (h:n9 P o ρ H b K) (he:∀ x∈o.op.operands,ρ x=ρ' x):n9 P o ρ' H b K:=by
 obtain ⟨b,F⟩:=b
 cases b with
 | false=>
  obtain ⟨r,h0,h1,h2⟩:=h;exact ⟨r,h0,λG hG=>(h1 G hG).congr he,h2⟩
 | true=>
  show OpG P o ρ' H λr H'=>lH F H H'/\K r H';exact OpG.congr (R:=λr H'=>lH F H H'/\K r H') h he
theorem n9.opG {b:Xc} (h:n9 P o ρ H b K):OpG P o ρ H K:=by
 obtain ⟨b,F⟩:=b
 cases b with
 | false=>
  obtain ⟨r,_,h1,h2⟩:=h;refine (CP.opG<|h1 H λ_ _=>rfl).mono ?_;rintro r' G ⟨rfl,rfl⟩;exact h2
 | true=>exact OpG.mono (R:=λr H'=>lH F H H'/\K r H') h λr G hr=>hr.2
def yP (a b:Xc):Bool := !b.1||a.2.all λx => !b.2.contains x
def yQ (P:Program) (ops:Array Oper) (cls:Nat->Xc) (Q:Env->AH->Prop):Nat->Array Bool->Env->AH->Prop
 | 0,listed,e,H=>Region.ready .any ops listed=[]/\Q e H
 | fuel+1,listed,e,H=>(Region.ready .any ops listed=[]->Q e H) /\
  ∀ i∈Region.ready .any ops listed,∃ o,ops[i]? = some o/\n9 P o (rho e) H (cls i) λr H'=>yQ P ops cls Q fuel (listed.setIfInBounds i true) (iA e o.dst r) H'
theorem vg {ops:Array Oper} {cls:Nat->Xc} {Q:Env->AH->Prop} {i:Nat} {oi:Oper} {r:AV} {F:List Nat} (hi:ops[i]? = some oi) (hci:cls i=(false,F)) :
  ∀ (fuel:Nat) (listed:Array Bool) (e:Env) (H:AH),
   (∀ (j:Nat) (oj:Oper),ops[j]? = some oj->j≠i->listed.getD j true=false->(∀ ed∈oj.after,Region.binds .any ed=true->ed.on≠i)->oi.apart ops oj=true/\yP (cls i) (cls j)=true) ->
   i∈Region.ready .any ops listed->(∀ c∈F,c<H.length)->(∀ G,agr F G H->CP P oi (rho e) G r G)->yQ P ops cls Q fuel (listed.setIfInBounds i true) (iA e oi.dst r) H->yQ P ops cls Q (fuel+1) listed e H:=by
 intro fuel
 induction fuel with
 | zero=>
  intro listed e H _ hr hF hy hA;refine ⟨λh=>(by rw [h] at hr;cases hr),λj hj=>?_⟩
  by_cases hji:j=i
  ·subst hji;exact ⟨oi,hi,by rw [hci];exact ⟨r,hF,hy,hA⟩⟩
  have := ready_mono hj hji;rw [hA.1] at this
  cases this
 | succ fuel ih=>
  intro listed e H hfree hr hF hy hA;refine ⟨λh=>(by rw [h] at hr;cases hr),λj hj=>?_⟩
  by_cases hji:j=i
  ·subst hji;exact ⟨oi,hi,by rw [hci];exact ⟨r,hF,hy,hA⟩⟩
  obtain ⟨oj,hoj,hsj⟩:=hA.2 j<|ready_mono hj hji;obtain ⟨hjun,oj',hoj',hall⟩:=mem_ready.1 hj;rw [hoj] at hoj';injection hoj' with hoj';subst hoj';have hnot:∀ ed∈oj.after,Region.binds .any ed=true->ed.on≠i:=λed he hb heq=>by
   have h1:=hall ed he hb;have h0:=(mem_ready.1 hr).1;rw [heq] at h1;rcases GN i listed.size with h' | h'
   ·simp [h'] at h0 h1;rw [h0] at h1;cases h1
   simp [Array.getElem?_eq_none h'] at h1
  obtain ⟨hap,hcm⟩:=hfree j oj hoj hji hjun hnot;obtain ⟨h1,h2,h3⟩:=Oper.apart_spec hap;have ej:=lj (e:=e) (r:=r) h1;have hfree':∀ (k:Nat) (ok:Oper),ops[k]? = some ok->k≠i->(listed.setIfInBounds j true).getD k true=false->(∀ ed∈ok.after,Region.binds .any ed=true->ed.on≠i)->oi.apart ops ok=true/\yP (cls i) (cls k)=true:=λk ok hk hki hun hno=>by
   refine hfree k ok hk hki ?_ hno
   by_cases hjk:j=k
   ·subst hjk;exact hjun
   rw [getD_set_ne true hjk] at hun;exact hun
  have hsj':=hsj.congr ej;have go:∀ q Hj,(∀ c∈F,c<Hj.length)->(∀ c∈F,Hj[c]? = H[c]?)->yQ P ops cls Q fuel ((listed.setIfInBounds i true).setIfInBounds j true) (iA (iA e oi.dst r) oj.dst q) Hj->yQ P ops cls Q (fuel+1) (listed.setIfInBounds j true) (iA e oj.dst q) Hj:=λq Hj hF' hHj hAj=>by
   have ei:=lj (e:=e) (oi:=oj) (r:=q) h3;refine ih (listed.setIfInBounds j true) (iA e oj.dst q) Hj hfree' (ready_mono hr<|Ne.symm hji) hF' (λG hG=>(hy G λc hc=>(hG c hc).trans<|hHj c hc).congr λx hx=>(ei x hx).symm) ?_;rw [Array.setIfInBounds_comm _ _ hji,qP (λd hd=>λhd'=>h2 d (by simpa using hd')<|by simpa using hd)];exact hAj
  refine ⟨oj,hoj,?_⟩;rw [hci] at hcm;generalize cls j=cj at hsj' hcm ⊢;obtain ⟨b,W⟩:=cj
  cases b with
  | false=>
   obtain ⟨q,q0,q1,q2⟩:=hsj';exact ⟨q,q0,q1,go q H hF (λ_ _=>rfl) q2⟩
  | true=>
   simp only [yP,Bool.not_true,Bool.false_or,GG,Hh,Hz,decide_eq_false_iff_not] at hcm;show OpG P oj (rho e) H λr1 H1=>lH W H H1/\yQ P ops cls Q (fuel+1) (listed.setIfInBounds j true) (iA e oj.dst r1) H1;refine OpG.mono (R:=λr1 H1=>lH W H H1/\yQ P ops cls Q fuel ((listed.setIfInBounds i true).setIfInBounds j true) (iA (iA e oi.dst r) oj.dst r1) H1) hsj' λq Hj ⟨k1,k2⟩=>⟨k1,go q Hj (λc hc=>?_) (λc hc=>k1 c (hF c hc)<|hcm c hc) k2⟩;have := k1 c (hF c hc)<|hcm c hc;rw [geq (hF c hc)] at this;exact (ges this).1
def Bx (ops:Array Oper) (cls:Nat->Xc):List Nat->Array Bool->Bool
 | [],listed=>(Region.ready .any ops listed).isEmpty
 | i::l,listed=>(match ops[i]? with
  | some oi=>if (cls i).1 then Region.ready .any ops listed==[i] else (Region.ready .any ops listed).contains i&&(GI ops.size).all λj=>j==i||listed.getD j true||(match ops[j]? with
   | some oj=>(oj.after.any λed=>Region.binds .any ed&&ed.on==i)||(oi.apart ops oj&&yP (cls i) (cls j))
   | none=>true)
  | none=>false)&&Bx ops cls l (listed.setIfInBounds i true)
def TX (P:Program) (ops:Array Oper) (cls:Nat->Xc):List Nat->(Env->AH->Prop)->Env->AH->Prop
 | [],K,e,H=>K e H
 | i::l,K,e,H=>∃ o,ops[i]? = some o/\n9 P o (rho e) H (cls i) λr H'=>TX P ops cls l K (iA e o.dst r) H'
theorem sN {ops:Array Oper} {cls:Nat->Xc} {Q:Env->AH->Prop}:∀ (l:List Nat) (listed:Array Bool) (e:Env) (H:AH),Bx ops cls l listed=true->TX P ops cls l Q e H->yQ P ops cls Q l.length listed e H
 | [],listed,e,H,hc,h=>⟨by simpa [Bx] using hc,h⟩
 | i::l,listed,e,H,hc,h=>by
  obtain ⟨oi,hi,hs⟩:=h;simp only [Bx,hi,bae] at hc;obtain ⟨hc1,hc2⟩:=hc;generalize hci:cls i=ci at hc1 hs;obtain ⟨b,F⟩:=ci
  cases b with
  | true=>
   simp only [if_true,beq_iff_eq] at hc1;refine ⟨λhn=>(by rw [hc1] at hn;cases hn),λj hj=>?_⟩;rw [hc1,G5] at hj;subst hj;exact ⟨oi,hi,by rw [hci];exact n9.mono (b:=(true,F)) hs λr G hr=>sN l _ _ _ hc2 hr⟩
  | false=>
   obtain ⟨r,hF,hy,hK⟩:=hs;simp only [Bool.false_eq_true,if_false,bae,Hz,dte,GG,GR] at hc1;refine vg hi hci l.length listed e H (λj oj hj hne hun hno=>?_) hc1.1 hF hy<|sN l _ _ _ hc2 hK;have hjs:j<ops.size:=(HL.1 hj).1;have := hc1.2 j hjs;simp only [hj,hun,Bool.or_eq_true,beq_iff_eq,hne,false_or,Bool.false_eq_true,bae] at this;rw [hci];rcases this with h1 | h1
   ·rw [Array.any_eq_true'] at h1;obtain ⟨ed,h2,h3⟩:=h1;simp only [bae,beq_iff_eq] at h3;exact absurd h3.2<|hno ed h2 h3.1
   exact h1
theorem pV {nt:Nat} {ops:Array Oper} {cls:Nat->Xc} {Q:Exit->Env->AH->Prop} (hd:vS nt ops.toList=true) (hg:ops.all (λo=>o.guard.isNone)=true):∀ (fuel:Nat) (listed:Array Bool) (e:Env) (H:AH),yQ P ops cls (Q .normal) fuel listed e H ->
  ∀ (c c0:Cx) (a:Act),c.H=H->Ext c0 c->SRel c nt e a->wpAny P .any ops (BC nt c0 Q) fuel listed a c.w
 | 0,listed,e,H,h,c,c0,a,hH,hx,hs=>⟨h.1,trivial,c,e,rfl,hx,hs,hH ▸ h.2⟩
 | fuel+1,listed,e,H,h,c,c0,a,hH,hx,hs=>by
  refine ⟨λhr=>⟨trivial,c,e,rfl,hx,hs,hH ▸ h.1 hr⟩,λi hi=>?_⟩;obtain ⟨o,ho,hst⟩:=h.2 i hi;have hm:o∈ops.toList:=by rw [Array.mem_toList_iff];exact Array.mem_of_getElem? ho
  have hgn:o.guard=none:=by
   rw [Array.all_eq_true] at hg;obtain ⟨hlt,rfl⟩:=HL.1 ho;simpa using hg i hlt
  have hw:Region.wanted o (yielded ops a.tmps)=true:=by simp [Region.wanted,hgn]
  unfold wpOp;simp only [ho];rw [if_pos hw];refine .inl<|hst.opG c a _ _ hH hs.heap (λx _=>hs.rho x) λv c' r hA hr' hx' hv=>?_;exact pV hd hg fuel _ _ _ hA c' c0 _ rfl (hx.trans hx')<|hs.put o.dst (ij hd hm) hx' hr' hv
end
section
variable {P:Program} {nt b0:Nat} {Q:Exit->Env->AH->Prop} {e:Env} {H H':AH} {r:AV}
theorem T.drawX {i:Nat} {ops:Array Oper} (ord:List Nat) (cls:Nat->Xc) (hm:P.follows .mixedOrders=true) (hg:ops.all (λo=>o.guard.isNone)=true) (hc:(Bx ops cls ord (Array.replicate ops.size false)&&(ord.length==ops.size))=true) (h:TX P ops cls ord (Q .normal) e H):T P nt b0 (.region i ops true) Q e H:=by
 intro hok c c0 a hH hb hx hs;simp only [codeOk] at hok;simp only [bae,beq_iff_eq] at hc;refine wp_region_any hm ?_;have hlex:=sN ord (Array.replicate ops.size false) e H hc.1 h;have := pV hok hg ord.length _ e H hlex c.drew c0 a hH (hx.trans c.drew_ext) ⟨hs.size,hs.defers,λt=>(hs.rel t).ext hs.heap c.drew_ext,Cx.drew_rel hs.heap⟩;rw [hc.2] at this;exact this
variable {d:Tmp} {op:Op} {ty:TypeId} {pos:String} {af:Array Edge} {en:List (Nat×AV)} {cls:Nat->Xc} {ops:Array Oper} {i:Nat} {K:Env->AH->Prop} {l:List Nat}
theorem TX.nil (h:K e H):TX P ops cls [] K e H:=h
theorem xN (h0:ops[i]? = some ⟨some d,op,ty,pos,af,none⟩) (hc:cls i=(false,[])) (hv:CR P (rho<|aj en) op r) (h:TX P ops cls l K (aj ((d,r)::en)) H):TX P ops cls (i::l) K (aj en) H:=
 ⟨_,h0,by rw [hc];exact ⟨r,λ_ h=>(by cases h),λG _=>hv _ rfl G,h⟩⟩
theorem xR (F:List Nat) (h0:ops[i]? = some ⟨some d,op,ty,pos,af,none⟩) (hc:cls i=(false,F)) (hb:F.all (λb=>Nat.blt b H.length)=true) (hv:∀ G,agr F G H->EvA P (rho<|aj en) op G r G) (h:TX P ops cls l K (aj ((d,r)::en)) H):TX P ops cls (i::l) K (aj en) H:=
 ⟨_,h0,by rw [hc];exact ⟨r,λb hm=>nlb<|GG.1 hb b hm,λG hG=>hv G hG _ rfl,h⟩⟩
theorem xT {W:List Nat} {o:Oper} {R:AV->AH->Prop} {e:Env} (h0:ops[i]? = some o) (hc:cls i=(true,W)) (hv:OpG P o (rho e) H R) (hk:∀ r G,R r G->lH W H G/\TX P ops cls l K (iA e o.dst r) G):TX P ops cls (i::l) K e H:=by
 refine ⟨o,h0,?_⟩;rw [hc];exact OpG.mono (R':=λr H'=>lH W H H'/\TX P ops cls l K (iA e o.dst r) H') hv hk
theorem xA {W:List Nat} (h0:ops[i]? = some ⟨some d,op,ty,pos,af,none⟩) (hc:cls i=(true,W)) (hv:EvA P (rho<|aj en) op H r H') (hk:lH W H H') (h:TX P ops cls l K (aj ((d,r)::en)) H'):TX P ops cls (i::l) K (aj en) H:=
 xT h0 hc (CP.opG<|hv ⟨some d,op,ty,pos,af,none⟩ rfl) λr' G hG=>by obtain ⟨e1,e2⟩:=hG;subst e1 e2;exact ⟨hk,h⟩
theorem xV {W:List Nat} (h0:ops[i]? = some ⟨none,op,ty,pos,af,none⟩) (hc:cls i=(true,W)) (hv:EvA P (rho<|aj en) op H r H') (hk:lH W H H') (h:TX P ops cls l K (aj en) H'):TX P ops cls (i::l) K (aj en) H:=
 xT h0 hc (CP.opG<|hv ⟨none,op,ty,pos,af,none⟩ rfl) λr' G hG=>by obtain ⟨e1,e2⟩:=hG;subst e1 e2;exact ⟨hk,h⟩
theorem xG {cl:Call} {f:Operand} {g:FuncId} {gT C0:List AV} {w m:Nat} {ety:TypeId} {mk:AV->AV} {n:Nat} {rows:List (List AV)} (h0:ops[i]? = some ⟨some d,.call cl,ty,pos,af,none⟩) (hci:cls i=(true,[])) (hc:cl.callee = .value f) (hf:rho (aj en) f = .fn (.func g) gT) (ha:cl.args.toList.map (rho<|aj en)++gT=C0)
  (h:df P g C0 H<|wC w ety mk n rows m H) (k:∀ g ver,(g=true->n=0)->TX P ops cls l K (aj ((d,mk<|hS g m ver w n)::en)) (H++[bE g ver w ety rows])):TX P ops cls (i::l) K (aj en) H:=by
 subst ha;exact xT h0 hci (qh rfl hc hf h) λr' G ⟨g',ver',hg,hr,hH⟩=>by
  subst hr hH;exact ⟨yO,k g' ver' hg⟩
end
def EqS (a b:AV):Prop:=∀ (w:World) (fz:Nat->Prop) (v:Value),FRel w fz a v->FRel w fz b v
def vA:List AV->List AV->Prop
 | [],[]=>True
 | a::r,b::q=>EqS a b/\vA r q
 | _,_=>False
theorem EqS.refl (a:AV):EqS a a:=λ_ _ _ h=>h
theorem vA.refl:∀ r:List AV,vA r r
 | []=>trivial
 | a::r=>⟨EqS.refl a,vA.refl r⟩
theorem vA.len:∀ {r q:List AV},vA r q->r.length=q.length
 | [],[],_=>rfl
 | a::r,b::q,h=>by rw [llc,llc,vA.len h.2]
 | [],_::_,h=>h.elim
 | _::_,[],h=>h.elim
theorem vA.get:∀ {r q:List AV},vA r q->∀ {j:Nat} {b:AV},q[j]? = some b->∃ a,r[j]? = some a/\EqS a b
 | [],[],_,j,b,h=>by simp at h
 | a::r,b::q,h,0,c,hc=>by
  simp only [List.getElem?_cons_zero,sie] at hc;subst hc;exact ⟨a,rfl,h.1⟩
 | a::r,b::q,h,j+1,c,hc=>by
  simp only [List.getElem?_cons_succ] at hc ⊢;exact h.2.get hc
 | [],_::_,h,_,_,_=>h.elim
 | _::_,[],h,_,_,_=>h.elim
theorem EqS.sl {n:Nat} {row row':Nat->List AV} (he:∀ i,i<n->vA (row i) (row' i)):EqS (.sl n row) (.sl n row'):=λw fz v h=>by
 cases h with
 | @sl _ cap s g o _ a us hc hm ha hs hu h1 h3=>
  refine .sl (s:=s) (g:=g) (o:=o) us hc hm ha (λi hi=>?_) (λi j b hi hj=>?_) (λi j b hi hj=>?_) λi j b hi hj=>?_
  ·rw [<- (he i hi).len];exact hs i hi
  ·obtain ⟨a',ha',_⟩:=(he i hi).get hj;exact hu i j a' hi ha'
  ·obtain ⟨a',ha',_⟩:=(he i hi).get hj;exact h1 i j a' hi ha'
  obtain ⟨a',ha',e⟩:=(he i hi).get hj;exact e _ _ _<|h3 i j a' hi ha'
theorem EqS.fp {row row':List AV} (he:vA row row') {j:Nat}:EqS (.fp row j) (.fp row' j):=λw fz v h=>by
 cases h with
 | fp us hg hlt hu h1 h3=>
  refine .fp us hg hlt (λj b hj=>?_) (λj b hj=>?_) λj b hj=>?_
  ·obtain ⟨a',ha',_⟩:=he.get hj;exact hu j a' ha'
  ·obtain ⟨a',ha',_⟩:=he.get hj;exact h1 j a' ha'
  obtain ⟨a',ha',e⟩:=he.get hj;exact e _ _ _<|h3 j a' ha'
theorem EqS.eL {α β:Type} [Inhabited α] [Inhabited β] {f:α->List AV} {g:β->List AV} {i:α->β} (h:∀ x,vA (f x)<|g<|i x) (l:List α):EqS (eL f l) (eL g<|l.map i):=by
 unfold Go.Proofs.YtjcmfddobaplbaaGreat.eL;rw [llm];refine .sl λk hk=>?_;have e1:l.getD k default=l[k]:=by rw [gdq,geq hk];rfl
 have e2:(l.map i).getD k default=i l[k]:=by rw [gdq,Hm,geq hk];rfl
 rw [e1,e2];exact h _
section
variable {P:Program} {ρ:Operand->AV} {x:Operand} {t e:TypeId} {ag:Bool}
end
section
variable {P:Program} {ρ:Operand->AV} {H:AH}
end
section
variable {α β:Type} [Inhabited β] {f:α->List Value} {s:Nat} {c:β->List AV} {w:World} {fz:Nat->Prop} {v:Value}
theorem mI {u x:Value} (h:FRel w fz (.v u) x):x=u:=by
 cases h with
 | v _=>rfl
theorem pW {e:β->α} (hf:∀ x,c x=(f<|e x).map AV.v) (hs:∀ x,(f<|e x).length=s) {l:List β} (h:FRel w fz (eL c l) v):Sl f s w 0 w.heap.size v (l.map e):=by
 unfold eL at h
 cases h with
 | sl us hc hm ha hr hu h1 h=>
  refine ⟨_,_,by rw [llm],by simpa using hc,hm,λhn=>?_⟩;rw [llm] at hn;obtain ⟨rfl,hg,hlt⟩:=ha hn;refine ⟨_,_,rfl,GM _,hlt,hlt,λk hk j u hu' => ?_⟩;rw [llm] at hk;rw [G8] at hu';have hk0:l.getD k default=l[k]:=by simp [List.getD,hk]
  have hrow:(c<|l.getD k default)[j]? = some (.v u):=by rw [hk0,hf,Hm,hu'];rfl
  have hs':=hr k hk
  dsimp only at hs'
  rw [hf,llm,hs] at hs';subst hs';have h2:=hu k j _ hk hrow;rw [mI (h k j _ hk hrow)] at h2;exact h2
theorem mJ {e:β->α} (hf:∀ x,c x=(f<|e x).map AV.v) (hs:∀ x,(f<|e x).length=s) {l:List (List β)} (h:FRel w fz (eL (cL c) l) v):uM f s w 0 w.heap.size v (l.map λr=>r.map e):=by
 unfold eL at h
 cases h with
 | sl us hc hm ha hr hu h1 h=>
  refine ⟨(GI l.length).map λi=>us i 0,?_,by simp,λk hk hk' => ?_⟩
  ·refine ⟨_,_,by rw [llm,G9],by simpa using hc,hm,λhn=>?_⟩;rw [llm,G9] at hn;obtain ⟨rfl,hg,hlt⟩:=ha hn;refine ⟨_,_,rfl,GM _,hlt,hlt,λk hk j u hu' => ?_⟩;rw [llm,G9] at hk;rw [G8,List.getElem_range] at hu';have hs':=hr k hk;change 1=_ at hs';subst hs'
   match j with
   | 0=>
    have h2:=hu k 0 _ hk rfl;rw [h2];simpa [AU] using hu'
   | j+1=>simp [AU] at hu'
  rw [llm,G9] at hk;rw [G8,G8,List.getElem_range];have h2:=h k 0 _ hk rfl;have hk0:l.getD k default=l[k]:=by simp [List.getD,hk]
  rw [hk0] at h2;exact pW hf hs h2
theorem vk {e:α->β} (hf:∀ x,c (e x)=(f x).map AV.v) (hs:∀ x,(f x).length=s) (hp:∀ x,∀ u∈f x,plain u=true) {l:List α} {hi:Nat} (h:Sl f s w 0 hi v l):FRel w (λg=>g<w.heap.size) (eL c<|l.map e) v:=by
 obtain ⟨A,cap,rfl,hc,hm,h⟩:=h;have key:∀ (g o:Nat),(0<l.length->A=some ⟨g,o,none⟩/\g<w.heap.size/\∀ (k:Nat) (h:k<l.length) (j:Nat) (u:Value),(f l[k])[j]? = some u->w.cell? ⟨g,o+k*s+j,none⟩=some u)->FRel w (λg=>g<w.heap.size) (eL c<|l.map e) (.slice A l.length cap):=by
  intro g o hh;have hrow:∀ (i j:Nat) (a:AV),i<l.length->(c<|(l.map e).getD i default)[j]? = some a->∃ u,l[i]?.bind (λx=>(f x)[j]?)=some u/\a = .v u/\plain u=true/\w.cell? ⟨g,o+i*s+j,none⟩=some u:=by
   intro i j a hi ha;have h0:(l.map e).getD i default=e l[i]:=by simp [List.getD,hi]
   rw [h0,hf,Hm] at ha
   cases hq:(f l[i])[j]? with
   | none=>rw [hq] at ha;cases ha
   | some u=>
    rw [hq] at ha;refine ⟨u,by rw [geq hi];exact hq,(osl ha).symm,hp _ u<|G3 hq,(hh<|by omega).2.2 i hi j u hq⟩
  have e0:(l.map e).length=l.length:=by simp
  unfold eL;rw [e0];refine FRel.sl (s:=s) (g:=g) (o:=o) (λi j=>(l[i]?.bind λx=>(f x)[j]?).getD<|.bool false) hc hm (λhn=>⟨(hh hn).1,(hh hn).2.1,(hh hn).2.1⟩) (λi hi=>?_) (λi j a hi ha=>?_) (λi j a hi ha=>?_) λi j a hi ha=>?_
  ·have h0:(l.map e).getD i default=e l[i]:=by simp [List.getD,hi]
   rw [h0,hf,llm,hs]
  ·obtain ⟨u,h1,h2,h3,h4⟩:=hrow i j a hi ha;simp only [h1,GJ];exact h4
  ·obtain ⟨u,h1,h2,h3,h4⟩:=hrow i j a hi ha;simp only [h1,GJ];exact mZ h3
  obtain ⟨u,h1,h2,h3,h4⟩:=hrow i j a hi ha;subst h2;simp only [h1,GJ];exact .v h3
 by_cases h0:0<l.length
 ·obtain ⟨b,o,hA,_,_,hlt,hcell⟩:=h h0;exact key b o λ_=>⟨hA,hlt,hcell⟩
 exact key 0 0 λh1=>absurd h1 h0
theorem qx {P:Program} {g:FuncId} {ars:List AV} {r:AV} (h:aO P g ars r) (vs:Array Value) (hl:vs.size=ars.length) (hr:∀ (i:Nat) (a:AV) (v:Value),ars[i]? = some a->vs[i]? = some v->FRel w (λg=>g<w.heap.size) a v) (hgl:Gl w (λg=>g<w.heap.size):=by exact vB) :
  Calls P g vs w λe w'=>∃ v fz',e = .returned v/\Below w.heap.size w w'/\FRel w' fz' r v:=
 (h.2 w _ vs (λg hg=>hg) hgl hl hr).mono λe w' ⟨v,fz',h1,h2,h3,_⟩=>⟨v,fz',h1,h2,h3⟩
theorem Cf {a:AV} {u:Value} (h:FRel w fz a u):∀ (i:Nat) (a':AV) (v:Value),[a][i]? = some a' -> #[u][i]? = some v->FRel w fz a' v:=by
 intro i a' v h1 h2
 match i with
 | 0=>
  obtain rfl:=osl h1;obtain rfl:u=v:=by simpa using h2
  exact h
 | i+1=>simp at h1
end
theorem vo {w:World} {v:Value} {hi:Nat} {l:LI} (h:Sl r9 1 w 0 hi v l):FRel w (λg=>g<w.heap.size) (eL cY l) v:=by
 have := vk (f:=r9) (s:=1) (c:=cY) (e:=id) (λ_=>rfl) (λ_=>rfl) (λx u hu=>by simp [r9] at hu;subst hu;rfl) h
 rwa [List.map_id] at this
theorem sO {P:Program} {g:FuncId} {ars:List AV} {w:World} {vs:Array Value} (h:aO P g ars<|Bo true) (hl:vs.size=ars.length) (hr:∀ (i:Nat) (a:AV) (v:Value),ars[i]? = some a->vs[i]? = some v->FRel w (λg=>g<w.heap.size) a v) (hgl:Gl w (λg=>g<w.heap.size):=by exact vB) :
  Calls P g vs w λe w'=>e = .returned (.bool true)/\Below w.heap.size w w':=
 (qx h vs hl hr hgl).mono λe w' ⟨v,fz',h1,h2,h3⟩=>⟨by rw [h1,mI h3],h2⟩
theorem Bz {vs:Array Value} {a:AV} (hl:vs.size=[a].length):∃ u,vs = #[u]:=by
 obtain ⟨l⟩:=vs
 match l,hl with
 | [u],_=>exact ⟨u,rfl⟩
abbrev jA:=@TO.nil
abbrev jC:=@T.region
abbrev jE:=@T.block
abbrev jG:=@T.skip
abbrev jH:=@T.seq
abbrev jI:=@T.sr
abbrev jK:=@T.ret
abbrev jM:=@T.exit
abbrev jN:=@T.ifH
abbrev jO:=@T.loop
abbrev jP:=@T.drawF
abbrev jQ:=@Fin.ret
abbrev jR:=@TF.nil
theorem qC {m:Nat} {H:AH} {a:AV} (h:isF 9 a=true):Fz m H a a:=.of_isF 9 _ h
theorem qD {α:Sort _} {β:α->Sort _} {f:(x:α)->β x}:∀ x,f x=f x:=λ_=>rfl
theorem bD (p:List<|List CV) {q} (h:ak p=some q):aO Tryz.prog 16 [eL (cL CV.c) p] (Bo q):=by
 unfold ak at h;obtain ⟨⟨h1,h2⟩,h⟩:=gdD h;obtain rfl:=osl h;refine ⟨by kernel_rfl,λw fz vs hlt _ hl hrel=>?_⟩;obtain ⟨u,rfl⟩:=Bz hl;have hs:=mJ (f:=Ins.cells) (s:=4) (e:=kH) (λ_=>rfl) (λ_=>rfl)<|hrel 0 _ u rfl rfl;refine (jb hs (G7 _)<|by rw [wG];exact h2).mono λe w' ⟨he,hb⟩ => ?_;exact ⟨_,fz,he,hb,.v Z,λg hg=>hg,λg hg => .inl hg,λg hg=>Nat.lt_of_lt_of_le (hlt g hg) hb.size⟩
theorem vp {w:World} {g o:Nat} {sp:Bool} (hc:w.cell? ⟨g,o+16,none⟩=some (.bool sp)) {t l:Int} (ht:0<=t/\t<3) (hl:0<=l/\l<3) :
  Calls Tryz.prog 253 #[.pointer (some ⟨g,o,none⟩),.int .i64 t,.int .i64 l] w λe w'=>e = .returned (.int .i64<|dI sp t l)/\w'=w:=by
 obtain ⟨t1,t2⟩:=ht;obtain ⟨l1,l2⟩:=hl
 cases sp with
 | true=>
  go_enter Tryz.func253,Tryz.ntmps253
  go_wp2
  go_ret
  exact ⟨rfl,rfl⟩
 | false=>
  go_enter Tryz.func253,Tryz.ntmps253
  go_wp2
  go_ret
  exact ⟨rfl,rfl⟩
def Cw:Code:=match (Tryz.f252).body with
 | some (.seq _<|.seq (.seq c _) _)=>c
 | _ => .skip
def Cy:Code:=match (Tryz.f252).body with
 | some (.seq _<|.seq _<|.seq c _)=>c
 | _ => .skip
theorem Ad {w:World} {g o:Nat} {sp:Bool} (hsp:w.cell? ⟨g,o+16,none⟩=some (.bool sp)) {wb wo wl wc:Nat} (hw:w.cell? ⟨g,o+17,none⟩=some (.slice (some ⟨wb,wo,none⟩) wl wc))
  (hg:g<w.heap.size) (hwb:wb<w.heap.size) {t loc:Int} (ht:0<=t/\t<3) (hl:0<=loc/\loc<3) (hi0:0<=dI sp t loc) (hi:dI sp t loc<(wl:Int)) {A:Option Addr} {n cap:Nat} (hwi:w.cell? ⟨wb,wo+(dI sp t loc).toNat,none⟩=some (.slice A n cap))
  (BK:∀ W:World,Calls Tryz.prog 258 #[.slice A n cap] W λe w'=>e = .returned (.func (.func 260) #[] #[.pointer (some ⟨W.heap.size,0,none⟩)])/\w'=W.alloc (.cells #[.slice A n cap] 22))
  {K:Act->World->Prop} (h:K { tmps := #[.pointer (some ⟨g,o,none⟩),.int .i64 t,.int .i64 loc,undef,undef,.pointer (some ⟨w.heap.size,0,none⟩),.pointer (some ⟨w.heap.size+1,0,none⟩),undef,undef,.pointer (some ⟨g,o,none⟩),.pointer (some ⟨g,o,none⟩),.pointer (some ⟨g,o+17,none⟩),.slice (some ⟨wb,wo,none⟩) wl wc,.pointer (some ⟨g,o,none⟩),.int .i64 t,.int .i64 loc,.int .i64 (dI sp t loc),.pointer (some ⟨wb,wo+(dI sp t loc).toNat,none⟩),.slice A n cap,.func (.func 260) #[] #[.pointer (some ⟨w.heap.size+1+1,0,none⟩)],undef,undef,undef,undef,undef,undef,undef,undef,undef,undef,undef,undef,undef,undef,undef,undef],defers:=[] } (((w.alloc<|.cells #[.int .i64 loc] 3).alloc<|.cells #[.int .u8 0] 5).alloc<|.cells #[.slice A n cap] 22).drew) :
  Cw.wp Tryz.prog (Exit.then K λ_ _ _=>False) { tmps := #[.pointer (some ⟨g,o,none⟩),.int .i64 t,.int .i64 loc,undef,undef,.pointer (some ⟨w.heap.size,0,none⟩),.pointer (some ⟨w.heap.size+1,0,none⟩),undef,undef,undef,undef,undef,undef,undef,undef,undef,undef,undef,undef,undef,undef,undef,undef,undef,undef,undef,undef,undef,undef,undef,undef,undef,undef,undef,undef,undef],defers:=[] } ((w.alloc<|.cells #[.int .i64 loc] 3).alloc<|.cells #[.int .u8 0] 5):=by
 obtain ⟨t1,t2⟩:=ht;obtain ⟨l1,l2⟩:=hl;have BU:∀ W:World,W.cell? ⟨g,o+16,none⟩=some (.bool sp)->Calls Tryz.prog 253 #[.pointer (some ⟨g,o,none⟩),.int .i64 t,.int .i64 loc] W λe w'=>e = .returned (.int .i64<|dI sp t loc)/\w'=W:=λW h=>vp h ⟨t1,t2⟩ ⟨l1,l2⟩;have e:Cw=Code.region 1 _ true:=rfl;rw [e]
 go_region_with (first
  | (go_at_call 253;refine (BU _ ?_).mono ?_;(exact (((((Below.refl w.heap.size w).alloc (G7 _) _).alloc (by simp) _).drew).cell (p:=⟨g,o+16,none⟩) hg).trans hsp);rintro e w' ⟨rfl,rfl⟩)
  | (go_at_call 258;refine (BK _).mono ?_;rintro e w' ⟨rfl,rfl⟩))
 all_goals exact h
theorem Ae {W:World} {g o LB RB:Nat} {t loc m:Int} (hl:0<=loc/\loc<3) (hc5:W.cell? ⟨LB,0,none⟩=some (.int .i64 loc)) (hc6:W.cell? ⟨RB,0,none⟩=some (.int .u8 0)) (hf6:W.frozen? ⟨RB,0,none⟩=false) (hm:W.cell? ⟨g,o+13+loc.toNat,none⟩=some (.int .u8 m)) {ds:List Deferred} {A9 A10 A11 A12 A13 A14 A15 A16 A17 A18 A19:Value}
  {K:Act->World->Prop} (h:K { tmps := #[.pointer (some ⟨g,o,none⟩),.int .i64 t,.int .i64 loc,undef,undef,.pointer (some ⟨LB,0,none⟩),.pointer (some ⟨RB,0,none⟩),undef,undef,A9,A10,A11,A12,A13,A14,A15,A16,A17,A18,A19,undef,undef,undef,undef,undef,undef,undef,undef,undef,.pointer (some ⟨g,o,none⟩),.int .i64 loc,.pointer (some ⟨g,o,none⟩),.pointer (some ⟨g,o,none⟩),.pointer (some ⟨g,o+13,none⟩),.pointer (some ⟨g,o+13+loc.toNat,none⟩),.int .u8 m],defers:=ds } (W.setCell ⟨RB,0,none⟩<|.int .u8 m).drew) :
  Cy.wp Tryz.prog (Exit.then K λ_ _ _=>False) { tmps := #[Value.pointer (some ⟨g,o,none⟩),.int .i64 t,.int .i64 loc,undef,undef,.pointer (some ⟨LB,0,none⟩),.pointer (some ⟨RB,0,none⟩),undef,undef,A9,A10,A11,A12,A13,A14,A15,A16,A17,A18,A19,undef,undef,undef,undef,undef,undef,undef,undef,undef,undef,undef,undef,undef,undef,undef,undef],defers:=ds } W:=by
 obtain ⟨l1,l2⟩:=hl;have e:Cy=Code.region 5 _ true:=rfl;rw [e]
 go_region
 all_goals exact h
end
end Go.Proofs.YtjcmfddobaplbaaGreat
