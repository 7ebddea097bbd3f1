/- Texts joined. No conditions. -/
import Derived.OpenShut
import Derived.Carry
import Derived.ChangeOld
import Derived.RowKit
import Derived.LaidMore
import Derived.LaidSub
import Derived.MakeChecks
import Derived.Test.YtdmahcaohkplcaaGreatDoorC15
namespace Go.Proofs.YtdmahcaohkplcaaGreatDoor
noncomputable section
open _root_.Inhabited renaming default -> Uo
open _root_.Bool renaming true -> Uq
open _root_.Bool renaming false -> Ur
open _root_.Option renaming some -> Us
open _root_.Option renaming none -> Ut
open _root_.Decidable renaming decide -> Uu
open _root_.Go.Proofs.Tryz
open _root_.Go.Proofs.Tryz renaming prog -> Uv
open _root_.List renaming replicate -> aaz, eq_nil_of_length_eq_zero -> aaA
set_option maxHeartbeats 4000000
open Go.RowKit
set_option maxRecDepth 100000
attribute [local irreducible] T TO TF TG TX TS EvA
theorem pG (x:TY) (loc:Int) (i:Int) (k_:Int) {q} (h:ez x loc i k_=Us q):ax Uv 202 [.agg (TY.c x),I loc,I i,I k_] (Bo q):=by
 refine pM func202 Z (by kernel_rfl) Z<|go h λ_ h=>?_;refine eF Z Z Z<|go h λ_ h=>?_;refine jH<|T.drawP (by kernel_rfl) (by kernel_rfl) ?_;refine go h λf h=>?_;obtain ⟨g1,_⟩:=f;refine fC h (λ_=>iT _ _) Z Z Z Z Z λv2 _ h=>(go h λ_ h=>?_);refine fC h (λ_=>iT _ _) Z Z Z Z Z λv3 _ h=>(go h λ_ h=>?_);refine TO.jB h 3 (λs4=>[(30,Bo s4),(10,I v3),(9,I v2)]) (λs4=>[]) (λs4 q5 h js4=>?_) (λs4 q5 h js4=>?_) λs4 h=>?_
 ·exact gj h js4
 ·exact gj h js4
 refine go h λ_ h=>?_;refine TO.jB h 4 (λs6=>[(35,Bo s6)]) (λs6=>[]) (λs6 q7 h js6=>?_) (λs6 q7 h js6=>?_) λs6 h=>?_
 ·exact gj h js6
 ·exact gj h js6
 exact gz h
theorem Cu (y:TW) {q} (h:tu y=Us q):ax Uv 204 [.agg (TW.c y)] (Bo q):=by
 refine pM func204 Z (by kernel_rfl) Z<|go h λ_ h=>?_;refine eF Z Z Z ?_;exact gz h
theorem dU (s:List TW) {q} (h:aV s=Us q):ax Uv 210 [eL TW.c s,.fn (.func 204) []] (I q):=by
 refine pM func210 Z (by kernel_rfl) Z<|go h λ_ h=>?_;obtain ⟨Ks1,es1,ws1,h,ks1⟩:=sumL h;refine T.join (S:=Unit) (G:=Unit) (λs1=>Ks1 s1=Us q) (λs1 gh=>True) (λs1 gh=>[]) (λs1 gh=>[]) (λs1 gh h hg=>?_) ?_
 ·clear ks1;subst es1;exact gz h
 refine go h λ_ h=>?_;refine tU h (λs4=>[(8,I s4),(7,I (s.length:Int)),(0,eL TW.c s),(1,.fn (.func 204) [])]) (λs4=>[]) λs4 ws4 h=>?_;refine go h λ_ h=>?_;refine jH ?_;refine jN Z h (λq6 h=>?_) λq6 h=>?_
 ·refine go h λ_ h=>?_;refine gs h λ_ h=>?_;refine oC h (λ_=>Cu _) Z Z Z Z λv8 _ h=>?_;refine gi h (λ_ q9 h=>?_) λ_ q9 h=>?_
  ·refine go h λ_ h=>?_;refine lX h λh=>?_;obtain rfl:=TV h;replace h:=congrArg Us (show _=_ from ks1);exact gz h
  refine go h λ_ h=>?_;exact lE h Um
 refine jM<|lX h λh=>?_
 cases h
 exact ⟨(),(),ks1,trivial,Um⟩
theorem dH (s:List TW) {q} (h:aC s=Us q):ax Uv 203 [eL TW.c s,.fn (.func 204) []] (Bo q):=by
 refine pM func203 Z (by kernel_rfl) Z<|go h λ_ h=>?_;refine oC h (λ_=>dU _) Z Z Z Z λv1 _ h=>?_;exact gz h
theorem jp (e_:TZ) (writes:Bool) {q} (h:dJ e_ writes=Us q):ax Uv 205 [.agg (TZ.c e_),Bo writes] (Bo q):=by
 refine pM func205 Z (by kernel_rfl) Z<|go h λ_ h=>?_;refine eF Z Z Z<|go h λ_ h=>?_;refine oN (TS.beq bt4 Z Z)<|go h λ_ h=>?_;refine TO.jB h 5 (λs1=>[(14,Bo s1)]) (λs1=>[]) (λs1 q2 h js1=>?_) (λs1 q2 h js1=>?_) λs1 h=>?_
 ·refine go h λ_ h=>?_;refine gN Z q2 (TS.bne bt4 Z Z) ?_;exact gj h js1
 ·exact gj h js1
 exact gz h
theorem EI (p:List<|List TW) (x:TY) (list:List TZ) (name:BA) (i:Int) (k_:Int) {q} (h:rT p x list name i k_=Us q):ax Uv 185 [eL (cL TW.c) p,.agg (TY.c x),eL TZ.c list,St name,I i,I k_] (Bo q):=by
 let d1:=TZ.c<|J list i;let d0:=TZ.c<|J list k_;refine pM func185 Z (by kernel_rfl) Z<|go h λ_ h=>?_;refine eF Z Z Z<|gq h λ_ h=>?_;refine jH<|T.reserve<|T.reserve<|jP (dG [dF,dF,dF,dF,dF,dF,dF,dF,([0],Uq),([1],Uq),([0],Uq),([1],Uq)]) (by kernel_rfl) (by kernel_rfl) ?_;refine go h λ_ h=>?_;refine fW 0 [] Z Z (λG hG=>EvA.alR 0 SU Z Z<|hG.a0 Z)<|fW 1 [] Z Z (λG hG=>EvA.alR 1 SU Z Z<|hG.a0 Z) ?_;refine go h λ_ h=>?_;refine TO.jB h 6 (λs3=>[(33,Bo s3),(14,.hp 1 0 5 0 0),(13,.hp 0 0 5 0 0),(7,.fp (TY.c x) 0),(0,eL (cL TW.c) p),(3,St name),(4,I i),(5,I k_)]) (λs3=>[Us ⟨0,5,75,[d1]⟩,Us ⟨0,5,75,[d0]⟩]) (λs3 q4 h js3=>?_) (λs3 q4 h js3=>?_) λs3 h=>?_
 ·refine go h λ_ h=>?_;refine gA Z q4 (lh (I<|(J list i).Thread) Uk Z Z Z)<|go h λ_ h=>?_;refine gA Z q4 (lh (I<|(J list k_).Thread) Uk Z Z Z) ?_;exact gj h js3
 ·exact gj h js3
 refine go h λ_ h=>?_;refine TO.jB h 6 (λs5=>[(40,Bo s5),(14,.hp 1 0 5 0 0),(13,.hp 0 0 5 0 0),(7,.fp (TY.c x) 0),(0,eL (cL TW.c) p),(3,St name),(4,I i),(5,I k_)]) (λs5=>[Us ⟨0,5,75,[d1]⟩,Us ⟨0,5,75,[d0]⟩]) (λs5 q6 h js5=>?_) (λs5 q6 h js5=>?_) λs5 h=>?_
 ·refine go h λ_ h=>?_;refine gA Z q6 (lh (I<|(J list i).Index) Uk Z Z Z)<|go h λ_ h=>?_;refine gA Z q6 (lh (I<|(J list k_).Index) Uk Z Z Z) ?_;exact gj h js5
 ·exact gj h js5
 refine go h λ_ h=>?_;obtain ⟨Ks7,es7,ws7,h,ks7⟩:=sumL h;refine T.join (S:=Unit) (G:=Unit) (λs7=>Ks7 s7=Us q) (λs7 gh=>True) (λs7 gh=>[(4,I i),(5,I k_)]) (λs7 gh=>[Us ⟨0,5,75,[d1]⟩,Us ⟨0,5,75,[d0]⟩]) (λs7 gh h hg=>?_) ?_
 ·clear ks7;subst es7;exact gz h
 refine gi h (λ_ q8 h=>?_) λ_ q8 h=>?_
 ·refine go h λ_ h=>?_;obtain rfl:=TV h;replace h:=congrArg Us (show _=_ from ks7);exact gz h
 refine gi h (λ_ q9 h=>?_) λ_ q9 h=>?_
 ·refine go h λ_ h=>?_;obtain rfl:=TV h;replace h:=congrArg Us (show _=_ from ks7);exact gz h
 refine gi h (λ_ q10 h=>?_) λ_ q10 h=>?_
 ·refine go h λ_ h=>?_;refine TO.jB h 4 (λs11=>[(63,Bo s11)]) (λs11=>[Us ⟨0,5,75,[d1]⟩,Us ⟨0,5,75,[d0]⟩]) (λs11 q12 h js11=>?_) (λs11 q12 h js11=>?_) λs11 h=>?_
  ·exact gj h js11
  ·refine go h λ_ h=>?_;refine gA Z q12 (lh (I<|(J list i).Thread) Uk Z Z Z) ?_;exact gj h js11
  refine go h λ_ h=>?_;obtain rfl:=TV h;replace h:=congrArg Us (show _=_ from ks7);exact gz h
 refine gi h (λ_ q13 h=>?_) λ_ q13 h=>?_
 ·refine go h λ_ h=>?_;obtain rfl:=TV h;replace h:=congrArg Us (show _=_ from ks7);exact gz h
 refine gi h (λ_ q15 h=>?_) λ_ q15 h=>?_
 ·refine go h λ_ h=>?_;refine oC h (λ_=>pG _ _ _ _) Z Z Z Z λv16 _ h=>(go h λ_ h=>?_);obtain rfl:=TV h;replace h:=congrArg Us (show _=_ from ks7);exact gz h
 refine gi h (λ_ q17 h=>?_) λ_ q17 h=>?_
 ·refine T.jU h (λs18=>[(12,Bo s18)]) (λs18=>[Us ⟨0,5,75,[d1]⟩,Us ⟨0,5,75,[d0]⟩]) (λs18 h=>?_) λs18 h=>?_
  ·refine go h λ_ h=>?_;obtain rfl:=TV h;replace h:=congrArg Us (show _=_ from ks7);exact gz h
  refine T.cl [14,13,7,4,5] Z<|T.drawG (dG [dF,([0],Ur),dF,dF,([1],Ur),dF,dF,dF,dF,dF,dF,dF,dF,dF,([0],Ur),dF,dF,dF,dF,dF,dF,dF,dF,dF]) (by kernel_rfl) (by kernel_rfl) ?_;refine go h λ_ h=>?_;rcases CN h with ⟨q19,h⟩ | ⟨q19,h⟩
  ·refine go h λ_ h=>?_;refine tgR Z q19 [1] Z (λG hG=>EvA.loadhp (Bo<|(J list k_).bq) ty4 Z (hG.a0 Z) Z Z Z Z)<|gp h λ_ h=>?_;refine go h λ_ h=>?_;rcases CN h with ⟨q20,h⟩ | ⟨q20,h⟩
   ·refine gp h λ_ h=>?_;refine go h λ_ h=>?_;rcases CN h with ⟨q21,h⟩ | ⟨q21,h⟩
    ·refine go h λ_ h=>?_;refine tgR Z q21 [0] Z (λG hG=>EvA.loadhp (I<|(J list i).Loc) Uk Z (hG.a0 Z) Z Z Z Z)<|go h λ_ h=>?_;refine jB h λv23 cv23 h=>tgN Z q21 Z (TS.call Z Z Z (pG x ((J list i).Loc) (J x.From i) k_ cv23) Z)<|gp h λ_ h=>?_;refine go h λ_ h=>?_
     cases h
     exact ⟨(),trivial,Um⟩
    refine gp h λ_ h=>?_;refine go h λ_ h=>?_
    cases h
    exact ⟨(),trivial,Um⟩
   refine gp h λ_ h=>?_;refine gp h λ_ h=>?_;refine go h λ_ h=>?_
   cases h
   exact ⟨(),trivial,Um⟩
  refine gp h λ_ h=>?_;refine gp h λ_ h=>?_;refine gp h λ_ h=>?_;refine go h λ_ h=>?_
  cases h
  exact ⟨(),trivial,Um⟩
 refine gi h (λ_ q24 h=>?_) λ_ q24 h=>?_
 ·refine T.jU h (λs25=>[(12,Bo s25)]) (λs25=>[Us ⟨0,5,75,[d1]⟩,Us ⟨0,5,75,[d0]⟩]) (λs25 h=>?_) λs25 h=>?_
  ·refine go h λ_ h=>?_;obtain rfl:=TV h;replace h:=congrArg Us (show _=_ from ks7);exact gz h
  refine T.cl [15,14,13,0] Z<|T.drawG (dG [dF,dF,dF,dF,([0],Ur),dF,dF,dF,([0],Ur),dF,([1],Ur),dF,dF,dF,dF]) (by kernel_rfl) (by kernel_rfl) ?_;refine go h λ_ h=>?_;rcases CN h with ⟨q26,h⟩ | ⟨q26,h⟩
  ·refine go h λ_ h=>?_;refine tgR Z q26 [0] Z (λG hG=>EvA.loadhp (I<|(J list i).Thread) Uk Z (hG.a0 Z) Z Z Z Z)<|go h λ_ h=>?_;refine tgR Z q26 [0] Z (λG hG=>EvA.loadhp (I<|(J list i).Index) Uk Z (hG.a0 Z) Z Z Z Z)<|go h λ_ h=>?_;refine tgR Z q26 [1] Z (λG hG=>EvA.loadhp (I<|(J list k_).Index) Uk Z (hG.a0 Z) Z Z Z Z)<|jD h λg28 h=>tgN Z q26 Z (TS.slL Gy Z (.yes Z) (.yes Z) g28 qD)<|jB h λv29 cv29 h=>tgN Z q26 Z (TS.call Z Z Z (dH (((J p<|(J list i).Thread).drop ((J list i).Index).toNat).take<|((J list k_).Index).toNat-((J list i).Index).toNat) cv29) Z) ?_;refine gp h λ_ h=>?_;refine go h λ_ h=>?_
   cases h
   exact ⟨(),trivial,Um⟩
  refine gp h λ_ h=>?_;refine go h λ_ h=>?_
  cases h
  exact ⟨(),trivial,Um⟩
 refine gi h (λ_ q30 h=>?_) λ_ q30 h=>?_
 ·refine go h λ_ h=>?_;refine oC h (λ_=>jp _ _) Z Z Z Z λv31 _ h=>(go h λ_ h=>?_);refine TO.jB h 3 (λs32=>[(129,Bo s32)]) (λs32=>[Us ⟨0,5,75,[d1]⟩,Us ⟨0,5,75,[d0]⟩]) (λs32 q33 h js32=>?_) (λs32 q33 h js32=>?_) λs32 h=>?_
  ·refine gA Z q33 (lh (.agg d0) SS Z Z Z)<|jB h λv34 cv34 h=>gN Z q33 (TS.call Z Z Z (jp (⟨(J list k_).Thread,(J list k_).Index,(J list k_).Loc,(J list k_).Reads,(J list k_).bq⟩:TZ) Ur cv34) Z) ?_;exact gj h js32
  ·exact gj h js32
  refine go h λ_ h=>?_;obtain rfl:=TV h;replace h:=congrArg Us (show _=_ from ks7);exact gz h
 refine gi h (λ_ q35 h=>?_) λ_ q35 h=>?_
 ·refine go h λ_ h=>?_;refine oC h (λ_=>jp _ _) Z Z Z Z λv36 _ h=>(go h λ_ h=>?_);refine TO.jB h 3 (λs37=>[(137,Bo s37)]) (λs37=>[Us ⟨0,5,75,[d1]⟩,Us ⟨0,5,75,[d0]⟩]) (λs37 q38 h js37=>?_) (λs37 q38 h js37=>?_) λs37 h=>?_
  ·refine gA Z q38 (lh (.agg d0) SS Z Z Z)<|jB h λv39 cv39 h=>gN Z q38 (TS.call Z Z Z (jp (⟨(J list k_).Thread,(J list k_).Index,(J list k_).Loc,(J list k_).Reads,(J list k_).bq⟩:TZ) Uq cv39) Z) ?_;exact gj h js37
  ·exact gj h js37
  refine go h λ_ h=>?_;obtain rfl:=TV h;replace h:=congrArg Us (show _=_ from ks7);exact gz h
 refine go h λ_ h=>?_
 cases h
 exact ⟨(),(),ks7,trivial,Um⟩
theorem Dc (i:Int) (k_:Int) (a2:List<|List TW) (a3:TY) (a4:List TZ) (a5:BA) {q} (h:uT i k_ a2 a3 a4 a5=Us q):ax Uv 184 [I i,I k_,.fp ((cL<|cL TW.c) a2) 0,.fp (TY.c a3) 0,.fp ((cL TZ.c) a4) 0,.fp (cS a5) 0] (Bo q):=by
 refine pM func184 Z (by kernel_rfl) Z<|go h λ_ h=>?_;refine oC h (λ_=>EI _ _ _ _ _ _) Z Z Z Z λv1 _ h=>?_;exact gz h
theorem qJ (n:Int) (is0:List<|List TW) (is1:TY) (is2:List TZ) (is3:BA) {q} (h:kz n is0 is1 is2 is3=Us q):ax Uv 183 [I n,.fn (.func 184) [.fp ((cL<|cL TW.c) is0) 0,.fp (TY.c is1) 0,.fp ((cL TZ.c) is2) 0,.fp (cS is3) 0]] (eL cI q):=by
 refine pM func183 Z (by kernel_rfl) Z<|go h λ_ h=>?_;refine jD h λg1 h=>oA (EvA.mkN (c:=cI) (Uo:Int) lK Z Z g1 Z Z Z)<|go h λ_ h=>?_;refine tJ h (λs2 gh=>[(5,hS Ur 0 gh 1 s2.length)]) (λs2 gh=>[bE Ur gh 1 3 (s2.map cI)]) (λs2 u27 h=>?_) λs2 h=>?_
 ·exact gf h
 refine go h λ_ h=>?_;refine tT h 0 (λs6 gh=>[(11,I s6.2),(10,I n),(5,hS Ur 0 gh 1 s6.1.length),(0,I n),(1,.fn (.func 184) [.fp ((cL<|cL TW.c) is0) 0,.fp (TY.c is1) 0,.fp ((cL TZ.c) is2) 0,.fp (cS is3) 0])]) (λs6 gh=>[bE Ur gh 1 3 (s6.1.map cI)]) λs6 u8 ws6 h=>?_;refine go h λ_ h=>?_;refine jH ?_;refine jN Z h (λq9 h=>?_) λq9 h=>?_
 ·refine go h λ_ h=>?_;refine tJ h (λs10 gh=>[(11,I s6.2),(10,I n),(5,hS Ur 0 gh 1 s10.length),(0,I n),(1,.fn (.func 184) [.fp ((cL<|cL TW.c) is0) 0,.fp (TY.c is1) 0,.fp ((cL TZ.c) is2) 0,.fp (cS is3) 0])]) (λs10 gh=>[bE Ur gh 1 3 (s10.map cI)]) (λs10 u25 h=>?_) λs10 h=>?_
  ·refine go h λ_ h=>?_;obtain rfl:=TV h;exact ⟨(s10,(s6.2+V)),u25,Z,trivial,Um⟩
  refine go h λ_ h=>?_;refine tT h u8 (λs14 gh=>[(15,I s14.2),(14,I n),(6,I s6.2),(11,I s6.2),(10,I n),(5,hS Ur 0 gh 1 s14.1.length),(0,I n),(1,.fn (.func 184) [.fp ((cL<|cL TW.c) is0) 0,.fp (TY.c is1) 0,.fp ((cL TZ.c) is2) 0,.fp (cS is3) 0])]) (λs14 gh=>[bE Ur gh 1 3 (s14.1.map cI)]) λs14 u16 ws14 h=>?_;refine go h λ_ h=>?_;refine jH ?_;refine jN Z h (λq17 h=>?_) λq17 h=>?_
  ·refine go h λ_ h=>?_;refine tJ h (λs18 gh=>[(15,I s14.2),(14,I n),(6,I s6.2),(11,I s6.2),(10,I n),(5,hS Ur 0 gh 1 s18.length),(0,I n),(1,.fn (.func 184) [.fp ((cL<|cL TW.c) is0) 0,.fp (TY.c is1) 0,.fp ((cL TZ.c) is2) 0,.fp (cS is3) 0])]) (λs18 gh=>[bE Ur gh 1 3 (s18.map cI)]) (λs18 u23 h=>?_) λs18 h=>?_
   ·refine go h λ_ h=>?_;obtain rfl:=TV h;exact ⟨(s18,(s14.2+V)),u23,Z,trivial,Um⟩
   refine go h λ_ h=>?_;refine oC h (λ_=>Dc _ _ _ _ _ _) Z Z Z Z λv19 _ h=>?_;refine gi h (λ_ q20 h=>?_) λ_ q20 h=>?_
   ·refine jP (dG [dF,dF,dF,([0],Ur),dF,dF,dF,dF,([0],Uq)]) (by kernel_rfl) (by kernel_rfl)<|go h λf h=>?_;obtain ⟨_,g21,_⟩:=f;refine fV 0 [] Z Z (λG hG=>EvA.stO (g:=false) (l:=s14.1) (cs:=[I (bOr .i64 (J s14.1 s6.2)<|G3 .i64 V s14.2)]) (bOr .i64 (J s14.1 s6.2)<|G3 .i64 V s14.2) Uk Z Z (hG.a0 Z) nofun (aG Z g21) Z Z Z)<|go h λ_ h=>?_;obtain rfl:=TV h;exact ⟨u16,trivial,BB Z<|TR Z<|TR Z<|TR Z<|TR Z<|TR Z<|TR (congrArg (hS Ur 0 u16 1) (by simp:s14.1.length=(s14.1.set s6.2.toNat<|bOr .i64 (J s14.1 s6.2)<|G3 .i64 (1:Int) s14.2).length))<|TR Z<|TR Z TQ⟩
   refine go h λ_ h=>?_
   cases h
   exact ⟨u16,trivial,Um⟩
  refine jM<|lX h λh=>?_
  cases h
  exact ⟨u16,trivial,Um⟩
 refine jM<|lX h λh=>?_
 cases h
 exact ⟨u8,trivial,Um⟩
theorem E9 (p:List<|List TW) (x:TY) (name:BA) {q} (h:iX p x name=Us q):ax Uv 150 [eL (cL TW.c) p,.agg (TY.c x),St name] (eL cI q):=by
 refine pM func150 Z (by kernel_rfl) Z<|jI<|oN (TS.bxF [eL (cL TW.c) p] Z Z Z)<|oN (TS.bxF [eL cI x.From,eL (cL cI) x.Order] Z Z Z)<|oN (TS.bxF [St name] Z Z Z)<|oN as'<|jA<|jI<|oN (lf (eL (cL TW.c) p) SR Z)<|oC h (λ_=>oU _) Z Z Z Z λv1 _ h=>oA (EvA.al TE Z Z)<|oV (sr [eL TZ.c v1] Tn Z Z Z Z)<|TO.cut (e0:=ak [(7,.fp ((cL TZ.c) v1) 0),(5,.fp (cS name) 0),(4,.fp (TY.c x) 0),(3,.fp ((cL<|cL TW.c) p) 0)]) (H0:=[]) (rI Z .nil<|ai (.fz<|Fz.fpL (ver:=0) (s:=1) (ty:=72) (rows:=[[eL TZ.c v1]]) Z Z Z<|.cons (qC Z) .nil)<|ai (.fz<|qC Z)<|ai (.fz<|qC Z)<|ai (.fz<|qC Z) aY)<|jA<|jI<|oN (lf (eL TZ.c v1) Tn Z) ?_;refine oN (TS.lenL K9 Z)<|oN (TS.mkfn [.fp ((cL<|cL TW.c) p) 0,.fp (TY.c x) 0,.fp ((cL TZ.c) v1) 0,.fp (cS name) 0] Z Z)<|oC h (λ_=>qJ _ _ _ _ _) Z Z Z Z λv2 _ h=>oN as'<|jA<|jK ?_
 cases h
 exact JK Z Z Z
theorem zT (x:Int) (a1:LI) {q} (h:pR x a1=Us q):ax Uv 207 [I x,.fp ((cL cI) a1) 0] (Bo q):=by
 refine pM func207 Z (by kernel_rfl) Z<|go h λ_ h=>?_;refine TO.jB h 6 (λs1=>[(12,Bo s1)]) (λs1=>[]) (λs1 q2 h js1=>?_) (λs1 q2 h js1=>?_) λs1 h=>?_
 ·exact gj h js1
 ·exact gj h js1
 exact gz h
theorem iU (s:LI) (f0:LI) {q} (h:bG s f0=Us q):ax Uv 86 [eL cI s,.fn (.func 207) [.fp ((cL cI) f0) 0]] (I q):=by
 refine pM func86 Z (by kernel_rfl) Z<|go h λ_ h=>?_;obtain ⟨Ks1,es1,ws1,h,ks1⟩:=sumL h;refine T.join (S:=Unit) (G:=Unit) (λs1=>Ks1 s1=Us q) (λs1 gh=>True) (λs1 gh=>[]) (λs1 gh=>[]) (λs1 gh h hg=>?_) ?_
 ·clear ks1;subst es1;exact gz h
 refine go h λ_ h=>?_;refine tU h (λs4=>[(8,I s4),(7,I (s.length:Int)),(0,eL cI s),(1,.fn (.func 207) [.fp ((cL cI) f0) 0])]) (λs4=>[]) λs4 ws4 h=>?_;refine go h λ_ h=>?_;refine jH ?_;refine jN Z h (λq6 h=>?_) λq6 h=>?_
 ·refine go h λ_ h=>?_;refine gs h λ_ h=>?_;refine oC h (λ_=>zT _ _) Z Z Z Z λv8 _ h=>?_;refine gi h (λ_ q9 h=>?_) λ_ q9 h=>?_
  ·refine go h λ_ h=>?_;refine lX h λh=>?_;obtain rfl:=TV h;replace h:=congrArg Us (show _=_ from ks1);exact gz h
  refine go h λ_ h=>?_;exact lE h Um
 refine jM<|lX h λh=>?_
 cases h
 exact ⟨(),(),ks1,trivial,Um⟩
theorem gK (s:LI) (f0:LI) {q} (h:bi s f0=Us q):ax Uv 206 [eL cI s,.fn (.func 207) [.fp ((cL cI) f0) 0]] (Bo q):=by
 refine pM func206 Z (by kernel_rfl) Z<|go h λ_ h=>?_;refine oC h (λ_=>iU _ _) Z Z Z Z λv1 _ h=>?_;exact gz h
theorem fq (r_:LI) {q} (h:cV r_=Us q):ax Uv 186 [eL cI r_] (Bo q):=by
 refine pM func186 Z (by kernel_rfl) Z<|jI<|oN (TS.bxF [eL cI r_] Z Z Z)<|oN as'<|jA<|jI<|oN (lf (eL cI r_) CH Z)<|oN (TS.lenL lK Z)<|oN (TS.ile Z Z)<|oN mv ?_;refine TO.jB h 5 (λs1=>[(11,Bo s1)]) (λs1=>[]) (λs1 q2 h js1=>?_) (λs1 q2 h js1=>?_) λs1 h=>?_
 ·refine gN Z q2 (lf (eL cI r_) CH Z)<|gN Z q2 (TS.mkfn [.fp ((cL cI) r_) 0] Z Z)<|jB h λv3 cv3 h=>gN Z q2 (TS.call Z Z Z (gK r_ r_ cv3) Z)<|gN Z q2 (TS.not Z)<|oN (TS.pickT Z q2 (Bo<|!v3) Z) ?_
  cases h
  exact js1 _ _<|kw Z Z
 ·refine gS Z q2<|gS Z q2<|gS Z q2<|gS Z q2<|oN (TS.pickF Z q2 (Bo Ur) Z) ?_
  cases h
  exact js1 _ _<|kw Z Z
 refine oN as'<|jA<|jK ?_
 cases h
 exact JK Z Z Z
theorem mH (r_:LI) (i:Int) (k_:Int) {q} (h:gY r_ i k_=Us q):ax Uv 188 [eL cI r_,I i,I k_] (Bo q):=by
 refine pM func188 Z (by kernel_rfl) Z ?_;exact gz h
theorem yA (i:Int) (k_:Int) (a2:LI) {q} (h:mP i k_ a2=Us q):ax Uv 187 [I i,I k_,.fp ((cL cI) a2) 0] (Bo q):=by
 refine pM func187 Z (by kernel_rfl) Z<|go h λ_ h=>?_;refine oC h (λ_=>mH _ _ _) Z Z Z Z λv1 _ h=>?_;exact gz h
theorem mY (n:Int) (is0:LI) {q} (h:gG n is0=Us q):ax Uv 183 [I n,.fn (.func 187) [.fp ((cL cI) is0) 0]] (eL cI q):=by
 refine pM func183 Z (by kernel_rfl) Z<|go h λ_ h=>?_;refine jD h λg1 h=>oA (EvA.mkN (c:=cI) (Uo:Int) lK Z Z g1 Z Z Z)<|go h λ_ h=>?_;refine tJ h (λs2 gh=>[(5,hS Ur 0 gh 1 s2.length)]) (λs2 gh=>[bE Ur gh 1 3 (s2.map cI)]) (λs2 u27 h=>?_) λs2 h=>?_
 ·exact gf h
 refine go h λ_ h=>?_;refine tT h 0 (λs6 gh=>[(11,I s6.2),(10,I n),(5,hS Ur 0 gh 1 s6.1.length),(0,I n),(1,.fn (.func 187) [.fp ((cL cI) is0) 0])]) (λs6 gh=>[bE Ur gh 1 3 (s6.1.map cI)]) λs6 u8 ws6 h=>?_;refine go h λ_ h=>?_;refine jH ?_;refine jN Z h (λq9 h=>?_) λq9 h=>?_
 ·refine go h λ_ h=>?_;refine tJ h (λs10 gh=>[(11,I s6.2),(10,I n),(5,hS Ur 0 gh 1 s10.length),(0,I n),(1,.fn (.func 187) [.fp ((cL cI) is0) 0])]) (λs10 gh=>[bE Ur gh 1 3 (s10.map cI)]) (λs10 u25 h=>?_) λs10 h=>?_
  ·refine go h λ_ h=>?_;obtain rfl:=TV h;exact ⟨(s10,(s6.2+V)),u25,Z,trivial,Um⟩
  refine go h λ_ h=>?_;refine tT h u8 (λs14 gh=>[(15,I s14.2),(14,I n),(6,I s6.2),(11,I s6.2),(10,I n),(5,hS Ur 0 gh 1 s14.1.length),(0,I n),(1,.fn (.func 187) [.fp ((cL cI) is0) 0])]) (λs14 gh=>[bE Ur gh 1 3 (s14.1.map cI)]) λs14 u16 ws14 h=>?_;refine go h λ_ h=>?_;refine jH ?_;refine jN Z h (λq17 h=>?_) λq17 h=>?_
  ·refine go h λ_ h=>?_;refine tJ h (λs18 gh=>[(15,I s14.2),(14,I n),(6,I s6.2),(11,I s6.2),(10,I n),(5,hS Ur 0 gh 1 s18.length),(0,I n),(1,.fn (.func 187) [.fp ((cL cI) is0) 0])]) (λs18 gh=>[bE Ur gh 1 3 (s18.map cI)]) (λs18 u23 h=>?_) λs18 h=>?_
   ·refine go h λ_ h=>?_;obtain rfl:=TV h;exact ⟨(s18,(s14.2+V)),u23,Z,trivial,Um⟩
   refine go h λ_ h=>?_;refine oC h (λ_=>yA _ _ _) Z Z Z Z λv19 _ h=>?_;refine gi h (λ_ q20 h=>?_) λ_ q20 h=>?_
   ·refine jP (dG [dF,dF,dF,([0],Ur),dF,dF,dF,dF,([0],Uq)]) (by kernel_rfl) (by kernel_rfl)<|go h λf h=>?_;obtain ⟨_,g21,_⟩:=f;refine fV 0 [] Z Z (λG hG=>EvA.stO (g:=false) (l:=s14.1) (cs:=[I (bOr .i64 (J s14.1 s6.2)<|G3 .i64 V s14.2)]) (bOr .i64 (J s14.1 s6.2)<|G3 .i64 V s14.2) Uk Z Z (hG.a0 Z) nofun (aG Z g21) Z Z Z)<|go h λ_ h=>?_;obtain rfl:=TV h;exact ⟨u16,trivial,BB Z<|TR Z<|TR Z<|TR Z<|TR Z<|TR Z<|TR (congrArg (hS Ur 0 u16 1) (by simp:s14.1.length=(s14.1.set s6.2.toNat<|bOr .i64 (J s14.1 s6.2)<|G3 .i64 (1:Int) s14.2).length))<|TR Z<|TR Z TQ⟩
   refine go h λ_ h=>?_
   cases h
   exact ⟨u16,trivial,Um⟩
  refine jM<|lX h λh=>?_
  cases h
  exact ⟨u16,trivial,Um⟩
 refine jM<|lX h λh=>?_
 cases h
 exact ⟨u8,trivial,Um⟩
theorem zU (r_:LI) {q} (h:lj r_=Us q):ax Uv 151 [eL cI r_] (eL cI q):=by
 refine pM func151 Z (by kernel_rfl) Z<|jI<|oN (TS.bxF [eL cI r_] Z Z Z)<|oN as'<|jA<|jH<|jI<|oN (lf (eL cI r_) CH Z)<|oC h (λ_=>fq _) Z Z Z Z λv1 _ h=>oN (TS.not Z)<|jA ?_;refine jN Z h (λq2 h=>?_) λq2 h=>?_
 ·refine jI<|oN as'<|jA<|jK ?_;obtain rfl:=TV h
  repeat (first|refine kC ?_|refine kD ?_)
  exact jQ (vs:=[.nil]) (.cons (.tmp Z) .nil) .nil0
 refine jG<|jI<|oN (lf (eL cI r_) CH Z)<|oN (TS.lenL lK Z)<|oN (TS.mkfn [.fp ((cL cI) r_) 0] Z Z)<|oC h (λ_=>mY _ _) Z Z Z Z λv3 _ h=>oN as'<|jA<|jK ?_
 cases h
 exact JK Z Z Z
theorem ub (r_:LI) {q} (h:iJ r_=Us q):ax Uv 152 [eL cI r_] (eL cI q):=by
 refine pM func152 Z (by kernel_rfl) Z<|go h λ_ h=>?_;refine gs h λ_ h=>?_;refine oC h (λ_=>fq _) Z Z Z Z λv1 _ h=>?_;refine gi h (λ_ q2 h=>?_) λ_ q2 h=>?_
 ·refine go h λ_ h=>?_;obtain rfl:=TV h
  repeat (first|refine kC ?_|refine kD ?_)
  exact jQ (vs:=[.nil]) (.cons (.tmp Z) .nil) .nil0
 refine go h λ_ h=>?_;refine jB h λv3 cv3 h=>?_;refine oG Z Z Z ((dO r_ cv3).own Z (nH qD) nI 0 Z) λg4 v5 n6=>?_;refine go h λ_ h=>?_;refine T.jF (G:=(Bool×Nat)) h (λs7 gh=>(gh.1=Uq->s7=[])) (λs7 gh=>[(3,hS gh.1 0 gh.2 1 s7.length)]) (λs7 gh=>[bE gh.1 gh.2 1 3 (s7.map cI)]) (λs7 gh h n49=>?_) λs7 h=>?_
 ·obtain ⟨b48,u47⟩:=gh;exact gf h
 refine go h λ_ h=>?_;refine tL h (g4,v5) (λs16 gh=>(gh.1=Uq->s16.1=[])) (λs16 gh=>[(13,I s16.2),(12,I (v3.length:Int)),(3,hS gh.1 0 gh.2 1 s16.1.length)]) (λs16 gh=>[bE gh.1 gh.2 1 3 (s16.1.map cI)]) (λx=>aaA<|n6 x) λs16 gh ws16 h n20=>?_;obtain ⟨b19,u18⟩:=gh;refine go h λ_ h=>?_;refine jH ?_;refine jN Z h (λq21 h=>?_) λq21 h=>?_
 ·refine go h λ_ h=>?_;refine T.jF (G:=(Bool×Nat)) h (λs22 gh=>(gh.1=Uq->s22=[])) (λs22 gh=>[(13,I s16.2),(12,I (v3.length:Int)),(3,hS gh.1 0 gh.2 1 s22.length)]) (λs22 gh=>[bE gh.1 gh.2 1 3 (s22.map cI)]) (λs22 gh h n45=>?_) λs22 h=>?_
  ·obtain ⟨b44,u43⟩:=gh;refine go h λ_ h=>?_;obtain rfl:=TV h;exact ⟨(s22,(s16.2+V)),(b44,u43),Z,n45,Um⟩
  refine go h λ_ h=>?_;refine tL h (b19,u18) (λs28 gh=>(gh.1=Uq->s28.1=[])) (λs28 gh=>[(18,I s28.2),(17,I (s16.1.length:Int)),(4,I s16.2),(13,I s16.2),(12,I (v3.length:Int)),(3,hS gh.1 0 gh.2 1 s28.1.length)]) (λs28 gh=>[bE gh.1 gh.2 1 3 (s28.1.map cI)]) n20 λs28 gh ws28 h n32=>?_;obtain ⟨b31,u30⟩:=gh;refine go h λ_ h=>?_;refine jH ?_;refine jN Z h (λq33 h=>?_) λq33 h=>?_
  ·refine go h λ_ h=>?_;refine T.jF (G:=(Bool×Nat)) h (λs34 gh=>(gh.1=Uq->s34=[])) (λs34 gh=>[(18,I s28.2),(17,I (s16.1.length:Int)),(4,I s16.2),(13,I s16.2),(12,I (v3.length:Int)),(3,hS gh.1 0 gh.2 1 s34.length)]) (λs34 gh=>[bE gh.1 gh.2 1 3 (s34.map cI)]) (λs34 gh h n41=>?_) λs34 h=>?_
   ·obtain ⟨b40,u39⟩:=gh;refine go h λ_ h=>?_;obtain rfl:=TV h;exact ⟨(s34,(s28.2+V)),(b40,u39),Z,n41,Um⟩
   refine go h λ_ h=>?_;refine jB h λv35 cv35 h=>oA (EvA.callT Z Z (mH s28.1 s28.2 s16.2 cv35) (.cons (Fz.own (g:=b31) (ver:=u30) (l:=s28.1) Z Z Z n32 qD)<|.cons (qC Z)<|.cons (qC Z) .nil) Z) ?_;refine gi h (λ_ q36 h=>?_) λ_ q36 h=>?_
   ·refine T.drawH (dG [dF,dF,dF,([0],Ur),dF,dF,dF,([0],Ur),dF,dF,([0],Uq)]) (by kernel_rfl) (by kernel_rfl)<|go h λ_ h=>?_;refine jD h λg37 h=>?_;obtain rfl:=CE n32 rfl g37;refine go h λ_ h=>?_;refine fV 0 [] Z Z (λG hG=>EvA.stO (g:=false) (l:=s28.1) (cs:=[I (bOr .i64 (J s28.1 s28.2)<|J s28.1 s16.2)]) (bOr .i64 (J s28.1 s28.2)<|J s28.1 s16.2) Uk Z Z (hG.a0 Z) nofun (aG Z g37) Z Z Z)<|go h λ_ h=>?_;obtain rfl:=TV h;exact ⟨(Ur,u30),nofun,BB Z<|TR Z<|TR Z<|TR Z<|TR Z<|TR Z<|TR (congrArg (hS Ur 0 u30 1) (by simp:s28.1.length=(s28.1.set s28.2.toNat<|bOr .i64 (J s28.1 s28.2)<|J s28.1 s16.2).length)) TQ⟩
   refine go h λ_ h=>?_
   cases h
   exact ⟨(b31,u30),n32,Um⟩
  refine jM<|lX h λh=>?_
  cases h
  exact ⟨(b31,u30),n32,Um⟩
 refine jM<|lX h λh=>?_
 cases h
 exact ⟨(b19,u18),n20,Um⟩
theorem mI (a:LI) (b:LI) {q} (h:eY a b=Us q):ax Uv 193 [eL cI a,eL cI b] (Bo q):=by
 refine pM func193 Z (by kernel_rfl) Z<|go h λ_ h=>?_;refine TO.jB h 3 (λs1=>[(13,Bo s1),(1,eL cI b)]) (λs1=>[]) (λs1 q2 h js1=>?_) (λs1 q2 h js1=>?_) λs1 h=>?_
 ·refine go h λ_ h=>?_;refine jB h λv3 cv3 h=>gN Z q2 (TS.call Z Z Z (fq a cv3) Z) ?_;exact gj h js1
 ·exact gj h js1
 refine go h λ_ h=>?_;refine TO.jB h 3 (λs4=>[(17,Bo s4)]) (λs4=>[]) (λs4 q5 h js4=>?_) (λs4 q5 h js4=>?_) λs4 h=>?_
 ·refine go h λ_ h=>?_;refine jB h λv6 cv6 h=>gN Z q5 (TS.call Z Z Z (fq b cv6) Z) ?_;exact gj h js4
 ·exact gj h js4
 exact gz h
theorem zV (x:Int) (y:Int) {q} (h:pU x y=Us q):ax Uv 190 [I x,I y] (I q):=by
 refine pM func190 Z (by kernel_rfl) Z ?_;exact gz h
theorem nA (a:LI) (b:LI) {q} (h:ia a b=Us q):ax Uv 189 [eL cI a,eL cI b,.fn (.func 190) []] (eL cI q):=by
 refine pM func189 Z (by kernel_rfl) Z<|go h λ_ h=>?_;refine gs h λ_ h=>?_;refine oC h (λ_=>mI _ _) Z Z Z Z λv1 _ h=>?_;refine gi h (λ_ q2 h=>?_) λ_ q2 h=>?_
 ·refine go h λ_ h=>?_;obtain rfl:=TV h
  repeat (first|refine kC ?_|refine kD ?_)
  exact jQ (vs:=[.nil]) (.cons (.tmp Z) .nil) .nil0
 refine go h λ_ h=>?_;refine jD h λg3 h=>oA (EvA.mkN (c:=cI) (Uo:Int) lK Z Z g3 Z Z Z)<|go h λ_ h=>?_;refine tJ h (λs4 gh=>[(7,hS Ur 0 gh 1 s4.length)]) (λs4 gh=>[bE Ur gh 1 3 (s4.map cI)]) (λs4 u17 h=>?_) λs4 h=>?_
 ·exact gf h
 refine go h λ_ h=>?_;refine tT h 0 (λs8 gh=>[(18,I s8.2),(17,I (a.length:Int)),(7,hS Ur 0 gh 1 s8.1.length),(0,eL cI a),(1,eL cI b),(2,.fn (.func 190) [])]) (λs8 gh=>[bE Ur gh 1 3 (s8.1.map cI)]) λs8 u10 ws8 h=>?_;refine go h λ_ h=>?_;refine jH ?_;refine jN Z h (λq11 h=>?_) λq11 h=>?_
 ·refine go h λ_ h=>?_;refine gs h λ_ h=>?_;refine jP (dG [dF,dF,dF,dF,dF,dF,dF,dF,dF,dF,dF,dF,dF,([0],Uq)]) (by kernel_rfl) (by kernel_rfl)<|go h λ_ h=>?_;refine fC h (λ_=>zV _ _) Z Z Z Z Z λv14 _ h=>(go h λf h=>?_);obtain ⟨g15,_⟩:=f;refine fV 0 [] Z Z (λG hG=>EvA.stO (g:=false) (l:=s8.1) (cs:=[I v14]) v14 Uk Z Z (hG.a0 Z) nofun (aG Z g15) Z Z Z)<|go h λ_ h=>?_;obtain rfl:=TV h;exact ⟨((s8.1.set s8.2.toNat v14),(s8.2+(1:Int))),u10,Z,trivial,BB Z<|TR Z<|TR Z<|TR (congrArg (hS Ur 0 u10 1) (by simp:s8.1.length=(s8.1.set s8.2.toNat v14).length))<|TR Z<|TR Z<|TR Z TQ⟩
 refine jM<|lX h λh=>?_
 cases h
 exact ⟨u10,trivial,Um⟩
theorem Cv (a:LI) (b:LI) {q} (h:n8 a b=Us q):ax Uv 153 [eL cI a,eL cI b] (eL cI q):=by
 refine pM func153 Z (by kernel_rfl) Z<|go h λ_ h=>?_;refine oC h (λ_=>nA _ _) Z Z Z Z λv1 _ h=>?_;exact gz h
theorem Bl (x:Int) (y:Int) {q} (h:qV x y=Us q):ax Uv 191 [I x,I y] (I q):=by
 refine pM func191 Z (by kernel_rfl) Z ?_;exact gz h
theorem o5 (a:LI) (b:LI) {q} (h:iK a b=Us q):ax Uv 189 [eL cI a,eL cI b,.fn (.func 191) []] (eL cI q):=by
 refine pM func189 Z (by kernel_rfl) Z<|go h λ_ h=>?_;refine gs h λ_ h=>?_;refine oC h (λ_=>mI _ _) Z Z Z Z λv1 _ h=>?_;refine gi h (λ_ q2 h=>?_) λ_ q2 h=>?_
 ·refine go h λ_ h=>?_;obtain rfl:=TV h
  repeat (first|refine kC ?_|refine kD ?_)
  exact jQ (vs:=[.nil]) (.cons (.tmp Z) .nil) .nil0
 refine go h λ_ h=>?_;refine jD h λg3 h=>oA (EvA.mkN (c:=cI) (Uo:Int) lK Z Z g3 Z Z Z)<|go h λ_ h=>?_;refine tJ h (λs4 gh=>[(7,hS Ur 0 gh 1 s4.length)]) (λs4 gh=>[bE Ur gh 1 3 (s4.map cI)]) (λs4 u17 h=>?_) λs4 h=>?_
 ·exact gf h
 refine go h λ_ h=>?_;refine tT h 0 (λs8 gh=>[(18,I s8.2),(17,I (a.length:Int)),(7,hS Ur 0 gh 1 s8.1.length),(0,eL cI a),(1,eL cI b),(2,.fn (.func 191) [])]) (λs8 gh=>[bE Ur gh 1 3 (s8.1.map cI)]) λs8 u10 ws8 h=>?_;refine go h λ_ h=>?_;refine jH ?_;refine jN Z h (λq11 h=>?_) λq11 h=>?_
 ·refine go h λ_ h=>?_;refine gs h λ_ h=>?_;refine jP (dG [dF,dF,dF,dF,dF,dF,dF,dF,dF,dF,dF,dF,dF,([0],Uq)]) (by kernel_rfl) (by kernel_rfl)<|go h λ_ h=>?_;refine fC h (λ_=>Bl _ _) Z Z Z Z Z λv14 _ h=>(go h λf h=>?_);obtain ⟨g15,_⟩:=f;refine fV 0 [] Z Z (λG hG=>EvA.stO (g:=false) (l:=s8.1) (cs:=[I v14]) v14 Uk Z Z (hG.a0 Z) nofun (aG Z g15) Z Z Z)<|go h λ_ h=>?_;obtain rfl:=TV h;exact ⟨((s8.1.set s8.2.toNat v14),(s8.2+(1:Int))),u10,Z,trivial,BB Z<|TR Z<|TR Z<|TR (congrArg (hS Ur 0 u10 1) (by simp:s8.1.length=(s8.1.set s8.2.toNat v14).length))<|TR Z<|TR Z<|TR Z TQ⟩
 refine jM<|lX h λh=>?_
 cases h
 exact ⟨u10,trivial,Um⟩
theorem De (a:LI) (b:LI) {q} (h:qf a b=Us q):ax Uv 154 [eL cI a,eL cI b] (eL cI q):=by
 refine pM func154 Z (by kernel_rfl) Z<|go h λ_ h=>?_;refine oC h (λ_=>o5 _ _) Z Z Z Z λv1 _ h=>?_;exact gz h
theorem zW (x:Int) (y:Int) {q} (h:pV x y=Us q):ax Uv 192 [I x,I y] (I q):=by
 refine pM func192 Z (by kernel_rfl) Z<|jI<|oN as'<|jA<|jI<|oN mv<|oN mv<|oN (TS.bandNot Z Z)<|oN as'<|jA<|jK ?_
 cases h
 exact JK Z Z Z
theorem nB (a:LI) (b:LI) {q} (h:ib a b=Us q):ax Uv 189 [eL cI a,eL cI b,.fn (.func 192) []] (eL cI q):=by
 refine pM func189 Z (by kernel_rfl) Z<|go h λ_ h=>?_;refine gs h λ_ h=>?_;refine oC h (λ_=>mI _ _) Z Z Z Z λv1 _ h=>?_;refine gi h (λ_ q2 h=>?_) λ_ q2 h=>?_
 ·refine go h λ_ h=>?_;obtain rfl:=TV h
  repeat (first|refine kC ?_|refine kD ?_)
  exact jQ (vs:=[.nil]) (.cons (.tmp Z) .nil) .nil0
 refine go h λ_ h=>?_;refine jD h λg3 h=>oA (EvA.mkN (c:=cI) (Uo:Int) lK Z Z g3 Z Z Z)<|go h λ_ h=>?_;refine tJ h (λs4 gh=>[(7,hS Ur 0 gh 1 s4.length)]) (λs4 gh=>[bE Ur gh 1 3 (s4.map cI)]) (λs4 u17 h=>?_) λs4 h=>?_
 ·exact gf h
 refine go h λ_ h=>?_;refine tT h 0 (λs8 gh=>[(18,I s8.2),(17,I (a.length:Int)),(7,hS Ur 0 gh 1 s8.1.length),(0,eL cI a),(1,eL cI b),(2,.fn (.func 192) [])]) (λs8 gh=>[bE Ur gh 1 3 (s8.1.map cI)]) λs8 u10 ws8 h=>?_;refine go h λ_ h=>?_;refine jH ?_;refine jN Z h (λq11 h=>?_) λq11 h=>?_
 ·refine go h λ_ h=>?_;refine gs h λ_ h=>?_;refine jP (dG [dF,dF,dF,dF,dF,dF,dF,dF,dF,dF,dF,dF,dF,([0],Uq)]) (by kernel_rfl) (by kernel_rfl)<|go h λ_ h=>?_;refine fC h (λ_=>zW _ _) Z Z Z Z Z λv14 _ h=>(go h λf h=>?_);obtain ⟨g15,_⟩:=f;refine fV 0 [] Z Z (λG hG=>EvA.stO (g:=false) (l:=s8.1) (cs:=[I v14]) v14 Uk Z Z (hG.a0 Z) nofun (aG Z g15) Z Z Z)<|go h λ_ h=>?_;obtain rfl:=TV h;exact ⟨((s8.1.set s8.2.toNat v14),(s8.2+(1:Int))),u10,Z,trivial,BB Z<|TR Z<|TR Z<|TR (congrArg (hS Ur 0 u10 1) (by simp:s8.1.length=(s8.1.set s8.2.toNat v14).length))<|TR Z<|TR Z<|TR Z TQ⟩
 refine jM<|lX h λh=>?_
 cases h
 exact ⟨u10,trivial,Um⟩
theorem Cw (a:LI) (b:LI) {q} (h:og a b=Us q):ax Uv 155 [eL cI a,eL cI b] (eL cI q):=by
 refine pM func155 Z (by kernel_rfl) Z<|go h λ_ h=>?_;refine oC h (λ_=>nB _ _) Z Z Z Z λv1 _ h=>?_;exact gz h
theorem zX (a:LI) (b:LI) {q} (h:ll a b=Us q):ax Uv 156 [eL cI a,eL cI b] (eL cI q):=by
 refine pM func156 Z (by kernel_rfl) Z<|go h λ_ h=>?_;refine gs h λ_ h=>?_;refine oC h (λ_=>mI _ _) Z Z Z Z λv1 _ h=>?_;refine gi h (λ_ q2 h=>?_) λ_ q2 h=>?_
 ·refine go h λ_ h=>?_;obtain rfl:=TV h
  repeat (first|refine kC ?_|refine kD ?_)
  exact jQ (vs:=[.nil]) (.cons (.tmp Z) .nil) .nil0
 refine go h λ_ h=>?_;refine jD h λg3 h=>oA (EvA.mkN (c:=cI) (Uo:Int) lK Z Z g3 Z Z Z)<|go h λ_ h=>?_;refine tJ h (λs4 gh=>[(5,hS Ur 0 gh 1 s4.length)]) (λs4 gh=>[bE Ur gh 1 3 (s4.map cI)]) (λs4 u29 h=>?_) λs4 h=>?_
 ·exact gf h
 refine go h λ_ h=>?_;refine tT h 0 (λs8 gh=>[(17,I s8.2),(16,I (a.length:Int)),(5,hS Ur 0 gh 1 s8.1.length),(0,eL cI a),(1,eL cI b)]) (λs8 gh=>[bE Ur gh 1 3 (s8.1.map cI)]) λs8 u10 ws8 h=>?_;refine go h λ_ h=>?_;refine jH ?_;refine jN Z h (λq11 h=>?_) λq11 h=>?_
 ·refine go h λ_ h=>?_;refine tJ h (λs12 gh=>[(17,I s8.2),(16,I (a.length:Int)),(5,hS Ur 0 gh 1 s12.length),(0,eL cI a),(1,eL cI b)]) (λs12 gh=>[bE Ur gh 1 3 (s12.map cI)]) (λs12 u27 h=>?_) λs12 h=>?_
  ·refine go h λ_ h=>?_;obtain rfl:=TV h;exact ⟨(s12,(s8.2+V)),u27,Z,trivial,Um⟩
  refine go h λ_ h=>?_;refine tT h u10 (λs16 gh=>[(22,I s16.2),(21,I (b.length:Int)),(6,I s8.2),(17,I s8.2),(16,I (a.length:Int)),(5,hS Ur 0 gh 1 s16.1.length),(0,eL cI a),(1,eL cI b)]) (λs16 gh=>[bE Ur gh 1 3 (s16.1.map cI)]) λs16 u18 ws16 h=>?_;refine go h λ_ h=>?_;refine jH ?_;refine jN Z h (λq19 h=>?_) λq19 h=>?_
  ·refine go h λ_ h=>?_;refine tJ h (λs20 gh=>[(22,I s16.2),(21,I (b.length:Int)),(6,I s8.2),(17,I s8.2),(16,I (a.length:Int)),(5,hS Ur 0 gh 1 s20.length),(0,eL cI a),(1,eL cI b)]) (λs20 gh=>[bE Ur gh 1 3 (s20.map cI)]) (λs20 u25 h=>?_) λs20 h=>?_
   ·refine go h λ_ h=>?_;obtain rfl:=TV h;exact ⟨(s20,(s16.2+V)),u25,Z,trivial,Um⟩
   refine go h λ_ h=>?_;refine oC h (λ_=>mH _ _ _) Z Z Z Z λv21 _ h=>?_;refine gi h (λ_ q22 h=>?_) λ_ q22 h=>?_
   ·refine jP (dG [dF,dF,dF,([0],Ur),dF,dF,dF,dF,dF,dF,([0],Uq)]) (by kernel_rfl) (by kernel_rfl)<|go h λf h=>?_;obtain ⟨_,g23,_⟩:=f;refine fV 0 [] Z Z (λG hG=>EvA.stO (g:=false) (l:=s16.1) (cs:=[I (bOr .i64 (J s16.1 s8.2)<|J b s16.2)]) (bOr .i64 (J s16.1 s8.2)<|J b s16.2) Uk Z Z (hG.a0 Z) nofun (aG Z g23) Z Z Z)<|go h λ_ h=>?_;obtain rfl:=TV h;exact ⟨u18,trivial,BB Z<|TR Z<|TR Z<|TR Z<|TR Z<|TR Z<|TR (congrArg (hS Ur 0 u18 1) (by simp:s16.1.length=(s16.1.set s8.2.toNat<|bOr .i64 (J s16.1 s8.2)<|J b s16.2).length))<|TR Z<|TR Z TQ⟩
   refine go h λ_ h=>?_
   cases h
   exact ⟨u18,trivial,Um⟩
  refine jM<|lX h λh=>?_
  cases h
  exact ⟨u18,trivial,Um⟩
 refine jM<|lX h λh=>?_
 cases h
 exact ⟨u10,trivial,Um⟩
theorem Cy:∀ (nf:Nat) (p:List<|List TW) (x:TY) (e_:ae) {q} (h:dx nf p x e_=Us q),ax Uv 114 [eL (cL TW.c) p,.agg (TY.c x),.agg (ae.c e_)] (eL cI q):=by
 intro nf
 induction nf with
 | zero=>intros;rename_i h;cases h
 | succ nf ih=>
  intro p x e_ q h;replace h:dw (dx nf) p x e_=Us q:=h;refine pM func114 Z (by kernel_rfl) Z<|go h λ_ h=>?_;refine eF Z Z Z<|eF Z Z Z ?_;refine go h λ_ h=>?_;refine Ul h (λ_ q1 h=>?_) λ_ q1 h=>?_
  ·refine go h λ_ h=>?_;refine oC h (λ_=>E9 _ _ _) Z Z Z Z λv2 _ h=>?_;exact gz h
  refine go h λ_ h=>?_;refine jH<|T.drawP (by kernel_rfl) (by kernel_rfl) ?_;refine go h λ_ h=>?_;refine jD h λg3 h=>fN Z (TS.res (TS.ixL O3 Z Z g3 ZTE.len) (r' := .fp (ae.c (J e_.Kids U).out) 0) λ_ _ hr=>BF (ZTE.out_c _) hr)<|go h λ_ h=>?_;refine fC h (λ_=>ih _ _ _) Z Z Z Z Z λv4 _ h=>(go h λ_ h=>?_);refine Ul h (λ_ q5 h=>?_) λ_ q5 h=>?_
  ·refine go h λ_ h=>?_;refine oC h (λ_=>zU _) Z Z Z Z λv6 _ h=>?_;exact gz h
  refine gi h (λ_ q7 h=>?_) λ_ q7 h=>?_
  ·refine go h λ_ h=>?_;refine oC h (λ_=>ub _) Z Z Z Z λv8 _ h=>?_;exact gz h
  refine go h λ_ h=>?_;refine jH<|T.drawP (by kernel_rfl) (by kernel_rfl) ?_;refine go h λ_ h=>?_;refine jD h λg9 h=>fN Z (TS.res (TS.ixL O3 Z Z g9 ZTE.len) (r' := .fp (ae.c (J e_.Kids V).out) 0) λ_ _ hr=>BF (ZTE.out_c _) hr)<|go h λ_ h=>?_;refine fC h (λ_=>ih _ _ _) Z Z Z Z Z λv10 _ h=>(go h λ_ h=>?_);refine Ul h (λ_ q11 h=>?_) λ_ q11 h=>?_
  ·refine go h λ_ h=>?_;refine oC h (λ_=>Cv _ _) Z Z Z Z λv12 _ h=>?_;exact gz h
  refine gi h (λ_ q13 h=>?_) λ_ q13 h=>?_
  ·refine go h λ_ h=>?_;refine oC h (λ_=>De _ _) Z Z Z Z λv14 _ h=>?_;exact gz h
  refine gi h (λ_ q15 h=>?_) λ_ q15 h=>?_
  ·refine go h λ_ h=>?_;refine oC h (λ_=>Cw _ _) Z Z Z Z λv16 _ h=>?_;exact gz h
  refine go h λ_ h=>?_;refine oC h (λ_=>zX _ _) Z Z Z Z λv17 _ h=>?_;exact gz h
theorem Df (p:List<|List TW) (x:TY) (e_:ae) {q} (h:uU p x e_=Us q):ax Uv 114 [eL (cL TW.c) p,.agg (TY.c x),.agg (ae.c e_)] (eL cI q):=by
 obtain ⟨nf,h⟩:=qP h;exact Cy nf p x e_ h
theorem pI (r_:LI) {q} (h:eC r_=Us q):ax Uv 158 [eL cI r_] (Bo q):=by
 refine pM func158 Z (by kernel_rfl) Z<|go h λ_ h=>?_;obtain ⟨Ks1,es1,ws1,h,ks1⟩:=sumL h;refine T.join (S:=Unit) (G:=Unit) (λs1=>Ks1 s1=Us q) (λs1 gh=>True) (λs1 gh=>[]) (λs1 gh=>[]) (λs1 gh h hg=>?_) ?_
 ·clear ks1;subst es1;exact gz h
 refine go h λ_ h=>?_;refine tU h (λs4=>[(6,I s4),(5,I (r_.length:Int)),(0,eL cI r_)]) (λs4=>[]) λs4 ws4 h=>?_;refine go h λ_ h=>?_;refine jH ?_;refine jN Z h (λq6 h=>?_) λq6 h=>?_
 ·refine go h λ_ h=>?_;refine gs h λ_ h=>?_;refine oC h (λ_=>mH _ _ _) Z Z Z Z λv7 _ h=>?_;refine gi h (λ_ q8 h=>?_) λ_ q8 h=>?_
  ·refine go h λ_ h=>?_;refine lX h λh=>?_;obtain rfl:=TV h;replace h:=congrArg Us (show _=_ from ks1);exact gz h
  refine go h λ_ h=>?_;exact lE h Um
 refine jM<|lX h λh=>?_
 cases h
 exact ⟨(),(),ks1,trivial,Um⟩
theorem zY (r_:LI) {q} (h:lm r_=Us q):ax Uv 157 [eL cI r_] (Bo q):=by
 refine pM func157 Z (by kernel_rfl) Z<|go h λ_ h=>?_;refine oC h (λ_=>fq _) Z Z Z Z λv1 _ h=>(go h λ_ h=>?_);refine TO.jB h 4 (λs2=>[(9,Bo s2)]) (λs2=>[]) (λs2 q3 h js2=>?_) (λs2 q3 h js2=>?_) λs2 h=>?_
 ·refine go h λ_ h=>?_;refine jB h λv4 cv4 h=>gN Z q3 (TS.call Z Z Z (ub r_ cv4) Z)<|jB h λv5 cv5 h=>gN Z q3 (TS.call Z Z Z (pI v4 cv5) Z) ?_;exact gj h js2
 ·exact gj h js2
 exact gz h
theorem vk (x:Int) {q} (h:ol x=Us q):ax Uv 209 [.v (.int .u64 x)] (I q):=by
 refine pM func209 Z (by kernel_rfl) Z<|jI<|oN as'<|jA<|jI<|oN mv<|jD h λg1 h=>oN (TS.shr Z Z g1)<|oN (TS.band Z Z)<|oN mv<|oN (TS.band Z Z)<|jW h λg2 h=>oN (TS.add Z Z g2)<|oN as'<|jA<|jI ?_;refine oN mv<|jD h λg3 h=>oN (TS.shr Z Z g3)<|oN (TS.band Z Z)<|oN mv<|oN (TS.band Z Z)<|jW h λg4 h=>oN (TS.add Z Z g4)<|oN as'<|jA<|jI<|oN mv<|jD h λg5 h=>oN (TS.shr Z Z g5)<|oN mv<|jW h λg6 h=>?_;refine jB h λw7 ew7 h=>?_;replace ew7:=osi ew7;refine oN (TS.res (TS.add Z Z g6) (r' := .v<|.int .u64 w7) λ_ _ hr=>by rw [<- ew7];exact hr)<|oN (TS.band Z Z)<|oN as'<|jA<|jH<|T.clean (H0:=[]) (e0:=ak [(0,.v<|.int .u64<|dY .u64 w7 (1085102592571150095:Int))]) Z (TR Z TQ)<|jC<|oN mv<|oN mv<|jD h λg8 h=>oN (TS.shr Z Z g8)<|jW h λg9 h=>oN (TS.add Z Z g9)<|oN as'<|jA<|jI ?_;refine oN mv<|oN mv<|jD h λg10 h=>oN (TS.shr Z Z g10)<|jW h λg11 h=>oN (TS.add Z Z g11)<|oN as'<|jA<|jI<|oN mv<|oN mv<|jD h λg12 h=>oN (TS.shr Z Z g12)<|jW h λg13 h=>oN (TS.add Z Z g13)<|oN as' ?_;refine jA<|jI<|oN mv<|jW h λg14 h=>oN (TS.iconv SY.und Tryz.underlying3 Z g14)<|oN (TS.band Z Z)<|oN as'<|jA<|jK ?_
 cases h
 exact JK Z Z Z
theorem wW (x:Int) {q} (h:qE x=Us q):ax Uv 194 [.v (.int .u64 x)] (I q):=by
 refine pM func194 Z (by kernel_rfl) Z<|go h λ_ h=>?_;refine jH ?_;refine T.cond Z (λq=>absurd (q.symm.trans Z)<|by decide) λ_=>?_;refine go h λ_ h=>?_;refine oC h (λ_=>vk _) Z Z Z Z λv1 _ h=>?_;exact gz h
theorem Cz (r_:LI) {q} (h:xZ r_=Us q):ax Uv 159 [eL cI r_] (I q):=by
 refine pM func159 Z (by kernel_rfl) Z<|go h λ_ h=>?_;refine gs h λ_ h=>?_;refine oC h (λ_=>fq _) Z Z Z Z λv1 _ h=>?_;refine gi h (λ_ q2 h=>?_) λ_ q2 h=>?_
 ·exact gz h
 refine go h λ_ h=>?_;refine T.jU h (λs3=>[(3,I s3)]) (λs3=>[]) (λs3 h=>?_) λs3 h=>?_
 ·exact gz h
 refine go h λ_ h=>?_;refine tU h (λs6=>[(11,I s6.1),(10,I (r_.length:Int)),(9,eL cI r_),(3,I s6.2)]) (λs6=>[]) λs6 ws6 h=>?_;refine go h λ_ h=>?_;refine jH ?_;refine jN Z h (λq8 h=>?_) λq8 h=>?_
 ·refine go h λ_ h=>?_;refine gs h λ_ h=>?_;refine oC h (λ_=>wW _) Z Z Z Z λv11 _ h=>(go h λ_ h=>?_);exact lE h Um
 refine jM<|lX h λh=>?_
 cases h
 exact ⟨(),trivial,Um⟩
theorem Bm (kind:Int) (r_:LI) {q} (h:qW kind r_=Us q):ax Uv 115 [I kind,eL cI r_] (Bo q):=by
 refine pM func115 Z (by kernel_rfl) Z<|go h λ_ h=>?_;refine Ul h (λ_ q1 h=>?_) λ_ q1 h=>?_
 ·refine go h λ_ h=>?_;refine oC h (λ_=>zY _) Z Z Z Z λv2 _ h=>?_;exact gz h
 refine gi h (λ_ q3 h=>?_) λ_ q3 h=>?_
 ·refine go h λ_ h=>?_;refine oC h (λ_=>pI _) Z Z Z Z λv4 _ h=>?_;exact gz h
 refine go h λ_ h=>?_;refine oC h (λ_=>Cz _) Z Z Z Z λv5 _ h=>?_;exact gz h
theorem zZ (p:List<|List TW) (x:TY) (m:List aj) {q} (h:iL p x m=Us q):ax Uv 76 [eL (cL TW.c) p,.agg (TY.c x),eL aj.c m] (.tup [I q.1,eL cI q.2]):=by
 refine pM func76 Z (by kernel_rfl) Z<|go h λ_ h=>?_;refine eF Z Z Z<|go h λ_ h=>?_;obtain ⟨Ks1,es1,ws1,h,ks1⟩:=sumL h;refine T.join (S:=Unit) (G:=Unit) (λs1=>Ks1 s1=Us q) (λs1 gh=>True) (λs1 gh=>[]) (λs1 gh=>[]) (λs1 gh h hg=>?_) ?_
 ·clear ks1;subst es1;exact gf h
 refine go h λ_ h=>?_;refine tU h (λs4=>[(13,I s4),(12,I (m.length:Int)),(11,eL aj.c m),(4,.fp (TY.c x) 0),(0,eL (cL TW.c) p)]) (λs4=>[]) λs4 ws4 h=>?_;refine go h λ_ h=>?_;refine jH ?_;refine jN Z h (λq6 h=>?_) λq6 h=>?_
 ·refine go h λ_ h=>?_;refine gs h λ_ h=>?_;refine oC h (λ_=>Df _ _ _) Z Z Z Z λv8 _ h=>(go h λ_ h=>?_);refine oC h (λ_=>Bm _ _) Z Z Z Z λv9 _ h=>?_;refine gi h (λ_ q10 h=>?_) λ_ q10 h=>?_
  ·refine go h λ_ h=>?_;refine lX h λh=>?_;obtain rfl:=TV h;replace h:=congrArg Us (show _=_ from ks1);exact gf h
  refine go h λ_ h=>?_;exact lE h Um
 refine jM<|lX h λh=>?_
 cases h
 exact ⟨(),(),ks1,trivial,Um⟩
theorem Dg (p:List<|List TW) (x:TY) (m:List aj) {q} (h:qg p x m=Us q):ax Uv 30 [eL (cL TW.c) p,.agg (TY.c x),eL aj.c m] (Bo q):=by
 refine pM func30 Z (by kernel_rfl) Z<|go h λ_ h=>?_;refine eF Z Z Z<|go h λ_ h=>?_;refine oC h (λ_=>Ct _ _) Z Z Z Z λv1 _ h=>(go h λ_ h=>?_);refine Ul h (λ_ q2 h=>?_) λ_ q2 h=>?_
 ·exact gz h
 refine go h λ_ h=>?_;refine oC h (λ_=>zZ _ _ _) Z Z Z Z λv3 _ h=>?_;exact gz h
theorem o6 (x:TY) (a1:List<|List TW) (a2:List aj) {q} (h:dR x a1 a2=Us q):ax Uv 29 [.agg (TY.c x),.fp ((cL<|cL TW.c) a1) 0,.fp ((cL aj.c) a2) 0] (Bo q):=by
 refine pM func29 Z (by kernel_rfl) Z<|go h λ_ h=>?_;refine eF Z Z Z<|go h λ_ h=>?_;refine oC h (λ_=>Dg _ _ _) Z Z Z Z λv1 _ h=>?_;exact gz h
theorem dB (s:List TY) (f0:List<|List TW) (f1:List aj) {q} (h:aQ s f0 f1=Us q):ax Uv 74 [eL TY.c s,.fn (.func 29) [.fp ((cL<|cL TW.c) f0) 0,.fp ((cL aj.c) f1) 0]] (I q):=by
 refine pM func74 Z (by kernel_rfl) Z<|go h λ_ h=>?_;obtain ⟨Ks1,es1,ws1,h,ks1⟩:=sumL h;refine T.join (S:=Unit) (G:=Unit) (λs1=>Ks1 s1=Us q) (λs1 gh=>True) (λs1 gh=>[]) (λs1 gh=>[]) (λs1 gh h hg=>?_) ?_
 ·clear ks1;subst es1;exact gz h
 refine go h λ_ h=>?_;refine tU h (λs4=>[(8,I s4),(7,I (s.length:Int)),(0,eL TY.c s),(1,.fn (.func 29) [.fp ((cL<|cL TW.c) f0) 0,.fp ((cL aj.c) f1) 0])]) (λs4=>[]) λs4 ws4 h=>?_;refine go h λ_ h=>?_;refine jH ?_;refine jN Z h (λq6 h=>?_) λq6 h=>?_
 ·refine go h λ_ h=>?_;refine gs h λ_ h=>?_;refine oC h (λ_=>o6 _ _ _) Z Z Z Z λv8 _ h=>?_;refine gi h (λ_ q9 h=>?_) λ_ q9 h=>?_
  ·refine go h λ_ h=>?_;refine lX h λh=>?_;obtain rfl:=TV h;replace h:=congrArg Us (show _=_ from ks1);exact gz h
  refine go h λ_ h=>?_;exact lE h Um
 refine jM<|lX h λh=>?_
 cases h
 exact ⟨(),(),ks1,trivial,Um⟩
theorem di (s:List TY) (EL:List<|List TW) (del1:List aj) (gw:Bool) (aB:Nat) (hgw:gw=Uq->s=[]) {q} (h:aA s EL del1=Us q):bH Uv 28 [hS gw 0 aB 2 s.length,.fn (.func 29) [.fp ((cL<|cL TW.c) EL) 0,.fp ((cL aj.c) del1) 0]] [bE gw aB 2 46 (s.map TY.c)] (G9 2 46 (λx=>x) q.length (q.map TY.c) 0 []):=by
 refine bH.mkS func28 Z (by kernel_rfl) Z (by kernel_rfl) (e0:=ak [(0,hS gw 0 aB 2 s.length),(1,.fn (.func 29) [.fp ((cL<|cL TW.c) EL) 0,.fp ((cL aj.c) del1) 0])]) (TR Z<|TR Z TQ)<|go h λ_ h=>?_;refine jB h λv1 cv1 h=>oA (EvA.callT Z Z (dB s EL del1 cv1) (.cons (Fz.own (g:=gw) (ver:=aB) (l:=s) Z Z Z hgw TY.isF)<|.cons (qC Z) .nil) Z)<|go h λ_ h=>?_;refine Ul h (λ_ q2 h=>?_) λ_ q2 h=>?_
 ·refine go h λ_ h=>?_;obtain rfl:=TV h
  repeat (first|refine kC ?_|refine kD ?_)
  exact ⟨ak [(4,hS gw 0 aB 2 s.length)],[bE gw aB 2 46 (s.map TY.c)],Um,jQ (vs:=[hS gw 0 aB 2 s.length]) (.cons (.tmp Z) .nil) ⟨gw,aB,(uO hgw Z),Z,Z⟩⟩
 refine go h λ_ h=>?_;refine T.jF (G:=(Bool×Nat)) h (λs3 gh=>(gh.1=Uq->s3.1=[])) (λs3 gh=>[(5,I s3.2),(0,hS gh.1 0 gh.2 2 s3.1.length)]) (λs3 gh=>[bE gh.1 gh.2 2 46 (s3.1.map TY.c)]) (λs3 gh h n26=>?_) λs3 h=>?_
 ·obtain ⟨b25,u24⟩:=gh;refine go h λ_ h=>?_;refine jD h λg27 h=>?_;obtain rfl:=CE n26 rfl g27;refine jD h λg28 h=>oN (TS.slhs Tryz.underlying36 KY (l:=s3.2) (h:=(s3.1.length:Int)) Z (.yes Z) .no g28)<|oV (EvA.clearO (l:=s3.1) QT (zrC (λ_ _ h=>BD h)<|zrC (λ_ _ h=>BD h)<|zrE (zs:=[])) Z Z<|Hd (l:=s3.1) g28 Z) ?_;refine go h λ_ h=>?_;refine jD h λg29 h=>oA (EvA.cutO (l:=(cpy s3.1 (0+s3.2.toNat) (aaz ((s3.1.length:Int).toNat-s3.2.toNat) (Uo:TY))<|(s3.1.length:Int).toNat-s3.2.toNat)) (zl:=(0:Int)) (zh:=s3.2) (TS.slhs Tryz.underlying36 KY (l:=(0:Int)) (h:=s3.2) Z .no (.yes Z) g29) Z (by simp [vA]) g29)<|go h λ_ h=>?_;obtain rfl:=TV h
  repeat (first|refine kC ?_|refine kD ?_)
  exact ⟨ak [(4,hS Ur 0 (u24+1) 2<|(((cpy s3.1 (0+s3.2.toNat) (aaz ((s3.1.length:Int).toNat-s3.2.toNat) (Uo:TY))<|(s3.1.length:Int).toNat-s3.2.toNat).drop U.toNat).take<|s3.2.toNat-U.toNat).length)],[bE Ur (u24+1) 2 46 ((((cpy s3.1 (0+s3.2.toNat) (aaz ((s3.1.length:Int).toNat-s3.2.toNat) (Uo:TY))<|(s3.1.length:Int).toNat-s3.2.toNat).drop U.toNat).take<|s3.2.toNat-U.toNat).map TY.c)],Um,jQ (vs:=[hS Ur 0 (u24+1) 2 ((((cpy s3.1 (0+s3.2.toNat) (aaz ((s3.1.length:Int).toNat-s3.2.toNat) (Uo:TY))<|(s3.1.length:Int).toNat-s3.2.toNat).drop U.toNat).take<|s3.2.toNat-U.toNat).length)]) (.cons (.tmp Z) .nil) ⟨Ur,u24+1,nofun,Z,Z⟩⟩
 refine go h λ_ h=>?_;refine tL h (gw,aB) (λs10 gh=>(gh.1=Uq->s10.1=[])) (λs10 gh=>[(6,I s10.2.1),(5,I s10.2.2),(0,hS gh.1 0 gh.2 2 s10.1.length),(1,.fn (.func 29) [.fp ((cL<|cL TW.c) EL) 0,.fp ((cL aj.c) del1) 0])]) (λs10 gh=>[bE gh.1 gh.2 2 46 (s10.1.map TY.c)]) hgw λs10 gh ws10 h n14=>?_;let d0:=(⟨(J s10.1 s10.2.1).From,(J s10.1 s10.2.1).Order⟩:TY);obtain ⟨b13,u12⟩:=gh;refine Ul h (λ_ q15 h=>?_) λ_ q15 h=>?_
 ·refine go h λ_ h=>?_;refine tJ h (λs16 gh=>[(5,I s16.2),(6,I s10.2.1),(0,hS Ur 0 gh 2 s16.1.length),(1,.fn (.func 29) [.fp ((cL<|cL TW.c) EL) 0,.fp ((cL aj.c) del1) 0])]) (λs16 gh=>[bE Ur gh 2 46 (s16.1.map TY.c)]) (λs16 u22 h=>?_) λs16 h=>?_
  ·refine go h λ_ h=>?_;obtain rfl:=TV h;exact ⟨(s16.1,(s10.2.1+V),s16.2),(Ur,u22),Z,nofun,Um⟩
  refine go h λ_ h=>?_;refine jD h λg17 h=>?_;obtain rfl:=CE n14 rfl g17;refine go h λ_ h=>?_;refine oC h (λ_=>o6 _ _ _) Z Z Z Z λv18 _ h=>?_;refine gi h (λ_ q19 h=>?_) λ_ q19 h=>?_
  ·refine go h λf h=>?_;obtain ⟨g20,_⟩:=f;refine oV (EvA.stO (g:=false) (l:=s10.1) (cs:=(TY.c<|J s10.1 s10.2.1)) d0 KY Z Z Z nofun (aG Z g20) Z Z Z)<|go h λ_ h=>?_;obtain rfl:=TV h;exact ⟨u12,trivial,rI Z (.cons (.list (g:=false) (ver:=u12) (l:=(s10.1.set s10.2.2.toNat d0)) TY.isF) .nil)<|ai (.fz<|qC Z)<|ai (.fz<|qC Z)<|ai (.eqv (congrArg (hS Ur 0 u12 2) (by simp:s10.1.length=(s10.1.set s10.2.2.toNat d0).length))<|.hS (g:=false) (b:=0) (ver:=u12) (s:=2) (n:=(s10.1.set s10.2.2.toNat d0).length) Z)<|ai (.fnL<|.cons (.fz<|qC Z)<|.cons (.fz<|qC Z) .nil) aY⟩
  refine go h λ_ h=>?_;obtain rfl:=TV h;exact ⟨u12,trivial,rI Z (.cons (.list (g:=false) (ver:=u12) (l:=s10.1) TY.isF) .nil)<|ai (.fz<|qC Z)<|ai (.fz<|qC Z)<|ai (.hS (g:=false) (b:=0) (ver:=u12) (s:=2) (n:=s10.1.length) Z)<|ai (.fnL<|.cons (.fz<|qC Z)<|.cons (.fz<|qC Z) .nil) aY⟩
 refine jM<|lX h λh=>?_
 cases h
 exact ⟨(b13,u12),n14,Um⟩
theorem yB (p:List<|List TW) (m:List aj) {q} (h:fF p m=Us q):ax Uv 12 [eL (cL TW.c) p,eL aj.c m] (eL TY.c q):=by
 refine pM func12 Z (by kernel_rfl) Z<|go h λ_ h=>?_;refine eF Z Z Z<|eF Z Z Z ?_;refine go h λ_ h=>?_;refine gs h λ_ h=>?_;refine oC h (λ_=>kY _) Z Z Z Z λv1 _ h=>(go h λ_ h=>?_);refine TO.jB h 4 (λs2=>[(12,Bo s2),(3,.fp ((cL aj.c) m) 0),(2,.fp ((cL<|cL TW.c) p) 0)]) (λs2=>[]) (λs2 q3 h js2=>?_) (λs2 q3 h js2=>?_) λs2 h=>?_
 ·exact gj h js2
 ·refine go h λ_ h=>?_;refine jB h λv4 cv4 h=>gN Z q3 (TS.call Z Z Z (tZ m cv4) Z) ?_;exact gj h js2
 refine gi h (λ_ q5 h=>?_) λ_ q5 h=>?_
 ·refine go h λ_ h=>?_;obtain rfl:=TV h
  repeat (first|refine kC ?_|refine kD ?_)
  exact jQ (vs:=[.nil]) (.cons (.tmp Z) .nil) .nil0
 refine go h λ_ h=>?_;refine jB h λv6 cv6 h=>?_;refine oG Z Z Z ((uL p cv6).own Z (nH TY.isF) nI 0 Z) λg7 v8 n9=>?_;refine oN (TS.mkfn [.fp ((cL<|cL TW.c) p) 0,.fp ((cL aj.c) m) 0] Z Z)<|jB h λv10 cv10 h=>?_;refine oGW Z Z (di v6 p m g7 v8 (λx=>aaA<|n9 x) cv10) Z (.cons (bh Z)<|.cons (.pF Z) .nil) (nH TY.isF) (nH TY.isF) nI λg11 v12 n13=>?_;exact gf h
theorem Dh {q} (h:jS=Us q):ax Uv 77 [] (eL cS q):=by
 refine ax.mkT func77 Z (by kernel_rfl) Z (by kernel_rfl) (e0:=ak []) TQ<|jI ?_;refine go h λ_ h=>?_;refine oN (TS.mkF (c:=cS) ([(⟨#[120,61,49,59,97,61,121,124,121,61,49,59,97,61,120]⟩:BA),(⟨#[120,61,49,59,102,101,110,99,101,59,97,61,121,124,121,61,49,59,102,101,110,99,101,59,97,61,120]⟩:BA),(⟨#[120,61,49,59,121,61,49,124,97,61,121,59,98,61,120]⟩:BA),(⟨#[120,61,49,59,121,61,49,124,97,61,121,59,102,101,110,99,101,59,98,61,120]⟩:BA),(⟨#[120,61,49,59,102,101,110,99,101,59,121,61,49,124,97,61,121,59,98,61,120]⟩:BA),(⟨#[97,61,120,59,121,61,49,124,97,61,121,59,120,61,49]⟩:BA),(⟨#[97,61,120,59,121,61,97,124,97,61,121,59,120,61,97]⟩:BA),(⟨#[120,61,49,124,120,61,50,124,97,61,120,59,98,61,120]⟩:BA),(⟨#[120,61,49,124,121,61,49,124,97,61,120,59,98,61,121,124,97,61,121,59,98,61,120]⟩:BA),(⟨#[120,61,49,124,97,61,120,59,121,61,49,124,97,61,121,59,98,61,120]⟩:BA),(⟨#[120,61,49,124,121,61,49,124,97,61,120,59,98,61,121]⟩:BA),(⟨#[97,61,120,58,49,124,97,61,120,58,50,124,120,61,51]⟩:BA),(⟨#[120,61,49,59,97,61,120,59,98,61,121,124,121,61,49,59,97,61,121,59,98,61,120]⟩:BA),(⟨#[120,61,50,59,121,61,49,124,121,61,50,59,120,61,49]⟩:BA),(⟨#[97,61,120,58,49,59,98,61,121,124,97,61,121,58,49,59,98,61,120]⟩:BA),(⟨#[120,61,49,59,120,61,50,124,97,61,120,59,98,61,120]⟩:BA),(⟨#[120,61,49,59,121,61,49,59,97,61,122,124,122,61,49,59,97,61,121,59,98,61,120]⟩:BA),(⟨#[97,61,120,58,49,124,98,61,120,58,49]⟩:BA),(⟨#[102,101,110,99,101]⟩:BA),(⟨#[]⟩:BA),(⟨#[120,61,49,59,97,61,121,124,121,61,49,59,102,101,110,99,101,59,97,61,120]⟩:BA)]:List BA) [[St (⟨#[120,61,49,59,97,61,121,124,121,61,49,59,97,61,120]⟩:BA)],[St (⟨#[120,61,49,59,102,101,110,99,101,59,97,61,121,124,121,61,49,59,102,101,110,99,101,59,97,61,120]⟩:BA)],[St (⟨#[120,61,49,59,121,61,49,124,97,61,121,59,98,61,120]⟩:BA)],[St (⟨#[120,61,49,59,121,61,49,124,97,61,121,59,102,101,110,99,101,59,98,61,120]⟩:BA)],[St (⟨#[120,61,49,59,102,101,110,99,101,59,121,61,49,124,97,61,121,59,98,61,120]⟩:BA)],[St (⟨#[97,61,120,59,121,61,49,124,97,61,121,59,120,61,49]⟩:BA)],[St (⟨#[97,61,120,59,121,61,97,124,97,61,121,59,120,61,97]⟩:BA)],[St (⟨#[120,61,49,124,120,61,50,124,97,61,120,59,98,61,120]⟩:BA)],[St (⟨#[120,61,49,124,121,61,49,124,97,61,120,59,98,61,121,124,97,61,121,59,98,61,120]⟩:BA)],[St (⟨#[120,61,49,124,97,61,120,59,121,61,49,124,97,61,121,59,98,61,120]⟩:BA)],[St (⟨#[120,61,49,124,121,61,49,124,97,61,120,59,98,61,121]⟩:BA)],[St (⟨#[97,61,120,58,49,124,97,61,120,58,50,124,120,61,51]⟩:BA)],[St (⟨#[120,61,49,59,97,61,120,59,98,61,121,124,121,61,49,59,97,61,121,59,98,61,120]⟩:BA)],[St (⟨#[120,61,50,59,121,61,49,124,121,61,50,59,120,61,49]⟩:BA)],[St (⟨#[97,61,120,58,49,59,98,61,121,124,97,61,121,58,49,59,98,61,120]⟩:BA)],[St (⟨#[120,61,49,59,120,61,50,124,97,61,120,59,98,61,120]⟩:BA)],[St (⟨#[120,61,49,59,121,61,49,59,97,61,122,124,122,61,49,59,97,61,121,59,98,61,120]⟩:BA)],[St (⟨#[97,61,120,58,49,124,98,61,120,58,49]⟩:BA)],[St (⟨#[102,101,110,99,101]⟩:BA)],[St (⟨#[]⟩:BA)],[St (⟨#[120,61,49,59,97,61,121,124,121,61,49,59,102,101,110,99,101,59,97,61,120]⟩:BA)]] R4 Z Z Z qD qD Z) ?_;exact gz h
theorem yC (s:BA) (c:Int) {q} (h:oL s c=some q):ax Tryz.prog 80 [St s,Y c] (eL cS q):=by
 refine pM Tryz.func80 Z (by kernel_rfl) Z<|go h λ_ h=>?_;refine oA (EvA.mkO (c:=cS) ([]:List BA) [] R4 Z Z Z qD Z Z)<|go h λ_ h=>?_;refine tJ h (λs1 gh=>[(5,hS false 0 gh 1 s1.length)]) (λs1 gh=>[bE false gh 1 9 (s1.map cS)]) (λs1 u19 h=>?_) λs1 h=>?_
 ·exact gf h
 refine go h λ_ h=>?_;refine tT h 0 (λs5 gh=>[(7,I s5.2.1),(6,I s5.2.2),(5,hS false 0 gh 1 s5.1.length),(0,St s),(1,Y c)]) (λs5 gh=>[bE false gh 1 9 (s5.1.map cS)]) λs5 u7 ws5 h=>?_;refine Ul h (λ_ q8 h=>?_) λ_ q8 h=>?_
 ·refine go h λ_ h=>?_;refine tJ h (λs9 gh=>[(6,I s9.2),(5,hS false 0 gh 1 s9.1.length),(7,I s5.2.1),(0,St s),(1,Y c)]) (λs9 gh=>[bE false gh 1 9 (s9.1.map cS)]) (λs9 u17 h=>?_) λs9 h=>?_
  ·refine go h λ_ h=>?_;obtain rfl:=TV h;exact ⟨(s9.1,(s5.2.1+V),s9.2),u17,Z,trivial,Um⟩
  refine go h λ_ h=>?_;refine TO.jB h 6 (λs10=>[(25,Bo s10),(7,I s5.2.1),(6,I s5.2.2),(5,hS false 0 u7 1 s5.1.length),(0,St s),(1,Y c)]) (λs10=>[bE false u7 1 9 (s5.1.map cS)]) (λs10 q11 h js10=>?_) (λs10 q11 h js10=>?_) λs10 h=>?_
  ·exact gj h js10
  ·exact gj h js10
  refine gi h (λ_ q13 h=>?_) λ_ q13 h=>?_
  ·refine gk h λ_ _ h=>?_
   cases h
   exact ⟨u7+1,trivial,Um⟩
  refine go h λ_ h=>?_
  cases h
  exact ⟨u7,trivial,Um⟩
 refine jM<|lX h λh=>?_
 cases h
 exact ⟨u7,trivial,Um⟩
theorem dz (s:BA) (at_:Int) (from_:Int) (most:Int) {q} (h:cn s at_ from_ most=some q):ax Tryz.prog 116 [St s,I at_,Y from_,I most] (I q):=by
 refine pM Tryz.func116 Z (by kernel_rfl) Z<|go h λ_ h=>?_;refine gs h λ_ h=>?_;refine TO.jB h 6 (λs1=>[(19,Bo s1),(0,St s),(1,I at_),(2,Y from_),(3,I most)]) (λs1=>[]) (λs1 q2 h js1=>?_) (λs1 q2 h js1=>?_) λs1 h=>?_
 ·exact gj h js1
 ·exact gj h js1
 refine go h λ_ h=>?_;refine TO.jB h 9 (λs4=>[(29,Bo s4),(0,St s),(1,I at_),(2,Y from_)]) (λs4=>[]) (λs4 q5 h js4=>?_) (λs4 q5 h js4=>?_) λs4 h=>?_
 ·exact gj h js4
 ·exact gj h js4
 refine gi h (λ_ q9 h=>?_) λ_ q9 h=>?_
 ·exact gz h
 exact gz h
theorem Di (s:BA) {q} (h:qi s=some q):ax Tryz.prog 81 [St s] (.agg<|TW.c q):=by
 refine pM Tryz.func81 Z (by kernel_rfl) Z<|go h λ_ h=>?_;refine Ul h (λ_ q1 h=>?_) λ_ q1 h=>?_
 ·exact gf h
 refine go h λ_ h=>?_;refine oC h (λ_=>dz _ _ _ _) Z Z Z Z λv2 _ h=>(go h λ_ h=>?_);refine oC h (λ_=>dz _ _ _ _) Z Z Z Z λv3 _ h=>(go h λ_ h=>?_);refine gs h λ_ h=>?_;refine TO.jB h 4 (λs4=>[(18,Bo s4),(4,I v3),(3,I v2),(2,.hp 0 0 4 0 0),(0,St s)]) (λs4=>[some ⟨0,4,65,[[I U,I U,I U,I U]]⟩]) (λs4 q5 h js4=>?_) (λs4 q5 h js4=>?_) λs4 h=>?_
 ·exact gj h js4
 ·exact gj h js4
 refine gi h (λ_ q6 h=>?_) λ_ q6 h=>?_
 ·refine go h λ_ h=>?_;refine oC h (λ_=>dz _ _ _ _) Z Z Z Z λv7 _ h=>?_;exact gf h
 refine go h λ_ h=>?_;refine gs h λ_ h=>?_;refine TO.jB h 4 (λs8=>[(29,Bo s8),(4,I v3),(3,I v2),(2,.hp 0 0 4 0 0),(0,St s)]) (λs8=>[some ⟨0,4,65,[[I U,I U,I U,I U]]⟩]) (λs8 q9 h js8=>?_) (λs8 q9 h js8=>?_) λs8 h=>?_
 ·exact gj h js8
 ·exact gj h js8
 refine gi h (λ_ q10 h=>?_) λ_ q10 h=>?_
 ·refine go h λ_ h=>?_;refine oC h (λ_=>dz _ _ _ _) Z Z Z Z λv11 _ h=>(go h λ_ h=>?_);refine oC h (λ_=>dz _ _ _ _) Z Z Z Z λv12 _ h=>?_;exact gf h
 refine go h λ_ h=>?_;refine gs h λ_ h=>?_;refine TO.jB h 4 (λs13=>[(42,Bo s13),(4,I v3),(2,.hp 0 0 4 0 0),(0,St s)]) (λs13=>[some ⟨0,4,65,[[I U,I U,I U,I U]]⟩]) (λs13 q14 h js13=>?_) (λs13 q14 h js13=>?_) λs13 h=>?_
 ·refine go h λ_ h=>?_;refine jB h λv15 cv15 h=>gN Z q14 (TS.call Z Z Z (dz s (2:Int) (97:Int) (2:Int) cv15) Z) ?_;exact gj h js13
 ·exact gj h js13
 refine gi h (λ_ q16 h=>?_) λ_ q16 h=>?_
 ·refine go h λ_ h=>?_;refine oC h (λ_=>dz _ _ _ _) Z Z Z Z λv17 _ h=>?_;exact gf h
 refine go h λ_ h=>?_;refine oC h (λ_=>dz _ _ _ _) Z Z Z Z λv18 _ h=>?_;exact gf h
theorem vZ (from_:Int) (n:Int) {q} (h:kV from_ n=some q):ax Tryz.prog 160 [Y from_,I n] (St q):=by
 refine pM Tryz.func160 Z (by kernel_rfl) Z<|gk h λ_ _ h=>?_;refine oA (EvA.b2s (l:=([(from_+n)]:LI)) Tryz.underlying22 Tryz.underlying5 Tryz.underlying9 (LJ Z)<|cu.fz (l:=([(from_+n)]:LI)) Z qD) ?_;exact gz h
theorem Dj:∀ (nf:Nat) (n:Int) {q} (h:kW nf n=Us q),ax Uv 161 [I n] (St q):=by
 intro nf
 induction nf with
 | zero=>intros;rename_i h;cases h
 | succ nf ih=>
  intro n q h;replace h:oM (kW nf) n=Us q:=h;refine pM func161 Z (by kernel_rfl) Z<|jI<|oN as'<|jA<|jH<|jI<|oN mv<|oN (TS.ilt Z Z)<|jA ?_;refine jN Z h (λq1 h=>?_) λq1 h=>?_
  ·refine jI<|oN as'<|jA<|jK ?_
   cases h
   exact JK Z Z Z
  refine jG<|jH<|jI<|oN mv<|oN (TS.ilt Z Z)<|jA ?_;refine jN Z h (λq2 h=>?_) λq2 h=>?_
  ·refine jI<|oN mv<|jW h λg3 h=>oN (TS.neg Z g3)<|oC h (λ_=>ih _) Z Z Z Z λv4 _ h=>jD h λg5 h=>oN (TS.cat Z Z g5)<|oN as'<|jA<|jK ?_
   cases h
   exact JK Z Z Z
  refine jG<|jI<|oN as'<|jA ?_;refine T.jU h (λs6=>[(3,St s6.1),(0,I s6.2)]) (λs6=>[]) (λs6 h=>?_) λs6 h=>?_
  ·refine jI<|oN mv<|jW h λg17 h=>oN (TS.add Z Z g17)<|jW h λg18 h=>oN (TS.iconv Uk.und Tryz.underlying5 Z g18)<|oN (TS.mkF (c:=cY) ([((48:Int)+s6.2)]:LI) [[Y ((48:Int)+s6.2)]] KZ Z Z Z qD qD Z)<|oA (EvA.b2s (l:=([((48:Int)+s6.2)]:LI)) Tryz.underlying22 Tryz.underlying5 Tryz.underlying9 (LJ Z)<|cu.fz (l:=([((48:Int)+s6.2)]:LI)) Z qD)<|oN mv<|jD h λg19 h=>oN (TS.cat Z Z g19)<|oN as'<|jA<|jK ?_
   cases h
   exact JK Z Z Z
  refine jE ?_;refine T.lU h (λs9=>[(3,St s9.1),(0,I s9.2)]) (λs9=>[]) (kw Z Z) λs9 ws9 h=>?_;refine jH<|jI<|oN mv<|oN (TS.igt Z Z)<|jA ?_;refine jN Z h (λq11 h=>?_) λq11 h=>?_
  ·refine jG<|jE<|jI<|oN mv<|jD h λg12 h=>oN (TS.rem Z Z g12)<|jW h λg13 h=>oN (TS.add Z Z g13)<|jW h λg14 h=>oN (TS.iconv Uk.und Tryz.underlying5 Z g14)<|oN (TS.mkF (c:=cY) ([((48:Int)+(s9.2.tmod (10:Int)))]:LI) [[Y ((48:Int)+(s9.2.tmod (10:Int)))]] KZ Z Z Z qD qD Z)<|oA (EvA.b2s (l:=([((48:Int)+(s9.2.tmod (10:Int)))]:LI)) Tryz.underlying22 Tryz.underlying5 Tryz.underlying9 (LJ Z)<|cu.fz (l:=([((48:Int)+(s9.2.tmod (10:Int)))]:LI)) Z qD)<|oN mv<|jD h λg15 h=>oN (TS.cat Z Z g15)<|oN as' ?_;refine jA<|jC<|oN mv<|jW h λg16 h=>oN (TS.quo Z Z g12 g16)<|oN as'<|jA ?_;exact lE h<|kw Z Z
  refine jM<|lX h λh=>?_
  cases h
  exact ⟨(),trivial,kw Z Z⟩
theorem yD (n:Int) {q} (h:rX n=Us q):ax Uv 161 [I n] (St q):=by
 obtain ⟨nf,h⟩:=qP h;exact Dj nf n h
theorem EJ (x:TW) {q} (h:rY x=Us q):ax Uv 117 [.agg (TW.c x)] (St q):=by
 refine pM func117 Z (by kernel_rfl) Z<|go h λ_ h=>?_;refine eF Z Z Z<|go h λ_ h=>?_;refine oC h (λ_=>vZ _ _) Z Z Z Z λv1 _ h=>(go h λ_ h=>?_);refine oC h (λ_=>vZ _ _) Z Z Z Z λv2 _ h=>(go h λ_ h=>?_);refine Ul h (λ_ q3 h=>?_) λ_ q3 h=>?_
 ·exact gz h
 refine gi h (λ_ q6 h=>?_) λ_ q6 h=>?_
 ·refine go h λ_ h=>?_;refine oC h (λ_=>yD _) Z Z Z Z λv8 _ h=>?_;exact gz h
 refine gi h (λ_ q10 h=>?_) λ_ q10 h=>?_
 ·exact gz h
 refine gi h (λ_ q13 h=>?_) λ_ q13 h=>?_
 ·refine go h λ_ h=>?_;refine oC h (λ_=>yD _) Z Z Z Z λv17 _ h=>?_;exact gz h
 exact gz h
theorem Bn (p:List<|List TW) {q} (h:mG p=Us q):ax Uv 82 [eL (cL TW.c) p] (St q):=by
 refine pM func82 Z (by kernel_rfl) Z<|go h λ_ h=>?_;refine T.jU h (λs1=>[(3,St s1)]) (λs1=>[]) (λs1 h=>?_) λs1 h=>?_
 ·exact gz h
 refine go h λ_ h=>?_;refine tU h (λs4=>[(4,I s4.1),(3,St s4.2),(0,eL (cL TW.c) p)]) (λs4=>[]) λs4 ws4 h=>?_;refine Ul h (λ_ q6 h=>?_) λ_ q6 h=>?_
 ·refine go h λ_ h=>?_;refine T.jU h (λs7=>[(3,St s7),(4,I s4.1),(0,eL (cL TW.c) p)]) (λs7=>[]) (λs7 h=>?_) λs7 h=>?_
  ·refine go h λ_ h=>?_;exact lE h Um
  refine go h λ_ h=>?_;refine T.jU h (λs8=>[(3,St s8),(4,I s4.1),(0,eL (cL TW.c) p)]) (λs8=>[]) (λs8 h=>?_) λs8 h=>?_
  ·refine go h λ_ h=>?_;refine tU h (λs13=>[(5,I s13.1),(3,St s13.2),(4,I s4.1),(0,eL (cL TW.c) p)]) (λs13=>[]) λs13 ws13 h=>?_;refine gs h λf h=>?_;obtain ⟨g15,_⟩:=f;refine jN Z h (λq16 h=>?_) λq16 h=>?_
   ·refine go h λ_ h=>?_;refine gs h λ_ h=>?_;refine T.jU h (λs17=>[(3,St s17),(5,I s13.1),(4,I s4.1),(0,eL (cL TW.c) p)]) (λs17=>[]) (λs17 h=>?_) λs17 h=>?_
    ·refine go h λ_ h=>?_;refine oC h (λ_=>EJ _) Z Z Z Z λv21 _ h=>(go h λ_ h=>?_);exact lE h Um
    refine gi h (λ_ q18 h=>?_) λ_ q18 h=>?_
    ·refine go h λ_ h=>?_
     cases h
     exact ⟨(),trivial,Um⟩
    refine go h λ_ h=>?_
    cases h
    exact ⟨(),trivial,Um⟩
   refine jM<|lX h λh=>?_
   cases h
   exact ⟨(),trivial,Um⟩
  refine gi h (λ_ q9 h=>?_) λ_ q9 h=>?_
  ·refine go h λ_ h=>?_
   cases h
   exact ⟨(),trivial,Um⟩
  refine go h λ_ h=>?_
  cases h
  exact ⟨(),trivial,Um⟩
 refine jM<|lX h λh=>?_
 cases h
 exact ⟨(),trivial,Um⟩
theorem qK (text:BA) {q} (h:bX text=Us q):ax Uv 36 [St text] (.tup [eL (cL TW.c) q.1,Bo q.2]):=by
 refine pM func36 Z (by kernel_rfl) Z<|go h λ_ h=>?_;refine oA (EvA.mkO (c:=(cL TW.c)) ([]:List<|List TW) [] CI Z Z Z qD Z Z)<|go h λ_ h=>?_;refine oC h (λ_=>yC _ _) Z Z Z Z λv1 _ h=>(go h λ_ h=>?_);refine tJ h (λs2 gh=>[(4,hS Ur 0 gh 1 s2.length),(0,St text)]) (λs2 gh=>[bE Ur gh 1 62 (s2.map<|cL TW.c)]) (λs2 u35 h=>?_) λs2 h=>?_
 ·refine gs h λ_ h=>?_;refine jB h λv36 cv36 h=>oA (EvA.callT Z Z (kZ s2 cv36) (.cons (Fz.own (g:=false) (ver:=u35) (l:=s2) Z Z Z nofun qD) .nil) Z)<|go h λ_ h=>?_;refine TO.jB h 5 (λs37=>[(66,Bo s37),(4,hS Ur 0 u35 1 s2.length)]) (λs37=>[bE Ur u35 1 62 (s2.map<|cL TW.c)]) (λs37 q38 h js37=>?_) (λs37 q38 h js37=>?_) λs37 h=>?_
  ·exact gj h js37
  ·refine go h λ_ h=>?_;refine jB h λv39 cv39 h=>gA Z q38 (EvA.callT Z Z (Bn s2 cv39) (.cons (Fz.own (g:=false) (ver:=u35) (l:=s2) Z Z Z nofun qD) .nil) Z) ?_;exact gj h js37
  refine gi h (λ_ q40 h=>?_) λ_ q40 h=>?_
  ·refine go h λ_ h=>?_;refine oN (TS.mkF (c:=(cL TW.c)) ([]:List<|List TW) [] CI Z Z Z qD qD Z)<|go h λ_ h=>?_;obtain rfl:=TV h
   repeat (first|refine kC ?_|refine kD ?_)
   exact jQ (vs:=[eL (cL TW.c) ([]:List<|List TW),Bo Ur]) (.cons (.tmp Z)<|.cons (.tmp Z) .nil)<|.tupL<|.cons (qC Z)<|.cons (qC Z) .nil
  refine go h λ_ h=>?_;obtain rfl:=TV h
  repeat (first|refine kC ?_|refine kD ?_)
  exact jQ (vs:=[hS Ur 0 u35 1 s2.length,Bo Uq]) (.cons (.tmp Z)<|.cons (.tmp Z) .nil)<|.tupL<|.cons (Fz.own (g:=false) (ver:=u35) (l:=s2) Z Z Z nofun qD)<|.cons (qC Z) .nil
 refine go h λ_ h=>?_;refine tT h 0 (λs6 gh=>[(6,I s6.2),(5,eL cS v1),(4,hS Ur 0 gh 1 s6.1.length),(0,St text)]) (λs6 gh=>[bE Ur gh 1 62 (s6.1.map<|cL TW.c)]) λs6 u8 ws6 h=>?_;refine gs h λ_ h=>?_;refine TO.jB h 3 (λs9=>[(20,Bo s9),(6,I s6.2),(5,eL cS v1),(4,hS Ur 0 u8 1 s6.1.length),(0,St text)]) (λs9=>[bE Ur u8 1 62 (s6.1.map<|cL TW.c)]) (λs9 q10 h js9=>?_) (λs9 q10 h js9=>?_) λs9 h=>?_
 ·exact gj h js9
 ·exact gj h js9
 refine gi h (λ_ q11 h=>?_) λ_ q11 h=>?_
 ·refine go h λ_ h=>?_;refine tJ h (λs12 gh=>[(4,hS Ur 0 gh 1 s12.length),(6,I s6.2),(5,eL cS v1),(0,St text)]) (λs12 gh=>[bE Ur gh 1 62 (s12.map<|cL TW.c)]) (λs12 u33 h=>?_) λs12 h=>?_
  ·refine go h λ_ h=>?_;obtain rfl:=TV h;exact ⟨(s12,(s6.2+V)),u33,Z,trivial,Um⟩
  refine go h λ_ h=>?_;refine oA (EvA.mkO (c:=TW.c) ([]:List TW) [] Gy Z Z Z qD Z Z)<|go h λf h=>?_;obtain ⟨g13,_⟩:=f;refine oC h (λ_=>yC _ _) Z Z Z Z λv14 _ h=>(go h λ_ h=>?_);refine tJ h (λs15 gh=>[(7,hS Ur 1 gh 4 s15.length),(6,I s6.2),(5,eL cS v1),(4,hS Ur 0 u8 1 s6.1.length),(0,St text)]) (λs15 gh=>[bE Ur u8 1 62 (s6.1.map<|cL TW.c),bE Ur gh 4 65 (s15.map TW.c)]) (λs15 u31 h=>?_) λs15 h=>?_
  ·refine go h λ_ h=>?_;refine oA (EvA.mkR [[hS Ur 1 u31 4 s15.length]] CI Z Z Z Z)<|jL h λg32 h=>oA (EvA.appR (g:=false) (rows:=s6.1.map<|cL TW.c) (rows':=s6.1.map (cL TW.c)++[[hS Ur 1 u31 4 s15.length]]) (n':=s6.1.length+1) CI (by kernel_rfl) Z Z (by simp) nofun (cu.raw (rows:=[[hS Ur 1 u31 4 s15.length]]) Z Z Z) g32 Z Z) ?_;refine go h λ_ h=>?_;obtain rfl:=TV h;exact ⟨u8+1,trivial,rI Z (.cons (.snoc qD<|.cons (.cons (.fz<|Fz.own (g:=false) (ver:=u31) (l:=s15) Z Z Z nofun TW.isF) .nil) .nil) .nil)<|ai (.eqv (congrArg (hS Ur 0 (u8+1) 1) (by simp:(s6.1.length+1)=(s6.1++[s15]).length))<|.hS (g:=false) (b:=0) (ver:=u8+1) (s:=1) (n:=(s6.1++[s15]).length) Z)<|ai (.fz<|qC Z)<|ai (.fz<|qC Z)<|ai (.fz<|qC Z) aY⟩
  refine go h λ_ h=>?_;refine tT h 0 (λs19 gh=>[(9,I s19.2),(8,eL cS v14),(7,hS Ur 1 gh 4 s19.1.length),(6,I s6.2),(5,eL cS v1),(4,hS Ur 0 u8 1 s6.1.length),(0,St text)]) (λs19 gh=>[bE Ur u8 1 62 (s6.1.map<|cL TW.c),bE Ur gh 4 65 (s19.1.map TW.c)]) λs19 u21 ws19 h=>?_;refine gs h λ_ h=>?_;refine TO.jB h 3 (λs22=>[(36,Bo s22),(9,I s19.2),(8,eL cS v14),(7,hS Ur 1 u21 4 s19.1.length),(6,I s6.2),(5,eL cS v1),(4,hS Ur 0 u8 1 s6.1.length),(0,St text)]) (λs22=>[bE Ur u8 1 62 (s6.1.map<|cL TW.c),bE Ur u21 4 65 (s19.1.map TW.c)]) (λs22 q23 h js22=>?_) (λs22 q23 h js22=>?_) λs22 h=>?_
  ·exact gj h js22
  ·exact gj h js22
  refine go h λ_ h=>?_;refine TO.jB h 6 (λs24=>[(43,Bo s24),(9,I s19.2),(8,eL cS v14),(7,hS Ur 1 u21 4 s19.1.length),(6,I s6.2),(5,eL cS v1),(4,hS Ur 0 u8 1 s6.1.length),(0,St text)]) (λs24=>[bE Ur u8 1 62 (s6.1.map<|cL TW.c),bE Ur u21 4 65 (s19.1.map TW.c)]) (λs24 q25 h js24=>?_) (λs24 q25 h js24=>?_) λs24 h=>?_
  ·exact gj h js24
  ·exact gj h js24
  refine gi h (λ_ q26 h=>?_) λ_ q26 h=>?_
  ·refine go h λ_ h=>?_;refine gs h λ_ h=>?_;refine oC h (λ_=>Di _) Z Z Z Z λv28 _ h=>oN (TS.mkF (c:=TW.c) ([v28]:List TW) [(TW.c v28)] Gy Z Z Z qD TW.isF Z)<|go h λ_ h=>?_;obtain rfl:=TV h;exact ⟨((s19.1++[v28]),(s19.2+V)),u21+1,Z,trivial,Um⟩
  refine jM<|lX h λh=>?_
  cases h
  exact ⟨u21,trivial,Um⟩
 refine jM<|lX h λh=>?_
 cases h
 exact ⟨u8,trivial,Um⟩
theorem xn (r_:ah) (aB:Nat) {q} (h:l4 r_=Us q):fu Uv 78 [.hp 0 aB 2 0 0] [Us ⟨aB,2,59,[(ah.c r_)]⟩] (.agg<|TW.c q.2) [Us ⟨aB,2,59,[(ah.c q.1)]⟩]:=by
 refine aM func78 Z (by kernel_rfl) Z<|go h λ_ h=>?_;refine jB h λv1 cv1 h=>oA (EvA.call Z Z Z<|(aW (⟨r_.b,r_.p⟩:ah) (2:Int) aB cv1).one 0 Z (.cons (.hp Z)<|.cons (.pF Z) .nil) (au Z) (au Z) Z)<|go h λ_ h=>?_;refine gs h λ_ h=>?_;refine jB h λv2 cv2 h=>oA (EvA.call Z Z Z<|(aW (⟨v1.1.b,v1.1.p⟩:ah) (7:Int) aB cv2).one 0 Z (.cons (.hp Z)<|.cons (.pF Z) .nil) (au Z) (au Z) Z) ?_;refine gi h (λ_ q3 h=>?_) λ_ q3 h=>?_
 ·refine go h λ_ h=>?_;obtain rfl:=TV h
  repeat (first|refine kC ?_|refine kD ?_)
  exact ⟨ak [(2,.fp (TW.c (⟨(4:Int),U,U,U⟩:TW)) 0)],[Us ⟨aB,2,59,[(ah.c (⟨v2.1.b,v2.1.p⟩:ah))]⟩],Um,jQ (vs:=[.agg (TW.c (⟨(4:Int),U,U,U⟩:TW))]) (.cons (.cellF (.agg<|TW.c (⟨(4:Int),U,U,U⟩:TW)) Ik Z Z) .nil) ⟨Z,Z⟩⟩
 refine gi h (λ_ q4 h=>?_) λ_ q4 h=>?_
 ·refine go h λ_ h=>?_;refine jB h λv5 cv5 h=>oA (EvA.call Z Z Z<|(aW (⟨v2.1.b,v2.1.p⟩:ah) (2:Int) aB cv5).one 0 Z (.cons (.hp Z)<|.cons (.pF Z) .nil) (au Z) (au Z) Z)<|go h λ_ h=>?_;obtain rfl:=TV h
  repeat (first|refine kC ?_|refine kD ?_)
  exact ⟨ak [(2,.fp (TW.c (⟨(3:Int),v1.2,v5.2,U⟩:TW)) 0)],[Us ⟨aB,2,59,[(ah.c (⟨v5.1.b,v5.1.p⟩:ah))]⟩],Um,jQ (vs:=[.agg (TW.c (⟨(3:Int),v1.2,v5.2,U⟩:TW))]) (.cons (.cellF (.agg<|TW.c (⟨(3:Int),v1.2,v5.2,U⟩:TW)) Ik Z Z) .nil) ⟨Z,Z⟩⟩
 refine gi h (λ_ q6 h=>?_) λ_ q6 h=>?_
 ·refine go h λ_ h=>?_;refine jB h λv7 cv7 h=>oA (EvA.call Z Z Z<|(aW (⟨v2.1.b,v2.1.p⟩:ah) (2:Int) aB cv7).one 0 Z (.cons (.hp Z)<|.cons (.pF Z) .nil) (au Z) (au Z) Z)<|go h λ_ h=>?_;refine jB h λv8 cv8 h=>oA (EvA.call Z Z Z<|(aW (⟨v7.1.b,v7.1.p⟩:ah) (3:Int) aB cv8).one 0 Z (.cons (.hp Z)<|.cons (.pF Z) .nil) (au Z) (au Z) Z)<|go h λ_ h=>?_;obtain rfl:=TV h
  repeat (first|refine kC ?_|refine kD ?_)
  exact ⟨ak [(2,.fp (TW.c (⟨(5:Int),v1.2,v7.2,(V+v8.2)⟩:TW)) 0)],[Us ⟨aB,2,59,[(ah.c (⟨v8.1.b,v8.1.p⟩:ah))]⟩],Um,jQ (vs:=[.agg (TW.c (⟨(5:Int),v1.2,v7.2,(V+v8.2)⟩:TW))]) (.cons (.cellF (.agg<|TW.c (⟨(5:Int),v1.2,v7.2,(V+v8.2)⟩:TW)) Ik Z Z) .nil) ⟨Z,Z⟩⟩
 refine T.jU h (λs10=>[(26,Bo s10),(3,I v1.2),(2,.hp 1 0 4 0 0),(0,.hp 0 aB 2 0 0)]) (λs10=>[Us ⟨aB,2,59,[(ah.c v2.1)]⟩,Us ⟨0,4,65,[[I U,I U,I U,I U]]⟩]) (λs10 h=>?_) λs10 h=>?_
 ·refine jN Z h (λq12 h=>?_) λq12 h=>?_
  ·refine go h λ_ h=>?_;refine jB h λv13 cv13 h=>oA (EvA.call Z Z Z<|(aW (⟨v2.1.b,v2.1.p⟩:ah) (3:Int) aB cv13).one 0 Z (.cons (.hp Z)<|.cons (.pF Z) .nil) (au Z) (au Z) Z)<|go h λ_ h=>?_;obtain rfl:=TV h
   repeat (first|refine kC ?_|refine kD ?_)
   exact ⟨ak [(2,.fp (TW.c (⟨(2:Int),v1.2,U,(V+v13.2)⟩:TW)) 0)],[Us ⟨aB,2,59,[(ah.c (⟨v13.1.b,v13.1.p⟩:ah))]⟩],Um,jQ (vs:=[.agg (TW.c (⟨(2:Int),v1.2,U,(V+v13.2)⟩:TW))]) (.cons (.cellF (.agg<|TW.c (⟨(2:Int),v1.2,U,(V+v13.2)⟩:TW)) Ik Z Z) .nil) ⟨Z,Z⟩⟩
  refine go h λ_ h=>?_;refine jB h λv15 cv15 h=>oA (EvA.call Z Z Z<|(aW (⟨v2.1.b,v2.1.p⟩:ah) (2:Int) aB cv15).one 0 Z (.cons (.hp Z)<|.cons (.pF Z) .nil) (au Z) (au Z) Z)<|go h λ_ h=>?_;obtain rfl:=TV h
  repeat (first|refine kC ?_|refine kD ?_)
  exact ⟨ak [(2,.fp (TW.c (⟨V,v1.2,v15.2,U⟩:TW)) 0)],[Us ⟨aB,2,59,[(ah.c (⟨v15.1.b,v15.1.p⟩:ah))]⟩],Um,jQ (vs:=[.agg (TW.c (⟨V,v1.2,v15.2,U⟩:TW))]) (.cons (.cellF (.agg<|TW.c (⟨V,v1.2,v15.2,U⟩:TW)) Ik Z Z) .nil) ⟨Z,Z⟩⟩
 refine gi h (λ_ q11 h=>?_) λ_ q11 h=>?_
 ·refine go h λ_ h=>?_
  cases h
  exact ⟨(),trivial,Um⟩
 refine go h λ_ h=>?_
 cases h
 exact ⟨(),trivial,Um⟩
theorem EK (r_:ah) (aB:Nat) {q} (h:rZ r_=Us q):fu Uv 34 [.hp 0 aB 2 0 0] [Us ⟨aB,2,59,[(ah.c r_)]⟩] (eL (cL TW.c) q.2) [Us ⟨aB,2,59,[(ah.c q.1)]⟩]:=by
 refine aM func34 Z (by kernel_rfl) Z<|go h λ_ h=>?_;refine oC h (λ_=>Dh) Z Z Z Z λv1 _ h=>(go h λ_ h=>?_);obtain ⟨Ks2,es2,ws2,h,ks2⟩:=sumL h;refine T.join (S:=(LI)×Int) (G:=Unit) (λs2=>Ks2 s2=Us q) (λs2 gh=>True) (λs2 gh=>[(0,.hp 0 aB 2 0 0)]) (λs2 gh=>[Us ⟨aB,2,59,[[eL cY s2.1,I s2.2]]⟩]) (λs2 gh h hg=>?_) ?_
 ·clear ks2;subst es2;refine go h λ_ h=>?_;refine oA (EvA.mkO (c:=(cL TW.c)) ([]:List<|List TW) [] CI Z Z Z qD Z Z)<|go h λ_ h=>?_;refine tJ h (λs9 gh=>[(6,hS Ur 1 gh 1 s9.2.2.length),(0,.hp 0 aB 2 0 0)]) (λs9 gh=>[Us ⟨aB,2,59,[[eL cY s9.1,I s9.2.1]]⟩,bE Ur gh 1 62 (s9.2.2.map<|cL TW.c)]) (λs9 u35 h=>?_) λs9 h=>?_
  ·refine gs h λ_ h=>?_;refine jB h λv36 cv36 h=>oA (EvA.callT Z Z (kZ s9.2.2 cv36) (.cons (Fz.own (g:=false) (ver:=u35) (l:=s9.2.2) Z Z Z nofun qD) .nil) Z) ?_;refine gi h (λ_ q37 h=>?_) λ_ q37 h=>?_
   ·refine go h λ_ h=>?_;obtain rfl:=TV h
    repeat (first|refine kC ?_|refine kD ?_)
    exact ⟨ak [(2,eL (cL TW.c) s9.2.2)],[Us ⟨aB,2,59,[(ah.c (⟨s9.1,s9.2.1⟩:ah))]⟩],rI Z (.cons (.row<|.cons (.fz<|qC Z)<|.cons (.fz<|qC Z) .nil) .nil)<|ai (.fz<|Fz.own (g:=false) (ver:=u35) (l:=s9.2.2) Z Z Z nofun qD) aY,jQ (vs:=[eL (cL TW.c) s9.2.2]) (.cons (.tmp Z) .nil) ⟨Z,Z⟩⟩
   refine go h λ_ h=>?_;refine jB h λv38 cv38 h=>oA (EvA.call Z Z Z<|(xn (⟨s9.1,s9.2.1⟩:ah) aB cv38).one 0 Z (.cons (.hp Z) .nil) (au Z) (au Z) Z)<|oN (TS.mkF (c:=TW.c) ([v38.2]:List TW) [(TW.c v38.2)] Gy Z Z Z qD TW.isF Z) ?_;refine gk h λ_ _ h=>?_;obtain rfl:=TV h
   repeat (first|refine kC ?_|refine kD ?_)
   exact ⟨ak [(2,eL (cL TW.c) ([([v38.2]:List TW)]:List<|List TW))],[Us ⟨aB,2,59,[(ah.c (⟨v38.1.b,v38.1.p⟩:ah))]⟩],rI Z (.cons (.row<|.cons (.fz<|qC Z)<|.cons (.fz<|qC Z) .nil) .nil)<|ai (.fz<|qC Z) aY,jQ (vs:=[eL (cL TW.c) ([([v38.2]:List TW)]:List<|List TW)]) (.cons (.tmp Z) .nil) ⟨Z,Z⟩⟩
  refine go h λ_ h=>?_;refine oN (TS.mkF (c:=cI) ([(2:Int),(3:Int),V]:LI) [[I (2:Int)],[I (3:Int)],[I V]] lK Z Z Z qD qD Z)<|jB h λv10 cv10 h=>oA (EvA.call Z Z Z<|(gJ (⟨s2.1,s2.2⟩:ah) ([(2:Int),(3:Int),V]:LI) aB cv10).one 0 Z (.cons (.hp Z)<|.cons (.pF Z) .nil) (au Z) (au Z) Z) ?_;refine go h λ_ h=>?_;refine tT h 0 (λs14 gh=>[(7,I s14.2.2.2),(6,hS Ur 1 gh 1 s14.2.2.1.length),(0,.hp 0 aB 2 0 0)]) (λs14 gh=>[Us ⟨aB,2,59,[[eL cY s14.1,I s14.2.1]]⟩,bE Ur gh 1 62 (s14.2.2.1.map<|cL TW.c)]) λs14 u16 ws14 h=>?_;refine Ul h (λ_ q17 h=>?_) λ_ q17 h=>?_
  ·refine go h λ_ h=>?_;refine tJ h (λs18 gh=>[(6,hS Ur 1 gh 1 s18.2.2.length),(7,I s14.2.2.2),(0,.hp 0 aB 2 0 0)]) (λs18 gh=>[Us ⟨aB,2,59,[[eL cY s18.1,I s18.2.1]]⟩,bE Ur gh 1 62 (s18.2.2.map<|cL TW.c)]) (λs18 u33 h=>?_) λs18 h=>?_
   ·refine go h λ_ h=>?_;obtain rfl:=TV h;exact ⟨(s18.1,s18.2.1,s18.2.2,(s14.2.2.2-V)),u33,Z,trivial,Um⟩
   refine go h λ_ h=>?_;refine oA (EvA.mkO (c:=TW.c) ([]:List TW) [] Gy Z Z Z qD Z Z)<|go h λ_ h=>?_;refine tJ h (λs19 gh=>[(8,hS Ur 2 gh 4 s19.2.2.length),(7,I s14.2.2.2),(6,hS Ur 1 u16 1 s14.2.2.1.length),(0,.hp 0 aB 2 0 0)]) (λs19 gh=>[Us ⟨aB,2,59,[[eL cY s19.1,I s19.2.1]]⟩,bE Ur u16 1 62 (s14.2.2.1.map<|cL TW.c),bE Ur gh 4 65 (s19.2.2.map TW.c)]) (λs19 u31 h=>?_) λs19 h=>?_
   ·refine go h λ_ h=>?_;refine oA (EvA.mkR [[hS Ur 2 u31 4 s19.2.2.length]] CI Z Z Z Z)<|jL h λg32 h=>oA (EvA.appR (g:=false) (rows:=s14.2.2.1.map<|cL TW.c) (rows':=s14.2.2.1.map (cL TW.c)++[[hS Ur 2 u31 4 s19.2.2.length]]) (n':=s14.2.2.1.length+1) CI (by kernel_rfl) Z Z (by simp) nofun (cu.raw (rows:=[[hS Ur 2 u31 4 s19.2.2.length]]) Z Z Z) g32 Z Z) ?_;refine go h λ_ h=>?_;obtain rfl:=TV h;exact ⟨u16+1,trivial,rI Z (.cons (.row<|.cons (.fz<|qC Z)<|.cons (.fz<|qC Z) .nil)<|.cons (.snoc qD<|.cons (.cons (.fz<|Fz.own (g:=false) (ver:=u31) (l:=s19.2.2) Z Z Z nofun TW.isF) .nil) .nil) .nil)<|ai (.eqv (congrArg (hS Ur 1 (u16+1) 1) (by simp:(s14.2.2.1.length+1)=(s14.2.2.1++[s19.2.2]).length))<|.hS (g:=false) (b:=1) (ver:=u16+1) (s:=1) (n:=(s14.2.2.1++[s19.2.2]).length) Z)<|ai (.fz<|qC Z)<|ai (.hp<|nlb Z) aY⟩
   refine go h λ_ h=>?_;refine oN (TS.mkF (c:=cI) ([(2:Int),V,(3:Int),(2:Int),U]:LI) [[I (2:Int)],[I V],[I (3:Int)],[I (2:Int)],[I U]] lK Z Z Z qD qD Z)<|jB h λv20 cv20 h=>oA (EvA.call Z Z Z<|(gJ (⟨s14.1,s14.2.1⟩:ah) ([(2:Int),V,(3:Int),(2:Int),U]:LI) aB cv20).one 0 Z (.cons (.hp Z)<|.cons (.pF Z) .nil) (au Z) (au Z) Z) ?_;refine go h λ_ h=>?_;refine tT h 0 (λs24 gh=>[(9,I s24.2.2.2),(8,hS Ur 2 gh 4 s24.2.2.1.length),(7,I s14.2.2.2),(6,hS Ur 1 u16 1 s14.2.2.1.length),(0,.hp 0 aB 2 0 0)]) (λs24 gh=>[Us ⟨aB,2,59,[[eL cY s24.1,I s24.2.1]]⟩,bE Ur u16 1 62 (s14.2.2.1.map<|cL TW.c),bE Ur gh 4 65 (s24.2.2.1.map TW.c)]) λs24 u26 ws24 h=>?_;refine Ul h (λ_ q27 h=>?_) λ_ q27 h=>?_
   ·refine go h λ_ h=>?_;refine gs h λ_ h=>?_;refine jB h λv28 cv28 h=>oA (EvA.call Z Z Z<|(xn (⟨s24.1,s24.2.1⟩:ah) aB cv28).one 0 Z (.cons (.hp Z) .nil) (au Z) (au Z) Z)<|oN (TS.mkF (c:=TW.c) ([v28.2]:List TW) [(TW.c v28.2)] Gy Z Z Z qD TW.isF Z) ?_;refine go h λ_ h=>?_;obtain rfl:=TV h;exact ⟨(v28.1.b,v28.1.p,(s24.2.2.1++[v28.2]),(s24.2.2.2-V)),u26+1,Z,trivial,Um⟩
   refine jM<|lX h λh=>?_
   cases h
   exact ⟨u26,trivial,Um⟩
  refine jM<|lX h λh=>?_
  cases h
  exact ⟨u16,trivial,Um⟩
 refine go h λ_ h=>?_;refine jB h λv3 cv3 h=>oA (EvA.call Z Z Z<|(aW (⟨r_.b,r_.p⟩:ah) (3:Int) aB cv3).one 0 Z (.cons (.hp Z)<|.cons (.pF Z) .nil) (au Z) (au Z) Z) ?_;refine gi h (λ_ q4 h=>?_) λ_ q4 h=>?_
 ·refine go h λ_ h=>?_;refine jB h λv5 cv5 h=>oA (EvA.call Z Z Z<|(aW (⟨v3.1.b,v3.1.p⟩:ah) (v1.length:Int) aB cv5).one 0 Z (.cons (.hp Z)<|.cons (.pF Z) .nil) (au Z) (au Z) Z)<|go h λ_ h=>?_;refine oC h (λ_=>qK _) Z Z Z Z λv7 _ h=>?_;refine gi h (λ_ q8 h=>?_) λ_ q8 h=>?_
  ·refine go h λ_ h=>?_;obtain rfl:=TV h;replace h:=congrArg Us (show _=_ from ks2);obtain rfl:=TV h
   repeat (first|refine kC ?_|refine kD ?_)
   exact ⟨ak [(2,eL (cL TW.c) v7.1)],[Us ⟨aB,2,59,[(ah.c (⟨v5.1.b,v5.1.p⟩:ah))]⟩],Um,jQ (vs:=[eL (cL TW.c) v7.1]) (.cons (.tmp Z) .nil) ⟨Z,Z⟩⟩
  refine go h λ_ h=>?_;obtain rfl:=TV h;exact ⟨(v5.1.b,v5.1.p),(),ks2,trivial,Um⟩
 refine go h λ_ h=>?_;obtain rfl:=TV h;exact ⟨(v3.1.b,v3.1.p),(),ks2,trivial,Um⟩
theorem xp (p:List<|List TW) (loc:Int) (writes:Bool) {q} (h:l5 p loc writes=Us q):ax Uv 79 [eL (cL TW.c) p,I loc,Bo writes] (I q):=by
 refine pM func79 Z (by kernel_rfl) Z<|go h λ_ h=>?_;refine T.jU h (λs1=>[(7,I s1)]) (λs1=>[]) (λs1 h=>?_) λs1 h=>?_
 ·exact gz h
 refine go h λ_ h=>?_;refine tU h (λs4=>[(8,I s4.1),(7,I s4.2),(0,eL (cL TW.c) p),(1,I loc),(2,Bo writes)]) (λs4=>[]) λs4 ws4 h=>?_;refine Ul h (λ_ q6 h=>?_) λ_ q6 h=>?_
 ·refine go h λ_ h=>?_;refine T.jU h (λs7=>[(8,I s4.1),(7,I s7),(0,eL (cL TW.c) p),(1,I loc),(2,Bo writes)]) (λs7=>[]) (λs7 h=>?_) λs7 h=>?_
  ·refine go h λ_ h=>?_;exact lE h Um
  refine go h λ_ h=>?_;refine tU h (λs10=>[(9,I s10.1),(8,I s4.1),(7,I s10.2),(0,eL (cL TW.c) p),(1,I loc),(2,Bo writes)]) (λs10=>[]) λs10 ws10 h=>?_;refine gs h λf h=>?_;obtain ⟨g12,_⟩:=f;refine jN Z h (λq13 h=>?_) λq13 h=>?_
  ·refine go h λ_ h=>?_;refine T.jU h (λs14=>[(7,I s14),(9,I s10.1),(8,I s4.1),(0,eL (cL TW.c) p),(1,I loc),(2,Bo writes)]) (λs14=>[]) (λs14 h=>?_) λs14 h=>?_
   ·refine go h λ_ h=>?_;exact lE h Um
   refine go h λ_ h=>?_;refine TO.jB h 14 (λs16=>[(51,Bo s16),(9,I s10.1),(8,I s4.1),(7,I s10.2),(0,eL (cL TW.c) p),(1,I loc),(2,Bo writes)]) (λs16=>[Us ⟨0,4,65,[(TW.c<|J (J p s4.1) s10.1)]⟩]) (λs16 q17 h js16=>?_) (λs16 q17 h js16=>?_) λs16 h=>?_
   ·refine go h λ_ h=>?_;refine TO.jB h 3 (λs18=>[(42,Bo s18),(39,Bo writes),(38,Bo writes),(37,Bo<|((J (J p s4.1) s10.1).Loc)==loc),(10,.hp 0 0 4 0 0),(9,I s10.1),(8,I s4.1),(7,I s10.2),(0,eL (cL TW.c) p),(1,I loc),(2,Bo writes)]) (λs18=>[Us ⟨0,4,65,[(TW.c<|J (J p s4.1) s10.1)]⟩]) (λs18 q19 h js18=>?_) (λs18 q19 h js18=>?_) λs18 h=>?_
    ·refine gA Z q19 (lh (.agg<|TW.c<|J (J p s4.1) s10.1) Ik Z Z Z)<|jB h λv20 cv20 h=>gN Z q19 (TS.call Z Z Z (vU (⟨(J (J p s4.1) s10.1).Op,(J (J p s4.1) s10.1).Loc,(J (J p s4.1) s10.1).Reg,(J (J p s4.1) s10.1).Val⟩:TW) cv20) Z)<|gN Z q17 (TS.pickT Z q19 (Bo v20) Z) ?_
     cases h
     exact js18 _ _ Um
    ·refine go h λ_ h=>?_;refine gN Z q17 (TS.pickF Z q19 (Bo Ur) Z) ?_
     cases h
     exact js18 _ _ Um
    refine go h λ_ h=>?_;refine TO.jB h 7 (λs21=>[(50,Bo s21),(43,Bo s18),(42,Bo s18),(39,Bo writes),(38,Bo writes),(37,Bo<|((J (J p s4.1) s10.1).Loc)==loc),(9,I s10.1),(8,I s4.1),(7,I s10.2),(0,eL (cL TW.c) p),(1,I loc),(2,Bo writes)]) (λs21=>[Us ⟨0,4,65,[(TW.c<|J (J p s4.1) s10.1)]⟩]) (λs21 q22 h js21=>?_) (λs21 q22 h js21=>?_) λs21 h=>?_
    ·refine go h λ_ h=>?_;refine gN Z q17 (TS.pickT Z q22 (Bo Uq) Z) ?_
     cases h
     exact js21 _ _ Um
    ·refine go h λ_ h=>?_;refine TO.jB h 3 (λs23=>[(49,Bo s23),(46,Bo<|!writes),(45,Bo<|!writes),(44,Bo writes),(43,Bo s18),(42,Bo s18),(39,Bo writes),(38,Bo writes),(37,Bo<|((J (J p s4.1) s10.1).Loc)==loc),(9,I s10.1),(8,I s4.1),(7,I s10.2),(0,eL (cL TW.c) p),(1,I loc),(2,Bo writes)]) (λs23=>[Us ⟨0,4,65,[(TW.c<|J (J p s4.1) s10.1)]⟩]) (λs23 q24 h js23=>?_) (λs23 q24 h js23=>?_) λs23 h=>?_
     ·refine gA Z q24 (lh (.agg<|TW.c<|J (J p s4.1) s10.1) Ik Z Z Z)<|jB h λv25 cv25 h=>gN Z q24 (TS.call Z Z Z (xk (⟨(J (J p s4.1) s10.1).Op,(J (J p s4.1) s10.1).Loc,(J (J p s4.1) s10.1).Reg,(J (J p s4.1) s10.1).Val⟩:TW) cv25) Z)<|gN Z q22 (TS.pickT Z q24 (Bo v25) Z) ?_
      cases h
      exact js23 _ _ Um
     ·refine go h λ_ h=>?_;refine gN Z q22 (TS.pickF Z q24 (Bo Ur) Z) ?_
      cases h
      exact js23 _ _ Um
     refine gN Z q17 (TS.pickF Z q22 (Bo s23) Z) ?_
     cases h
     exact js21 _ _ Um
    exact gj h js16
   ·exact gj h js16
   refine gi h (λ_ q26 h=>?_) λ_ q26 h=>?_
   ·refine go h λ_ h=>?_
    cases h
    exact ⟨(),trivial,Um⟩
   refine go h λ_ h=>?_
   cases h
   exact ⟨(),trivial,Um⟩
  refine jM<|lX h λh=>?_
  cases h
  exact ⟨(),trivial,Um⟩
 refine jM<|lX h λh=>?_
 cases h
 exact ⟨(),trivial,Um⟩
theorem Dk (p:List<|List TW) (most:Int) {q} (h:qj p most=Us q):ax Uv 35 [eL (cL TW.c) p,I most] (I q):=by
 refine pM func35 Z (by kernel_rfl) Z<|go h λ_ h=>?_;refine T.jU h (λs1=>[(5,I s1),(1,I most)]) (λs1=>[]) (λs1 h=>?_) λs1 h=>?_
 ·refine Ul h (λ_ q31 h=>?_) λ_ q31 h=>?_
  ·exact gz h
  exact gz h
 refine go h λ_ h=>?_;refine tU h (λs4=>[(6,I s4.1),(5,I s4.2),(0,eL (cL TW.c) p),(1,I most)]) (λs4=>[]) λs4 ws4 h=>?_;refine Ul h (λ_ q6 h=>?_) λ_ q6 h=>?_
 ·refine go h λ_ h=>?_;refine T.jU h (λs7=>[(6,I s4.1),(5,I s7),(0,eL (cL TW.c) p),(1,I most)]) (λs7=>[]) (λs7 h=>?_) λs7 h=>?_
  ·refine go h λ_ h=>?_;exact lE h Um
  refine go h λ_ h=>?_;refine oC h (λ_=>xp _ _ _) Z Z Z Z λv8 _ h=>(go h λ_ h=>?_);refine T.jU h (λs9=>[(7,I v8),(6,I s4.1),(5,I s9),(0,eL (cL TW.c) p),(1,I most)]) (λs9=>[]) (λs9 h=>?_) λs9 h=>?_
  ·refine go h λ_ h=>?_;refine tU h (λs23=>[(9,I s23.1),(7,I v8),(6,I s4.1),(5,I s23.2),(0,eL (cL TW.c) p),(1,I most)]) (λs23=>[]) λs23 ws23 h=>?_;refine gs h λ_ h=>?_;refine TO.jB h 4 (λs25=>[(40,Bo s25),(9,I s23.1),(7,I v8),(6,I s4.1),(5,I s23.2),(0,eL (cL TW.c) p),(1,I most)]) (λs25=>[]) (λs25 q26 h js25=>?_) (λs25 q26 h js25=>?_) λs25 h=>?_
   ·exact gj h js25
   ·exact gj h js25
   refine gi h (λ_ q27 h=>?_) λ_ q27 h=>?_
   ·refine go h λ_ h=>?_;refine gs h λ_ h=>?_;exact lE h Um
   refine jM<|lX h λh=>?_
   cases h
   exact ⟨(),trivial,Um⟩
  refine go h λ_ h=>?_;refine tU h (λs12=>[(8,I s12.1),(7,I v8),(6,I s4.1),(5,I s12.2),(0,eL (cL TW.c) p),(1,I most)]) (λs12=>[]) λs12 ws12 h=>?_;refine gs h λ_ h=>?_;refine oC h (λ_=>xp _ _ _) Z Z Z Z λv14 _ h=>(go h λ_ h=>?_);refine TO.jB h 4 (λs15=>[(26,Bo s15),(8,I s12.1),(7,I v8),(6,I s4.1),(5,I s12.2),(0,eL (cL TW.c) p),(1,I most)]) (λs15=>[]) (λs15 q16 h js15=>?_) (λs15 q16 h js15=>?_) λs15 h=>?_
  ·exact gj h js15
  ·exact gj h js15
  refine gi h (λ_ q17 h=>?_) λ_ q17 h=>?_
  ·refine go h λ_ h=>?_;refine gs h λ_ h=>?_;exact lE h Um
  refine jM<|lX h λh=>?_
  cases h
  exact ⟨(),trivial,Um⟩
 refine jM<|lX h λh=>?_
 cases h
 exact ⟨(),trivial,Um⟩
theorem Dl (r_:ah) (aB:Nat) {q} (h:ql r_=Us q):fu Uv 15 [.hp 0 aB 2 0 0] [Us ⟨aB,2,59,[(ah.c r_)]⟩] (eL (cL TW.c) q.2) [Us ⟨aB,2,59,[(ah.c q.1)]⟩]:=by
 refine aM func15 Z (by kernel_rfl) Z<|go h λ_ h=>?_;refine jB h λv1 cv1 h=>oA (EvA.call Z Z Z<|(EK (⟨r_.b,r_.p⟩:ah) aB cv1).one 0 Z (.cons (.hp Z) .nil) (au Z) (au Z) Z)<|go h λ_ h=>?_;refine gs h λ_ h=>?_;refine oC h (λ_=>Dk _ _) Z Z Z Z λv2 _ h=>?_;refine gi h (λ_ q3 h=>?_) λ_ q3 h=>?_
 ·refine go h λ_ h=>?_;obtain rfl:=TV h
  repeat (first|refine kC ?_|refine kD ?_)
  exact ⟨ak [(2,eL (cL TW.c) v1.2)],[Us ⟨aB,2,59,[(ah.c (⟨v1.1.b,v1.1.p⟩:ah))]⟩],Um,jQ (vs:=[eL (cL TW.c) v1.2]) (.cons (.tmp Z) .nil) ⟨Z,Z⟩⟩
 refine go h λ_ h=>?_;refine oC h (λ_=>qK _) Z Z Z Z λv4 _ h=>(go h λ_ h=>?_);obtain rfl:=TV h
 repeat (first|refine kC ?_|refine kD ?_)
 exact ⟨ak [(2,eL (cL TW.c) v4.1)],[Us ⟨aB,2,59,[(ah.c (⟨v1.1.b,v1.1.p⟩:ah))]⟩],Um,jQ (vs:=[eL (cL TW.c) v4.1]) (.cons (.tmp Z) .nil) ⟨Z,Z⟩⟩
theorem xD (code:LI) {q} (h:iq code=Us q):ax Uv 4 [eL cY code] (eL (cL TW.c) q):=by
 refine pM func4 Z (by kernel_rfl) Z<|go h λ_ h=>?_;refine jB h λv1 cv1 h=>oA (EvA.call Z Z Z<|(CU code cv1).fresh Z (au Z) 0 Z)<|go h λ_ h=>?_;refine jB h λv2 cv2 h=>oA (EvA.call Z Z Z<|(Dl (⟨v1.b,v1.p⟩:ah) 0 cv2).one 0 Z (.cons (.hp Z) .nil) (au Z) (au Z) Z)<|jB h λv3 cv3 h=>oA (EvA.call Z Z Z<|(BZ (⟨v2.1.b,v2.1.p⟩:ah) v2.2 0 cv3).one 0 Z (.cons (.hp Z)<|.cons (.pF Z) .nil) (au Z) (au Z) Z) ?_;exact gz h
theorem yE (a:LI) (b:LI) {q} (h:oP a b=Us q):ax Uv 10 [eL cI a,eL cI b] (Bo q):=by
 refine pM func10 Z (by kernel_rfl) Z<|go h λ_ h=>?_;refine Ul h (λ_ q1 h=>?_) λ_ q1 h=>?_
 ·exact gz h
 refine go h λ_ h=>?_;obtain ⟨Ks2,es2,ws2,h,ks2⟩:=sumL h;refine T.join (S:=Unit) (G:=Unit) (λs2=>Ks2 s2=Us q) (λs2 gh=>True) (λs2 gh=>[]) (λs2 gh=>[]) (λs2 gh h hg=>?_) ?_
 ·clear ks2;subst es2;exact gz h
 refine go h λ_ h=>?_;refine tU h (λs5=>[(5,I s5),(0,eL cI a),(1,eL cI b)]) (λs5=>[]) λs5 ws5 h=>?_;refine Ul h (λ_ q7 h=>?_) λ_ q7 h=>?_
 ·refine go h λ_ h=>?_;refine gs h λ_ h=>?_;refine jH<|T.drawP (by kernel_rfl) (by kernel_rfl) ?_;refine gi h (λ_ q10 h=>?_) λ_ q10 h=>?_
  ·refine go h λ_ h=>?_;refine lX h λh=>?_;obtain rfl:=TV h;replace h:=congrArg Us (show _=_ from ks2);exact gz h
  refine go h λ_ h=>?_;exact lE h Um
 refine jM<|lX h λh=>?_
 cases h
 exact ⟨(),(),ks2,trivial,Um⟩
theorem Dm (a:LL) (b:LL) {q} (h:qm a b=Us q):ax Uv 7 [eL (cL cI) a,eL (cL cI) b] (Bo q):=by
 refine pM func7 Z (by kernel_rfl) Z<|go h λ_ h=>?_;refine Ul h (λ_ q1 h=>?_) λ_ q1 h=>?_
 ·exact gz h
 refine go h λ_ h=>?_;obtain ⟨Ks2,es2,ws2,h,ks2⟩:=sumL h;refine T.join (S:=Unit) (G:=Unit) (λs2=>Ks2 s2=Us q) (λs2 gh=>True) (λs2 gh=>[]) (λs2 gh=>[]) (λs2 gh h hg=>?_) ?_
 ·clear ks2;subst es2;exact gz h
 refine go h λ_ h=>?_;refine tU h (λs5=>[(5,I s5),(0,eL (cL cI) a),(1,eL (cL cI) b)]) (λs5=>[]) λs5 ws5 h=>?_;refine Ul h (λ_ q7 h=>?_) λ_ q7 h=>?_
 ·refine go h λ_ h=>?_;refine gs h λ_ h=>?_;refine jH<|T.drawP (by kernel_rfl) (by kernel_rfl) ?_;refine go h λ_ h=>?_;refine fC h (λ_=>yE _ _) Z Z Z Z Z λv10 _ h=>?_;refine gi h (λ_ q11 h=>?_) λ_ q11 h=>?_
  ·refine go h λ_ h=>?_;refine lX h λh=>?_;obtain rfl:=TV h;replace h:=congrArg Us (show _=_ from ks2);exact gz h
  refine go h λ_ h=>?_;exact lE h Um
 refine jM<|lX h λh=>?_
 cases h
 exact ⟨(),(),ks2,trivial,Um⟩
theorem CB (list:LL) {q} (h:oQ list=Us q):ax Uv 11 [eL (cL cI) list] (Bo q):=by
 refine pM func11 Z (by kernel_rfl) Z<|go h λ_ h=>?_;obtain ⟨Ks1,es1,ws1,h,ks1⟩:=sumL h;refine T.join (S:=Unit) (G:=Unit) (λs1=>Ks1 s1=Us q) (λs1 gh=>True) (λs1 gh=>[]) (λs1 gh=>[]) (λs1 gh h hg=>?_) ?_
 ·clear ks1;subst es1;exact gz h
 refine go h λ_ h=>?_;refine tU h (λs4=>[(3,I s4),(0,eL (cL cI) list)]) (λs4=>[]) λs4 ws4 h=>?_;refine Ul h (λ_ q6 h=>?_) λ_ q6 h=>?_
 ·refine go h λ_ h=>?_;obtain ⟨Ks7,es7,ws7,h,ks7⟩:=sumL h;refine T.join (S:=Unit) (G:=Unit) (λs7=>Ks7 s7=Us ws4) (λs7 gh=>True) (λs7 gh=>[(3,I s4),(0,eL (cL cI) list)]) (λs7 gh=>[]) (λs7 gh h hg=>?_) ?_
  ·clear ks7;subst es7;refine go h λ_ h=>?_;exact lE h Um
  refine go h λ_ h=>?_;refine T.jU h (λs8=>[(4,I s8),(3,I s4),(0,eL (cL cI) list)]) (λs8=>[]) (λs8 h=>?_) λs8 h=>?_
  ·refine T.jU h (λs23=>[(62,Bo s23),(3,I s4),(0,eL (cL cI) list)]) (λs23=>[]) (λs23 h=>?_) λs23 h=>?_
   ·refine jN Z h (λq30 h=>?_) λq30 h=>?_
    ·refine go h λ_ h=>?_;obtain rfl:=TV h;replace h:=congrArg Us (show _=_ from ks7);refine lX h λh=>?_;obtain rfl:=TV h;replace h:=congrArg Us (show _=_ from ks1);exact gz h
    refine go h λ_ h=>?_
    cases h
    exact ⟨(),(),ks7,trivial,Um⟩
   refine T.drawG (λ_=>([],Ur)) (by kernel_rfl) (by kernel_rfl)<|go h λf h=>?_;obtain ⟨g24,_⟩:=f;rcases CN h with ⟨q25,h⟩ | ⟨q25,h⟩
   ·refine gp h λ_ h=>?_;refine go h λ_ h=>?_
    cases h
    exact ⟨(),trivial,Um⟩
   refine gp h λ_ h=>?_;refine go h λ_ h=>?_
   cases h
   exact ⟨(),trivial,Um⟩
  refine go h λ_ h=>?_;refine tU h (λs11=>[(4,I s11),(3,I s4),(0,eL (cL cI) list)]) (λs11=>[]) λs11 ws11 h=>?_;obtain ⟨Ks13,es13,ws13,h,ks13⟩:=sumL h;refine T.join (S:=Unit) (G:=Unit) (λs13=>Ks13 s13=Us ws11) (λs13 gh=>True) (λs13 gh=>[(4,I s11),(3,I s4),(0,eL (cL cI) list)]) (λs13 gh=>[]) (λs13 gh h hg=>?_) ?_
  ·clear ks13;subst es13;refine go h λ_ h=>?_;exact lE h Um
  refine T.jU h (λs14=>[(35,Bo s14),(4,I s11),(3,I s4),(0,eL (cL cI) list)]) (λs14=>[]) (λs14 h=>?_) λs14 h=>?_
  ·refine jN Z h (λq21 h=>?_) λq21 h=>?_
   ·refine go h λ_ h=>?_
    cases h
    exact ⟨(),(),ks13,trivial,Um⟩
   refine jM ?_;obtain rfl:=TV h;replace h:=congrArg Us (show _=_ from ks13);refine lX h λh=>?_
   cases h
   exact ⟨(),trivial,Um⟩
  refine T.drawG (λ_=>([],Ur)) (by kernel_rfl) (by kernel_rfl)<|go h λf h=>?_;obtain ⟨g15,_⟩:=f;rcases CN h with ⟨q16,h⟩ | ⟨q16,h⟩
  ·refine gp h λ_ h=>?_;refine go h λ_ h=>?_
   cases h
   exact ⟨(),trivial,Um⟩
  refine gp h λ_ h=>?_;refine go h λ_ h=>?_
  cases h
  exact ⟨(),trivial,Um⟩
 refine jM<|lX h λh=>?_
 cases h
 exact ⟨(),(),ks1,trivial,Um⟩
theorem zf (code:LI) {q} (h:gI code=Us q):ax Uv 3 [eL cY code] (Bo q):=by
 refine pM func3 Z (by kernel_rfl) Z<|jI<|oN as'<|jA<|jH<|jI<|oN mv<|oN (TS.lenL KZ Z)<|oN (TS.igt Z Z)<|jA ?_;refine jN Z h (λq1 h=>?_) λq1 h=>?_
 ·refine jI<|oN as'<|jA<|jK ?_
  cases h
  exact JK Z Z Z
 refine jG<|jI<|oN mv<|oC h (λ_=>xD _) Z Z Z Z λv2 _ h=>oN as'<|jA<|jI<|oN mv<|oC h (λ_=>Bc _) Z Z Z Z λv3 _ h=>oN as'<|jA<|jI<|oC h (λ_=>Db _) Z Z Z Z λv4 _ h=>oN mv<|oN (TS.ext (eL aj.c v4.1) Z Z)<|oN (TS.ext (Bo v4.2) Z Z) ?_;refine oN as'<|oN as'<|jA<|jH<|jI<|oN mv<|oN mv<|oC h (λ_=>Bf _) Z Z Z Z λv5 _ h=>oC h (λ_=>Dm _ _) Z Z Z Z λv6 _ h=>oN (TS.not Z)<|oN mv ?_;refine TO.jB h 3 (λs7=>[(29,Bo s7),(5,eL aj.c v4.1),(4,eL (cL cI) v3),(3,eL (cL TW.c) v2)]) (λs7=>[]) (λs7 q8 h js7=>?_) (λs7 q8 h js7=>?_) λs7 h=>?_
 ·refine gS Z q8<|gS Z q8<|oN (TS.pickT Z q8 (Bo Uq) Z) ?_
  cases h
  exact js7 _ _<|kw Z Z
 ·refine gN Z q8 mv<|gN Z q8 (TS.not Z)<|oN (TS.pickF Z q8 (Bo<|!v4.2) Z) ?_
  cases h
  exact js7 _ _<|kw Z Z
 refine jA ?_;refine jN Z h (λq9 h=>?_) λq9 h=>?_
 ·refine jI<|oN as'<|jA<|jK ?_
  cases h
  exact JK Z Z Z
 refine jG ?_;obtain ⟨Ks10,es10,ws10,h,ks10⟩:=sumL h;refine T.join (S:=Unit) (G:=Unit) (λs10=>Ks10 s10=Us q) (λs10 gh=>True) (λs10 gh=>[(5,eL aj.c v4.1),(4,eL (cL cI) v3),(3,eL (cL TW.c) v2)]) (λs10 gh=>[]) (λs10 gh h hg=>?_) ?_
 ·clear ks10;subst es10;refine jI<|oN mv<|oC h (λ_=>CB _) Z Z Z Z λv23 _ h=>oN mv ?_;refine TO.jB h 8 (λs24=>[(66,Bo s24)]) (λs24=>[]) (λs24 q25 h js24=>?_) (λs24 q25 h js24=>?_) λs24 h=>?_
  ·refine gN Z q25 mv<|gN Z q25 (TS.lenL vo Z)<|gN Z q25 mv<|gN Z q25 mv<|jB h λv26 cv26 h=>gN Z q25 (TS.call Z Z Z (yB v2 v4.1 cv26) Z)<|gN Z q25 (TS.lenL QT Z)<|gN Z q25 (TS.ieq Z Z)<|oN (TS.pickT Z q25 (Bo<|(v3.length:Int)==(v26.length:Int)) Z) ?_
   cases h
   exact js24 _ _<|kw Z Z
  ·refine gS Z q25<|gS Z q25<|gS Z q25<|gS Z q25<|gS Z q25<|gS Z q25<|gS Z q25<|oN (TS.pickF Z q25 (Bo Ur) Z) ?_
   cases h
   exact js24 _ _<|kw Z Z
  refine oN as'<|jA<|jK ?_
  cases h
  exact JK Z Z Z
 refine jI<|oN as'<|jA<|jE ?_;refine T.lU h (λs13=>[(7,I s13),(5,eL aj.c v4.1),(4,eL (cL cI) v3),(3,eL (cL TW.c) v2)]) (λs13=>[]) (kw Z Z) λs13 ws13 h=>?_;refine jH<|jI<|oN mv<|oN mv<|oN (TS.lenL vo Z)<|oN (TS.ilt Z Z)<|jA ?_;refine jN Z h (λq15 h=>?_) λq15 h=>?_
 ·refine jG<|jH<|jE<|jI<|oN mv<|oN mv<|oN mv<|jD h λg16 h=>oN (TS.ixL vo Z Z g16 qD)<|oN (lf (eL cI<|J v3 s13) CH Z)<|oC h (λ_=>xB _ _) Z Z Z Z λv17 _ h=>oN mv<|oN (TS.ext (eL cI v17.1) Z Z)<|oN (TS.ext (Bo v17.2) Z Z)<|oN as'<|oN as' ?_;refine jA<|jI<|oN mv<|oN (TS.not Z)<|oN mv ?_;refine TO.jB h 8 (λs18=>[(55,Bo s18),(7,I s13),(5,eL aj.c v4.1),(4,eL (cL cI) v3),(3,eL (cL TW.c) v2)]) (λs18=>[]) (λs18 q19 h js18=>?_) (λs18 q19 h js18=>?_) λs18 h=>?_
  ·refine gS Z q19<|gS Z q19<|gS Z q19<|gS Z q19<|gS Z q19<|gS Z q19<|gS Z q19<|oN (TS.pickT Z q19 (Bo Uq) Z) ?_
   cases h
   exact js18 _ _<|kw Z Z
  ·refine gN Z q19 mv<|gN Z q19 mv<|gN Z q19 mv<|gN Z q19 (TS.ixL vo Z Z g16 qD)<|gN Z q19 (lf (eL cI<|J v3 s13) CH Z)<|jB h λv20 cv20 h=>gN Z q19 (TS.call Z Z Z (yE v17.1 (J v3 s13) cv20) Z)<|gN Z q19 (TS.not Z)<|oN (TS.pickF Z q19 (Bo<|!v20) Z) ?_
   cases h
   exact js18 _ _<|kw Z Z
  refine jA ?_;refine jN Z h (λq21 h=>?_) λq21 h=>?_
  ·refine jI<|oN as'<|jA<|jK<|lX h λh=>?_;obtain rfl:=TV h;replace h:=congrArg Us (show _=_ from ks10)
   cases h
   exact JK Z Z Z
  refine jG<|jC<|oN mv<|jW h λg22 h=>oN (TS.add Z Z g22)<|oN as'<|jA ?_;exact lE h<|kw Z Z
 refine jM<|lX h λh=>?_
 cases h
 exact ⟨(),(),ks10,trivial,kw Z Z⟩
open Go.ChangeShapes Go.WideShapes Go.ChangeAt Go.RowKit Go.WideElems
def NF (P:Program) (ns:List String):Bool:=ns.all λn=>((P.globalNamed n).bind (P.globals[·]?)).all λgl=>P.readableRec gl.type&&Uu (gl.type<P.types.size)
theorem zy {H:Type} {enc:TypeId×Value->H} {P:Program} (hl:laidOutB P=Uq) {W W':World} (hb:Below W.heap.size W W') {sp:Nat->Bool} :
  ∀ {ns:List String} {gs:List (DataW H)} {ps:List MemPlace},NF P ns=Uq->DataW.TrodVars enc P W (λ_=>Uq) ns gs ps->(∀ x∈ps,sp x.block=Uq)->DataW.TrodVars enc P W' sp ns gs ps
 | [],[],_,_,h,_=>h
 | [],_::_,_,_,h,_=>h.elim
 | _::_,[],_,_,h,_=>h.elim
 | n::ns,d::ds,ps,hv,h,hsp=>by
  have hlt:=h.lt;obtain ⟨g,t,cs,fuel,p,q,h1,h2,h3,h4,hs,e⟩:=h;simp only [NF,List.all_cons,bae] at hv;have ht:P.readableRec t=Uq/\t<P.types.size:=by
   have := hv.1;rw [h1] at this
   cases hg:P.globals[g]? with
   | none=>simp_all
   | some gl=>
    simp_all
  have hp:∀ x∈p,x.block<W.heap.size:=λx hx=>hlt x (by simp_all);have h3':W'.var? P n=Us cs:=by
   unfold World.var? at h3 ⊢;rw [h1] at h3 ⊢;simp only [Option.bind_some] at h3 ⊢;have hg:g<W.heap.size:=by
    cases hh:W.heap[g]? with
    | none=>simp_all
    | some o=>grind
   rw [hb.block g hg];exact h3
  exact ⟨g,t,cs,fuel,p,q,h1,h2,h3',DataW.trod_stays (kids_book hl ht.1) (book_sized ht.1) (λh=>by cases h) ⟨ht.2,book_self t⟩ h4 (λx hx=>hb.same (hp x hx)) (λx hx=>hsp x (by simp_all)),
   zy hl hb (by simpa [NF] using hv.2) hs (λx hx=>hsp x (by simp_all)),e⟩
theorem Ih {P:Program} {W:World} {n:String} {d:DataW Unit} {g t e:Nat} {ss:List BA} {l:List (String×DataW Unit)} (hm:laidMetH P l W) (hf:(l.filter λx=>x.1==n)=[(n,d)]) (hn:d.handleName?.isNone=Uq)
  (hg:P.globalNamed n=Us g) (ht:(P.globals[g]?).map (·.type)=Us t) (hu:P.underlying t=Us (.array ss.length e)) (hs:P.underlying e=Us .string) (hc:P.cellsOf e=1) (hd:d = .agg (ss.map λs => .lit<|.string s.data.toList)) :
  ∀ j,j<ss.length->W.cell? ⟨g,j,Ut⟩=(ss[j]?).map .string:=by
 have h1:=hm.filter λx=>x.1==n;rw [hf,MakeChecks.laidMetH_plain _ _ _ (by simp [hn])] at h1;obtain ⟨ps,⟨g',t',cs,fuel,p,q,hg',ht',hv,hr,_,_⟩,_,_⟩:=h1;obtain rfl:=osl<|hg.symm.trans hg';obtain rfl:=osl<|ht.symm.trans ht';obtain ⟨xs,m,_,ex,hlen,hl,hel⟩:=DataW.trod_array hu hr;intro j hj;have hE:=hel j hj;rw [hc,Nat.mul_one,geq (by omega)] at hE;obtain ⟨s,e1,e2,_⟩:=DataW.trod_string hs hE;have e3:xs.map (·.1)=ss.map λs => .lit (.string s.data.toList):=by
  have := (Prod.mk.inj ex).1;rw [hd] at this;exact (DataW.agg.inj this).symm
 have e4:(xs.map (·.1))[j]? = (ss.map λs=>(DataW.lit (.string s.data.toList):DataW Unit))[j]? := by rw [e3]
 rw [List.getElem?_map,List.getElem?_map,geq (by omega:j<xs.length),geq hj,e2] at e4;simp only [Option.map_some,sie,DataW.lit.injEq,Lit.string.injEq] at e4;have e5:s=ss[j]:=by
  cases s with | mk a=>cases hb:ss[j] with | mk b=>rw [hb] at e4;exact congrArg _<|Array.toList_inj.1 e4
 rw [World.var?_cell hg hv j,geq hj,<- e5];have h0:((cs.toList.drop j).take 1)[0]? = Us (.string s):=by rw [e1];rfl
 grind
theorem NH {W:World} {g:Nat} {ss:List BA} (h:∀ j,j<ss.length->W.cell? ⟨g,j,Ut⟩=(ss[j]?).map .string) (h0:0<ss.length) :
  FRel W (λg=>g<W.heap.size) (.fp (ss.map λs => .v<|.string s) 0) (.pointer<|Us ⟨g,0,Ut⟩):=by
 have hlt:g<W.heap.size:=World.block_lt_of_cell? W ⟨g,0,Ut⟩ (u:=.string ss[0]) (by simp_all);have hrow:∀ (j:Nat) (c:AV),(ss.map λs=>AV.v<|.string s)[j]? = Us c->∃ hj:j<ss.length,c = .v (.string ss[j]):=λj c hc=>by
  grind
 refine .fp (o:=0) (λj => .string<|ss[j]?.getD ByteArray.empty) hlt hlt (λj c hc=>?_) (λj c hc=>rfl) λj c hc=>?_
 ·grind
 obtain ⟨hj,rfl⟩:=hrow j c hc;rw [geq hj];exact .v rfl
end
end Go.Proofs.YtdmahcaohkplcaaGreatDoor
