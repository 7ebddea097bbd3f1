/- Texts joined. No conditions. -/
import Derived.Test.YtabfkkjdfhbngaaGreatDoorV12
namespace Go.Proofs.YtabfkkjdfhbngaaGreatDoor
noncomputable section
open _root_.Inhabited renaming default -> QW
open _root_.Bool renaming true -> QX
open _root_.Bool renaming false -> QY
open _root_.Option renaming some -> QZ
open _root_.Option renaming none -> Q0
open _root_.Decidable renaming decide -> Q3
open _root_.Go.Proofs.Tryz
open _root_.Go.Proofs.Tryz renaming prog -> Q4
open _root_.Nat renaming ble -> Ww
open _root_.List renaming length_singleton -> Wx, getElem?_cons_succ -> Wy
set_option maxHeartbeats 4000000
open Go.RowKit
set_option maxRecDepth 100000
attribute [local irreducible] T TO TF TG TX QE EvA
theorem rK (r_:LI) {q} (h:ic r_=QZ q):ax Q4 183 [eL cI r_] (eL cI q):=by
 refine pM func183 Z (by kernel_rfl) Z<|go h λ_ h=>?_;refine oA (EvA.mkO (c:=cI) ([]:LI) [] je Z Z Z qD Z Z)<|go h λ_ h=>?_;refine tJ h (λs2 gh=>[(3,hS QY 0 gh 1 s2.length)]) (λs2 gh=>[bE QY gh 1 3 (s2.map cI)]) (λs2 u27 h=>?_) λs2 h=>?_
 ·exact gf h
 refine go h λ_ h=>?_;refine tT h (0+1) (λs6 gh=>[(4,I s6.2),(3,hS QY 0 gh 1 s6.1.length)]) (λs6 gh=>[bE QY gh 1 3 (s6.1.map cI)]) λs6 u8 ws6 h=>?_;refine QT h (λ_ q9 h=>?_) λ_ q9 h=>?_
 ·refine go h λ_ h=>?_;refine tJ h (λs10 gh=>[(4,I s6.2),(3,hS QY 0 gh 1 s10.length)]) (λs10 gh=>[bE QY gh 1 3 (s10.map cI)]) (λs10 u25 h=>?_) λs10 h=>?_
  ·refine go h λ_ h=>?_;obtain rfl:=QG h;exact ⟨(s10,(s6.2+V)),u25,Z,trivial,QU⟩
  refine go h λ_ h=>?_;refine tT h u8 (λs14 gh=>[(5,I s14.2),(4,I s6.2),(3,hS QY 0 gh 1 s14.1.length)]) (λs14 gh=>[bE QY gh 1 3 (s14.1.map cI)]) λs14 u16 ws14 h=>?_;refine QT h (λ_ q17 h=>?_) λ_ q17 h=>?_
  ·refine go h λ_ h=>?_;refine tJ h (λs18 gh=>[(5,I s14.2),(4,I s6.2),(3,hS QY 0 gh 1 s18.length)]) (λs18 gh=>[bE QY gh 1 3 (s18.map cI)]) (λs18 u23 h=>?_) λs18 h=>?_
   ·refine go h λ_ h=>?_;obtain rfl:=QG h;exact ⟨(s18,(s14.2+V)),u23,Z,trivial,QU⟩
   refine go h λ_ h=>?_;refine jB h λv19 cv19 h=>oA (EvA.callT Z Z (fB s14.1 s14.2 s6.2 cv19) (.cons (Fz.own (g:=false) (ver:=u16) (l:=s14.1) Z Z Z nofun qD)<|.cons (qC Z)<|.cons (qC Z) .nil) Z) ?_;refine gi h (λ_ q20 h=>?_) λ_ q20 h=>?_
   ·refine T.drawH (dG [dF,dF,dF,dF,dF,([0],QY),dF,dF,dF,([0],QY),dF,dF,([0],QX)]) (by kernel_rfl) (by kernel_rfl)<|go h λf h=>?_;obtain ⟨_,g21,_⟩:=f;refine fV 0 [] Z Z (λG hG=>EvA.stO (g:=false) (l:=s14.1) (cs:=[I (bOr .i64 (J s14.1 s14.2)<|J s14.1 s6.2)]) (bOr .i64 (J s14.1 s14.2)<|J s14.1 s6.2) QS Z Z (hG.a0 Z) nofun (bA Z g21) Z Z Z)<|go h λ_ h=>?_;obtain rfl:=QG h;exact ⟨u16,trivial,Iz Z<|QD Z<|QD Z<|QD (congrArg (hS QY 0 u16 1) (by simp:s14.1.length=(s14.1.set s14.2.toNat<|bOr .i64 (J s14.1 s14.2)<|J s14.1 s6.2).length)) wkN⟩
   refine go h λ_ h=>?_
   cases h
   exact ⟨u16,trivial,QU⟩
  refine jM<|lX h λh=>?_
  cases h
  exact ⟨u16,trivial,QU⟩
 refine jM<|lX h λh=>?_
 cases h
 exact ⟨u8,trivial,QU⟩
theorem Cv (a:LI) (b:LI) {q} (h:pJ a b=QZ q):ax Q4 184 [eL cI a,eL cI b] (eL cI q):=by
 refine pM func184 Z (by kernel_rfl) Z<|go h λ_ h=>?_;refine oA (EvA.mkO (c:=cI) ([]:LI) [] je Z Z Z qD Z Z)<|go h λ_ h=>?_;refine tJ h (λs1 gh=>[(5,hS QY 0 gh 1 s1.length)]) (λs1 gh=>[bE QY gh 1 3 (s1.map cI)]) (λs1 u13 h=>?_) λs1 h=>?_
 ·exact gf h
 refine go h λ_ h=>?_;refine tT h 0 (λs5 gh=>[(6,I s5.2),(5,hS QY 0 gh 1 s5.1.length),(0,eL cI a),(1,eL cI b)]) (λs5 gh=>[bE QY gh 1 3 (s5.1.map cI)]) λs5 u7 ws5 h=>?_;refine QT h (λ_ q8 h=>?_) λ_ q8 h=>?_
 ·refine go h λ_ h=>?_;refine gs h λ_ h=>?_;refine jP (dG [dF,dF,dF,dF,dF,dF,dF,dF,dF,dF,dF,([0],QX),dF]) (by kernel_rfl) (by kernel_rfl)<|gk h λ_ _ h=>?_;refine jL h λg11 h=>fW 0 [] Z Z (λG hG=>EvA.app1 (g:=false) (l:=s5.1) (fH .i64 (J a s5.2)<|J b s5.2) je (by kernel_rfl) Z Z (hG.a0 Z) nofun (bh.fz (l:=([(fH .i64 (J a s5.2)<|J b s5.2)]:LI)) Z qD) g11)<|go h λ_ h=>?_;obtain rfl:=QG h;exact ⟨((s5.1++[(fH .i64 (J a s5.2)<|J b s5.2)]),(s5.2+V)),u7+1,Z,trivial,QU⟩
 refine jM<|lX h λh=>?_
 cases h
 exact ⟨u7,trivial,QU⟩
theorem AK (a:LI) (b:LI) {q} (h:nI a b=QZ q):ax Q4 185 [eL cI a,eL cI b] (eL cI q):=by
 refine pM func185 Z (by kernel_rfl) Z<|jI<|oN as'<|jA<|jI<|oA (EvA.mkO (c:=cI) ([]:LI) [] je Z Z Z qD Z Z)<|oN (QE.asg (hS QY 0 0 1<|([]:LI).length) Z)<|jA ?_;refine T.jF (G:=Nat) h (λs1 gh=>True) (λs1 gh=>[(5,hS QY 0 gh 1 s1.length)]) (λs1 gh=>[bE QY gh 1 3 (s1.map cI)]) (λs1 u13 h hg=>?_) λs1 h=>?_
 ·refine jI<|oN mv<|oN (QE.asg (hS QY 0 u13 1 s1.length) Z)<|jA<|jK ?_;obtain rfl:=QG h
  repeat (first|refine jh ?_|refine ji ?_)
  exact jQ (vs:=[hS QY 0 u13 1 s1.length]) (.cons (.tmp Z) .nil)<|Fz.own (g:=false) (ver:=u13) (l:=s1) Z Z Z nofun qD
 refine jI<|oN as'<|jA<|jE ?_;refine jO (S:=(LI)×Int) (G:=Nat) (jq a b) (λs5 gh=>True) (λs5 gh=>[(6,I s5.2),(5,hS QY 0 gh 1 s5.1.length),(0,eL cI a),(1,eL cI b)]) (λs5 gh=>[bE QY gh 1 3 (s5.1.map cI)]) (s0:=(([]:LI),U)) 0 h trivial (kw Z Z) λs5 u7 ws5 h hg=>?_;refine jH<|jI<|oN mv<|oN mv<|oN (QE.lenL je Z)<|oN (QE.ilt Z Z)<|jA ?_;refine jN Z h (λq8 h=>?_) λq8 h=>?_
 ·refine jG<|jH<|jE<|jP (dG [dF,dF,dF,dF,dF,dF,dF,dF,dF,dF,dF,([0],QX),dF]) (by kernel_rfl) (by kernel_rfl)<|fN Z mv<|fN Z mv<|fN Z mv<|jD h λg9 h=>fN Z (QE.ixL je Z Z g9 qD)<|fN Z (lf (I<|J a s5.2) QS Z)<|fN Z mv<|fN Z mv<|jD h λg10 h=>fN Z (QE.ixL je Z Z g10 qD)<|fN Z (lf (I<|J b s5.2) QS Z)<|fN Z (QE.bandNot Z Z) ?_;refine fN Z (QE.mkF (c:=cI) ([(mP .i64 (J a s5.2)<|J b s5.2)]:LI) [[I (mP .i64 (J a s5.2)<|J b s5.2)]] je Z Z Z qD qD Z)<|jL h λg11 h=>fW 0 [] Z Z (λG hG=>EvA.app1 (g:=false) (l:=s5.1) (mP .i64 (J a s5.2)<|J b s5.2) je (by kernel_rfl) Z Z (hG.a0 Z) nofun (bh.fz (l:=([(mP .i64 (J a s5.2)<|J b s5.2)]:LI)) Z qD) g11)<|fN Z (QE.asg (hS QY 0 (u7+1) 1<|(s5.1++[(mP .i64 (J a s5.2)<|J b s5.2)]).length) Z)<|jR<|T.clean (H0:=[bE QY (u7+1) 1 3 ((s5.1++[(mP .i64 (J a s5.2)<|J b s5.2)]).map cI)]) (e0:=ai [(5,hS QY 0 (u7+1) 1<|(s5.1++[(mP .i64 (J a s5.2)<|J b s5.2)]).length),(6,I s5.2),(0,eL cI a),(1,eL cI b)]) Z (QD Z<|QD Z<|QD Z<|QD Z wkN)<|jC<|oN mv<|jW h λg12 h=>oN (QE.add Z Z g12)<|oN as'<|jA ?_;obtain rfl:=QG h;exact ⟨((s5.1++[(mP .i64 (J a s5.2)<|J b s5.2)]),(s5.2+V)),u7+1,Z,trivial,kw Z Z⟩
 refine jM<|lX h λh=>?_
 cases h
 exact ⟨u7,trivial,kw Z Z⟩
theorem yJ (a:LI) (b:LI) {q} (h:kK a b=QZ q):ax Q4 186 [eL cI a,eL cI b] (eL cI q):=by
 refine pM func186 Z (by kernel_rfl) Z<|go h λ_ h=>?_;refine oA (EvA.mkO (c:=cI) ([]:LI) [] je Z Z Z qD Z Z)<|go h λ_ h=>?_;refine tJ h (λs1 gh=>[(5,hS QY 0 gh 1 s1.length)]) (λs1 gh=>[bE QY gh 1 3 (s1.map cI)]) (λs1 u24 h=>?_) λs1 h=>?_
 ·exact gf h
 refine go h λ_ h=>?_;refine tT h 0 (λs5 gh=>[(6,I s5.2),(5,hS QY 0 gh 1 s5.1.length),(0,eL cI a),(1,eL cI b)]) (λs5 gh=>[bE QY gh 1 3 (s5.1.map cI)]) λs5 u7 ws5 h=>?_;refine QT h (λ_ q8 h=>?_) λ_ q8 h=>?_
 ·refine go h λ_ h=>?_;refine tJ h (λs9 gh=>[(5,hS QY 0 gh 1 s9.length),(6,I s5.2),(0,eL cI a),(1,eL cI b)]) (λs9 gh=>[bE QY gh 1 3 (s9.map cI)]) (λs9 u22 h=>?_) λs9 h=>?_
  ·refine go h λ_ h=>?_;obtain rfl:=QG h;exact ⟨(s9,(s5.2+V)),u22,Z,trivial,QU⟩
  refine go h λ_ h=>?_;refine T.jU h (λs10=>[(7,I s10),(6,I s5.2),(5,hS QY 0 u7 1 s5.1.length),(0,eL cI a),(1,eL cI b)]) (λs10=>[bE QY u7 1 3 (s5.1.map cI)]) (λs10 h=>?_) λs10 h=>?_
  ·refine gk h λ_ _ h=>?_
   cases h
   exact ⟨u7+1,trivial,QU⟩
  refine go h λ_ h=>?_;refine tU h (λs13=>[(8,I s13.1),(7,I s13.2),(6,I s5.2),(5,hS QY 0 u7 1 s5.1.length),(0,eL cI a),(1,eL cI b)]) (λs13=>[bE QY u7 1 3 (s5.1.map cI)]) λs13 ws13 h=>?_;refine QT h (λ_ q15 h=>?_) λ_ q15 h=>?_
  ·refine go h λ_ h=>?_;refine T.jU h (λs16=>[(7,I s16),(8,I s13.1),(6,I s5.2),(5,hS QY 0 u7 1 s5.1.length),(0,eL cI a),(1,eL cI b)]) (λs16=>[bE QY u7 1 3 (s5.1.map cI)]) (λs16 h=>?_) λs16 h=>?_
   ·refine go h λ_ h=>?_;exact lE h QU
   refine go h λ_ h=>?_;refine oC h (λ_=>fB _ _ _) Z Z Z Z λv17 _ h=>?_;refine gi h (λ_ q18 h=>?_) λ_ q18 h=>?_
   ·refine go h λ_ h=>?_
    cases h
    exact ⟨(),trivial,QU⟩
   refine go h λ_ h=>?_
   cases h
   exact ⟨(),trivial,QU⟩
  refine jM<|lX h λh=>?_
  cases h
  exact ⟨(),trivial,QU⟩
 refine jM<|lX h λh=>?_
 cases h
 exact ⟨u7,trivial,QU⟩
theorem AL:∀ (nf:Nat) (p:List<|List QH) (x:QI) (e_:aa) {q} (h:cJ nf p x e_=QZ q),ax Q4 111 [eL (cL QH.c) p,.agg (QI.c x),.agg (aa.c e_)] (eL cI q):=by
 intro nf
 induction nf with
 | zero=>intros;rename_i h;cases h
 | succ nf ih=>
  intro p x e_ q h;replace h:cH (cJ nf) p x e_=QZ q:=h;refine pM func111 Z (by kernel_rfl) Z<|go h λ_ h=>?_;refine eF Z Z Z<|eF Z Z Z ?_;refine go h λ_ h=>?_;refine QT h (λ_ q1 h=>?_) λ_ q1 h=>?_
  ·refine go h λ_ h=>?_;refine oC h (λ_=>CO _ _ _) Z Z Z Z λv2 _ h=>?_;exact gz h
  refine go h λ_ h=>?_;refine jH<|T.drawP (by kernel_rfl) (by kernel_rfl) ?_;refine go h λ_ h=>?_;refine jD h λg3 h=>fN Z (QE.res (QE.ixL ut Z Z g3 ZTE.len) (r' := .fp (aa.c (J e_.Kids U).out) 0) λ_ _ hr=>rM (ZTE.out_c _) hr)<|go h λ_ h=>?_;refine fC h (λ_=>ih _ _ _) Z Z Z Z Z λv4 _ h=>(go h λ_ h=>?_);refine QT h (λ_ q5 h=>?_) λ_ q5 h=>?_
  ·refine go h λ_ h=>?_;refine oC h (λ_=>yI _) Z Z Z Z λv6 _ h=>?_;exact gz h
  refine gi h (λ_ q7 h=>?_) λ_ q7 h=>?_
  ·refine go h λ_ h=>?_;refine oC h (λ_=>rK _) Z Z Z Z λv8 _ h=>?_;exact gz h
  refine go h λ_ h=>?_;refine jH<|T.drawP (by kernel_rfl) (by kernel_rfl) ?_;refine go h λ_ h=>?_;refine jD h λg9 h=>fN Z (QE.res (QE.ixL ut Z Z g9 ZTE.len) (r' := .fp (aa.c (J e_.Kids V).out) 0) λ_ _ hr=>rM (ZTE.out_c _) hr)<|go h λ_ h=>?_;refine fC h (λ_=>ih _ _ _) Z Z Z Z Z λv10 _ h=>(go h λ_ h=>?_);refine QT h (λ_ q11 h=>?_) λ_ q11 h=>?_
  ·refine go h λ_ h=>?_;refine oC h (λ_=>Ar _ _) Z Z Z Z λv12 _ h=>?_;exact gz h
  refine gi h (λ_ q13 h=>?_) λ_ q13 h=>?_
  ·refine go h λ_ h=>?_;refine oC h (λ_=>Cv _ _) Z Z Z Z λv14 _ h=>?_;exact gz h
  refine gi h (λ_ q15 h=>?_) λ_ q15 h=>?_
  ·refine go h λ_ h=>?_;refine oC h (λ_=>AK _ _) Z Z Z Z λv16 _ h=>?_;exact gz h
  refine go h λ_ h=>?_;refine oC h (λ_=>yJ _ _) Z Z Z Z λv17 _ h=>?_;exact gz h
theorem vQ (p:List<|List QH) (x:QI) (e_:aa) {q} (h:pK p x e_=QZ q):ax Q4 111 [eL (cL QH.c) p,.agg (QI.c x),.agg (aa.c e_)] (eL cI q):=by
 obtain ⟨nf,h⟩:=lG h;exact AL nf p x e_ h
theorem uP (r_:LI) {q} (h:nJ r_=QZ q):ax Q4 243 [eL cI r_] (Bo q):=by
 refine pM func243 Z (by kernel_rfl) Z<|go h λ_ h=>?_;obtain ⟨Ks1,es1,ws1,h,ks1⟩:=tX h;refine T.join (S:=Unit) (G:=Unit) (λs1=>Ks1 s1=QZ q) (λs1 gh=>True) (λs1 gh=>[]) (λs1 gh=>[]) (λs1 gh h hg=>?_) ?_
 ·clear ks1;subst es1;exact gz h
 refine go h λ_ h=>?_;refine tU h (λs4=>[(3,I s4),(0,eL cI r_)]) (λs4=>[]) λs4 ws4 h=>?_;refine QT h (λ_ q6 h=>?_) λ_ q6 h=>?_
 ·refine go h λ_ h=>?_;refine gs h λ_ h=>?_;refine oC h (λ_=>fB _ _ _) Z Z Z Z λv7 _ h=>?_;refine gi h (λ_ q8 h=>?_) λ_ q8 h=>?_
  ·refine go h λ_ h=>?_;refine lX h λh=>?_;obtain rfl:=QG h;replace h:=congrArg QZ (show _=_ from ks1);exact gz h
  refine go h λ_ h=>?_;exact lE h QU
 refine jM<|lX h λh=>?_
 cases h
 exact ⟨(),(),ks1,trivial,QU⟩
theorem yK (r_:LI) {q} (h:kL r_=QZ q):ax Q4 242 [eL cI r_] (Bo q):=by
 refine pM func242 Z (by kernel_rfl) Z<|go h λ_ h=>?_;refine oC h (λ_=>rK _) Z Z Z Z λv1 _ h=>oC h (λ_=>uP _) Z Z Z Z λv2 _ h=>?_;exact gz h
theorem AO (r_:LI) {q} (h:nK r_=QZ q):ax Q4 244 [eL cI r_] (I q):=by
 refine pM func244 Z (by kernel_rfl) Z<|go h λ_ h=>?_;refine T.jU h (λs1=>[(3,I s1)]) (λs1=>[]) (λs1 h=>?_) λs1 h=>?_
 ·exact gz h
 refine go h λ_ h=>?_;refine tU h (λs4=>[(4,I s4.1),(3,I s4.2),(0,eL cI r_)]) (λs4=>[]) λs4 ws4 h=>?_;refine QT h (λ_ q6 h=>?_) λ_ q6 h=>?_
 ·refine go h λ_ h=>?_;refine T.jU h (λs7=>[(4,I s4.1),(3,I s7),(0,eL cI r_)]) (λs7=>[]) (λs7 h=>?_) λs7 h=>?_
  ·refine go h λ_ h=>?_;exact lE h QU
  refine go h λ_ h=>?_;refine tU h (λs10=>[(5,I s10.1),(4,I s4.1),(3,I s10.2),(0,eL cI r_)]) (λs10=>[]) λs10 ws10 h=>?_;refine QT h (λ_ q12 h=>?_) λ_ q12 h=>?_
  ·refine go h λ_ h=>?_;refine T.jU h (λs13=>[(3,I s13),(5,I s10.1),(4,I s4.1),(0,eL cI r_)]) (λs13=>[]) (λs13 h=>?_) λs13 h=>?_
   ·refine go h λ_ h=>?_;exact lE h QU
   refine go h λ_ h=>?_;refine oC h (λ_=>fB _ _ _) Z Z Z Z λv14 _ h=>?_;refine gi h (λ_ q15 h=>?_) λ_ q15 h=>?_
   ·refine go h λ_ h=>?_
    cases h
    exact ⟨(),trivial,QU⟩
   refine go h λ_ h=>?_
   cases h
   exact ⟨(),trivial,QU⟩
  refine jM<|lX h λh=>?_
  cases h
  exact ⟨(),trivial,QU⟩
 refine jM<|lX h λh=>?_
 cases h
 exact ⟨(),trivial,QU⟩
theorem AP (kind:Int) (r_:LI) {q} (h:nL kind r_=QZ q):ax Q4 179 [I kind,eL cI r_] (Bo q):=by
 refine pM func179 Z (by kernel_rfl) Z<|go h λ_ h=>?_;refine QT h (λ_ q1 h=>?_) λ_ q1 h=>?_
 ·refine go h λ_ h=>?_;refine oC h (λ_=>yK _) Z Z Z Z λv2 _ h=>?_;exact gz h
 refine gi h (λ_ q3 h=>?_) λ_ q3 h=>?_
 ·refine go h λ_ h=>?_;refine oC h (λ_=>uP _) Z Z Z Z λv4 _ h=>?_;exact gz h
 refine go h λ_ h=>?_;refine oC h (λ_=>AO _) Z Z Z Z λv5 _ h=>?_;exact gz h
theorem zN (p:List<|List QH) (x:QI) (m:List ah) {q} (h:lT p x m=QZ q):ax Q4 107 [eL (cL QH.c) p,.agg (QI.c x),eL ah.c m] (I q):=by
 refine pM func107 Z (by kernel_rfl) Z<|go h λ_ h=>?_;refine eF Z Z Z<|go h λ_ h=>?_;obtain ⟨Ks1,es1,ws1,h,ks1⟩:=tX h;refine T.join (S:=Unit) (G:=Unit) (λs1=>Ks1 s1=QZ q) (λs1 gh=>True) (λs1 gh=>[]) (λs1 gh=>[]) (λs1 gh h hg=>?_) ?_
 ·clear ks1;subst es1;exact gz h
 refine go h λ_ h=>?_;refine tU h (λs4=>[(7,I s4),(4,.fp (QI.c x) 0),(0,eL (cL QH.c) p),(2,eL ah.c m)]) (λs4=>[]) λs4 ws4 h=>?_;refine QT h (λ_ q6 h=>?_) λ_ q6 h=>?_
 ·refine go h λ_ h=>?_;refine gs h λ_ h=>?_;refine jH<|T.drawP (by kernel_rfl) (by kernel_rfl) ?_;refine go h λ_ h=>?_;refine fC h (λ_=>vQ _ _ _) Z Z Z Z Z λv8 _ h=>fC h (λ_=>AP _ _) Z Z Z Z Z λv9 _ h=>?_;refine gi h (λ_ q10 h=>?_) λ_ q10 h=>?_
  ·refine go h λ_ h=>?_;refine lX h λh=>?_;obtain rfl:=QG h;replace h:=congrArg QZ (show _=_ from ks1);exact gz h
  refine go h λ_ h=>?_;exact lE h QU
 refine jM<|lX h λh=>?_
 cases h
 exact ⟨(),(),ks1,trivial,QU⟩
theorem AQ:∀ (nf:Nat) (n:Int) {q} (h:iU nf n=QZ q),ax Q4 108 [I n] (St q):=by
 intro nf
 induction nf with
 | zero=>intros;rename_i h;cases h
 | succ nf ih=>
  intro n q h;replace h:lV (iU nf) n=QZ q:=h;refine pM func108 Z (by kernel_rfl) Z<|jI<|oN as'<|jA<|jH<|jI<|oN mv<|oN (QE.ilt Z Z)<|jA ?_;refine jN Z h (λq1 h=>?_) λq1 h=>?_
  ·refine jI<|oN as'<|jA<|jK ?_
   cases h
   exact vq Z Z Z
  refine jG<|jH<|jI<|oN mv<|oN (QE.ilt Z Z)<|jA ?_;refine jN Z h (λq2 h=>?_) λq2 h=>?_
  ·refine jI<|oN mv<|jW h λg3 h=>oN (QE.neg Z g3)<|oC h (λ_=>ih _) Z Z Z Z λv4 _ h=>jD h λg5 h=>oN (QE.cat Z Z g5)<|oN as'<|jA<|jK ?_
   cases h
   exact vq Z Z Z
  refine jG<|jI<|oN as'<|jA ?_;refine T.jU h (λs6=>[(3,St s6.1),(0,I s6.2)]) (λs6=>[]) (λs6 h=>?_) λs6 h=>?_
  ·refine jI<|oN mv<|jW h λg17 h=>oN (QE.add Z Z g17)<|jW h λg18 h=>oN (QE.iconv QS.und Tryz.underlying5 Z g18)<|oN (QE.mkF (c:=cY) ([((48:Int)+s6.2)]:LI) [[Y ((48:Int)+s6.2)]] Ir Z Z Z qD qD Z)<|oA (EvA.b2s (l:=([((48:Int)+s6.2)]:LI)) Tryz.underlying22 Tryz.underlying5 Tryz.underlying9 (I4 Z)<|bh.fz (l:=([((48:Int)+s6.2)]:LI)) Z qD)<|oN mv<|jD h λg19 h=>oN (QE.cat Z Z g19)<|oN as'<|jA<|jK ?_
   cases h
   exact vq Z Z Z
  refine jE ?_;refine T.lU h (λs9=>[(3,St s9.1),(0,I s9.2)]) (λs9=>[]) (kw Z Z) λs9 ws9 h=>?_;refine jH<|jI<|oN mv<|oN (QE.igt Z Z)<|jA ?_;refine jN Z h (λq11 h=>?_) λq11 h=>?_
  ·refine jG<|jE<|jI<|oN mv<|jD h λg12 h=>oN (QE.rem Z Z g12)<|jW h λg13 h=>oN (QE.add Z Z g13)<|jW h λg14 h=>oN (QE.iconv QS.und Tryz.underlying5 Z g14)<|oN (QE.mkF (c:=cY) ([((48:Int)+(s9.2.tmod (10:Int)))]:LI) [[Y ((48:Int)+(s9.2.tmod (10:Int)))]] Ir Z Z Z qD qD Z)<|oA (EvA.b2s (l:=([((48:Int)+(s9.2.tmod (10:Int)))]:LI)) Tryz.underlying22 Tryz.underlying5 Tryz.underlying9 (I4 Z)<|bh.fz (l:=([((48:Int)+(s9.2.tmod (10:Int)))]:LI)) Z qD)<|oN mv<|jD h λg15 h=>oN (QE.cat Z Z g15)<|oN as' ?_;refine jA<|jC<|oN mv<|jW h λg16 h=>oN (QE.quo Z Z g12 g16)<|oN as'<|jA ?_;exact lE h<|kw Z Z
  refine jM<|lX h λh=>?_
  cases h
  exact ⟨(),trivial,kw Z Z⟩
theorem mD (n:Int) {q} (h:eH n=QZ q):ax Q4 108 [I n] (St q):=by
 obtain ⟨nf,h⟩:=lG h;exact AQ nf n h
theorem Cw (r_:LI) (from_:Int) {q} (h:pO r_ from_=QZ q):ax Q4 181 [eL cI r_,I from_] (eL cI q):=by
 refine pM func181 Z (by kernel_rfl) Z<|gk h λ_ _ h=>?_;refine oA (EvA.mkO (c:=(cL cI)) ([([from_]:LI)]:LL) [[eL cI ([from_]:LI)]] wY Z Z Z qD Z Z)<|go h λ_ h=>?_;obtain ⟨Ks1,es1,ws1,h,ks1⟩:=tX h;refine T.join (S:=(LL)) (G:=Nat) (λs1=>Ks1 s1=QZ q) (λs1 gh=>True) (λs1 gh=>[]) (λs1 gh=>[bE QY gh 1 24 (s1.map<|cL cI)]) (λs1 u37 h hg=>?_) ?_
 ·clear ks1;subst es1;refine go h λ_ h=>?_;refine oN (QE.mkF (c:=cI) ([]:LI) [] je Z Z Z qD qD Z) ?_;exact gz h
 refine go h λ_ h=>?_;refine tT h 0 (λs5 gh=>[(7,I s5.2.1),(6,I s5.2.2),(5,hS QY 0 gh 1 s5.1.length),(0,eL cI r_),(1,I from_)]) (λs5 gh=>[bE QY gh 1 24 (s5.1.map<|cL cI)]) λs5 u7 ws5 h=>?_;let d1:=s5.1.getD s5.2.1.toNat QW;refine QT h (λ_ q8 h=>?_) λ_ q8 h=>?_
 ·refine go h λ_ h=>?_;obtain ⟨Ks9,es9,ws9,h,ks9⟩:=tX h;refine T.join (S:=(LL)×Int) (G:=Nat) (λs9=>Ks9 s9=QZ ws5) (λs9 gh=>True) (λs9 gh=>[(7,I s5.2.1),(6,I s9.2),(5,hS QY 0 gh 1 s9.1.length),(0,eL cI r_),(1,I from_)]) (λs9 gh=>[bE QY gh 1 24 (s9.1.map<|cL cI)]) (λs9 u35 h hg=>?_) ?_
  ·clear ks9;subst es9;refine go h λ_ h=>?_;obtain rfl:=QG h;exact ⟨(s9.1,(s5.2.1+V),s9.2),u35,Z,trivial,QU⟩
  refine go h λ_ h=>?_;refine jH<|jP (dG [dF,dF,dF,([0],QY),dF,dF,dF,([0],QY),dF,dF,dF,dF,dF]) (by kernel_rfl) (by kernel_rfl) ?_;refine go h λf h=>?_;obtain ⟨_,_,g10,_⟩:=f;refine gs h λ_ h=>?_;refine oC h (λ_=>fB _ _ _) Z Z Z Z λv13 _ h=>?_;refine gi h (λ_ q14 h=>?_) λ_ q14 h=>?_
  ·refine go h λ_ h=>?_;obtain rfl:=QG h;replace h:=congrArg QZ (show _=_ from ks9);refine lX h λh=>?_;obtain rfl:=QG h;replace h:=congrArg QZ (show _=_ from ks1);exact gz h
  refine go h λ_ h=>?_;refine tT h u7 (λs18 gh=>[(9,I s18.2.1),(8,I<|J d1<|(d1.length:Int)-V),(7,I s5.2.1),(6,I s18.2.2),(5,hS QY 0 gh 1 s18.1.length),(0,eL cI r_),(1,I from_)]) (λs18 gh=>[bE QY gh 1 24 (s18.1.map<|cL cI)]) λs18 u20 ws18 h=>?_;let d0:=s18.1.getD s5.2.1.toNat QW;refine QT h (λ_ q21 h=>?_) λ_ q21 h=>?_
  ·refine go h λ_ h=>?_;refine tJ h (λs22 gh=>[(5,hS QY 0 gh 1 s22.1.length),(6,I s22.2),(9,I s18.2.1),(8,I<|J d1<|(d1.length:Int)-V),(7,I s5.2.1),(0,eL cI r_),(1,I from_)]) (λs22 gh=>[bE QY gh 1 24 (s22.1.map<|cL cI)]) (λs22 u33 h=>?_) λs22 h=>?_
   ·refine go h λ_ h=>?_;obtain rfl:=QG h;exact ⟨(s22.1,(s18.2.1+V),s22.2),u33,Z,trivial,QU⟩
   refine go h λ_ h=>?_;refine oC h (λ_=>fB _ _ _) Z Z Z Z λv23 _ h=>(go h λ_ h=>?_);refine TO.jB h 6 (λs24=>[(55,Bo s24),(9,I s18.2.1),(8,I<|J d1<|(d1.length:Int)-V),(7,I s5.2.1),(6,I s18.2.2),(5,hS QY 0 u20 1 s18.1.length),(0,eL cI r_),(1,I from_)]) (λs24=>[bE QY u20 1 24 (s18.1.map<|cL cI)]) (λs24 q25 h js24=>?_) (λs24 q25 h js24=>?_) λs24 h=>?_
   ·exact gj h js24
   ·exact gj h js24
   refine gi h (λ_ q27 h=>?_) λ_ q27 h=>?_
   ·refine go h λ_ h=>?_;refine oA (EvA.mkO (c:=cI) ([]:LI) [] je Z Z Z qD Z Z)<|gk h λ_ _ h=>?_;refine oA (EvA.mkR [[hS QY 1 ((0+1)+1) 1 (((([]:LI)++d0)++[s18.2.1]).length)]] wY Z Z Z Z)<|jL h λg32 h=>oA (EvA.appR (g:=false) (rows:=s18.1.map<|cL cI) (rows':=s18.1.map (cL cI)++[[hS QY 1 ((0+1)+1) 1 (((([]:LI)++d0)++[s18.2.1]).length)]]) (n':=s18.1.length+1) wY (by kernel_rfl) Z Z (by simp) nofun (bh.raw (rows:=[[hS QY 1 ((0+1)+1) 1 (((([]:LI)++d0)++[s18.2.1]).length)]]) Z Z Z) g32 Z Z) ?_;refine go h λ_ h=>?_;obtain rfl:=QG h;exact ⟨u20+1,trivial,n9 Z (.cons (.snoc qD<|.cons (.cons (.fz<|Fz.own (g:=false) (ver:=(0+1)+1) (l:=((([]:LI)++d0)++[s18.2.1])) Z Z Z nofun qD) .nil) .nil) .nil)<|aj (.eqv (congrArg (hS QY 0 (u20+1) 1) (by simp:(s18.1.length+1)=(s18.1++[((([]:LI)++d0)++[s18.2.1])]).length))<|.hS (g:=false) (b:=0) (ver:=u20+1) (s:=1) (n:=(s18.1++[((([]:LI)++d0)++[s18.2.1])]).length) Z)<|aj (.fz<|qC Z)<|aj (.fz<|qC Z)<|aj (.fz<|qC Z)<|aj (.fz<|qC Z)<|aj (.fz<|qC Z)<|aj (.fz<|qC Z) aF⟩
   refine go h λ_ h=>?_
   cases h
   exact ⟨u20,trivial,QU⟩
  refine jM<|lX h λh=>?_;obtain rfl:=QG h;exact ⟨(s18.1,s18.2.2),u20,ks9,trivial,QU⟩
 refine jM<|lX h λh=>?_;obtain rfl:=QG h;exact ⟨s5.1,u7,ks1,trivial,QU⟩
theorem AR (r_:LI) {q} (h:nM r_=QZ q):ax Q4 110 [eL cI r_] (eL cI q):=by
 refine pM func110 Z (by kernel_rfl) Z<|go h λ_ h=>?_;refine oN (QE.mkF (c:=cI) ([]:LI) [] je Z Z Z qD qD Z)<|go h λ_ h=>?_;refine T.jU h (λs1=>[(3,eL cI s1)]) (λs1=>[]) (λs1 h=>?_) λs1 h=>?_
 ·exact gz h
 refine go h λ_ h=>?_;refine tU h (λs4=>[(4,I s4.1),(3,eL cI s4.2),(0,eL cI r_)]) (λs4=>[]) λs4 ws4 h=>?_;refine QT h (λ_ q6 h=>?_) λ_ q6 h=>?_
 ·refine go h λ_ h=>?_;refine T.jU h (λs7=>[(3,eL cI s7),(4,I s4.1),(0,eL cI r_)]) (λs7=>[]) (λs7 h=>?_) λs7 h=>?_
  ·refine go h λ_ h=>?_;exact lE h QU
  refine go h λ_ h=>?_;refine oC h (λ_=>Cw _ _) Z Z Z Z λv8 _ h=>(go h λ_ h=>?_);refine TO.jB h 11 (λs9=>[(30,Bo s9),(5,eL cI v8),(4,I s4.1),(3,eL cI s4.2),(0,eL cI r_)]) (λs9=>[]) (λs9 q10 h js9=>?_) (λs9 q10 h js9=>?_) λs9 h=>?_
  ·refine go h λ_ h=>?_;refine TO.jB h 6 (λs11=>[(29,Bo s11),(23,Bo<|(s4.2.length:Int)==U),(22,Bo<|(s4.2.length:Int)==U),(21,I (s4.2.length:Int)),(20,eL cI s4.2),(19,Bo<|Q3<|U<(v8.length:Int)),(5,eL cI v8),(4,I s4.1),(3,eL cI s4.2),(0,eL cI r_)]) (λs11=>[]) (λs11 q12 h js11=>?_) (λs11 q12 h js11=>?_) λs11 h=>?_
   ·refine go h λ_ h=>?_;refine gN Z q10 (QE.pickT Z q12 (Bo QX) Z) ?_
    cases h
    exact js11 _ _ QU
   ·refine go h λ_ h=>?_;refine gN Z q10 (QE.pickF Z q12 (Bo<|Q3<|(v8.length:Int)<(s4.2.length:Int)) Z) ?_
    cases h
    exact js11 _ _ QU
   exact gj h js9
  ·exact gj h js9
  refine gi h (λ_ q13 h=>?_) λ_ q13 h=>?_
  ·refine go h λ_ h=>?_
   cases h
   exact ⟨(),trivial,QU⟩
  refine go h λ_ h=>?_
  cases h
  exact ⟨(),trivial,QU⟩
 refine jM<|lX h λh=>?_
 cases h
 exact ⟨(),trivial,QU⟩
theorem nA (from_:Int) (n:Int) {q} (h:dC from_ n=QZ q):ax Q4 245 [Y from_,I n] (St q):=by
 refine pM func245 Z (by kernel_rfl) Z<|gk h λ_ _ h=>?_;refine oA (EvA.b2s (l:=([(from_+n)]:LI)) Tryz.underlying22 Tryz.underlying5 Tryz.underlying9 (I4 Z)<|bh.fz (l:=([(from_+n)]:LI)) Z qD) ?_;exact gz h
theorem vR (x:QH) {q} (h:jr x=QZ q):ax Q4 246 [.agg (QH.c x)] (St q):=by
 refine pM func246 Z (by kernel_rfl) Z<|go h λ_ h=>?_;refine eF Z Z Z<|go h λ_ h=>?_;refine oC h (λ_=>nA _ _) Z Z Z Z λv1 _ h=>(go h λ_ h=>?_);refine oC h (λ_=>nA _ _) Z Z Z Z λv2 _ h=>(go h λ_ h=>?_);refine QT h (λ_ q3 h=>?_) λ_ q3 h=>?_
 ·exact gz h
 refine gi h (λ_ q6 h=>?_) λ_ q6 h=>?_
 ·refine go h λ_ h=>?_;refine oC h (λ_=>mD _) Z Z Z Z λv8 _ h=>?_;exact gz h
 refine gi h (λ_ q10 h=>?_) λ_ q10 h=>?_
 ·exact gz h
 refine gi h (λ_ q13 h=>?_) λ_ q13 h=>?_
 ·refine go h λ_ h=>?_;refine oC h (λ_=>mD _) Z Z Z Z λv17 _ h=>?_;exact gz h
 exact gz h
theorem zO (p:List<|List QH) (e_:QJ) {q} (h:fT p e_=QZ q):ax Q4 180 [eL (cL QH.c) p,.agg (QJ.c e_)] (St q):=by
 refine pM func180 Z (by kernel_rfl) Z<|go h λ_ h=>?_;refine eF Z Z Z<|go h λ_ h=>?_;refine QT h (λ_ q1 h=>?_) λ_ q1 h=>?_
 ·refine go h λ_ h=>?_;refine oC h (λ_=>nA _ _) Z Z Z Z λv2 _ h=>?_;exact gz h
 refine go h λ_ h=>?_;refine jH<|T.drawP (by kernel_rfl) (by kernel_rfl) ?_;refine go h λ_ h=>?_;refine fC h (λ_=>mD _) Z Z Z Z Z λv4 _ h=>(go h λ_ h=>?_);refine fC h (λ_=>vR _) Z Z Z Z Z λv8 _ h=>?_;exact gz h
theorem zP (p:List<|List QH) (list:LI) {q} (h:lW p list=QZ q):ax Q4 109 [eL (cL QH.c) p,eL cI list] (St q):=by
 refine pM func109 Z (by kernel_rfl) Z<|go h λ_ h=>?_;refine oC h (λ_=>gD _) Z Z Z Z λv1 _ h=>(go h λ_ h=>?_);refine T.jU h (λs2=>[(6,St s2)]) (λs2=>[]) (λs2 h=>?_) λs2 h=>?_
 ·exact gz h
 refine go h λ_ h=>?_;refine tU h (λs5=>[(7,I s5.1),(6,St s5.2),(5,eL QJ.c v1),(0,eL (cL QH.c) p),(1,eL cI list)]) (λs5=>[]) λs5 ws5 h=>?_;refine QT h (λ_ q7 h=>?_) λ_ q7 h=>?_
 ·refine go h λ_ h=>?_;refine gs h λ_ h=>?_;refine T.jU h (λs8=>[(6,St s8),(7,I s5.1),(5,eL QJ.c v1),(0,eL (cL QH.c) p),(1,eL cI list)]) (λs8=>[]) (λs8 h=>?_) λs8 h=>?_
  ·refine go h λ_ h=>?_;refine oC h (λ_=>zO _ _) Z Z Z Z λv13 _ h=>(go h λ_ h=>?_);exact lE h QU
  refine gi h (λ_ q9 h=>?_) λ_ q9 h=>?_
  ·refine go h λ_ h=>?_
   cases h
   exact ⟨(),trivial,QU⟩
  refine go h λ_ h=>?_
  cases h
  exact ⟨(),trivial,QU⟩
 refine jM<|lX h λh=>?_
 cases h
 exact ⟨(),trivial,QU⟩
theorem AU (p:List<|List QH) (x:QI) (m:List ah) {q} (h:fq p x m=QZ q):ax Q4 48 [eL (cL QH.c) p,.agg (QI.c x),eL ah.c m] (St q):=by
 refine pM func48 Z (by kernel_rfl) Z<|go h λ_ h=>?_;refine eF Z Z Z<|go h λ_ h=>?_;refine oC h (λ_=>zM _ _) Z Z Z Z λv1 _ h=>(go h λ_ h=>?_);refine QT h (λ_ q2 h=>?_) λ_ q2 h=>?_
 ·exact gz h
 refine go h λ_ h=>?_;refine oC h (λ_=>zN _ _ _) Z Z Z Z λv3 _ h=>(go h λ_ h=>?_);refine QT h (λ_ q4 h=>?_) λ_ q4 h=>?_
 ·exact gz h
 refine go h λ_ h=>?_;refine oC h (λ_=>mD _) Z Z Z Z λv5 _ h=>(go h λ_ h=>?_);refine T.jU h (λs7=>[(10,St s7)]) (λs7=>[]) (λs7 h=>?_) λs7 h=>?_
 ·exact gz h
 refine go h λf h=>?_;obtain ⟨g8,_⟩:=f;refine jN Z h (λq9 h=>?_) λq9 h=>?_
 ·refine T.drawP (by kernel_rfl) (by kernel_rfl)<|go h λ_ h=>?_;refine fC h (λ_=>vQ _ _ _) Z Z Z Z Z λv11 _ h=>fC h (λ_=>AR _) Z Z Z Z Z λv12 _ h=>fC h (λ_=>zP _ _) Z Z Z Z Z λv13 _ h=>(go h λ_ h=>?_)
  cases h
  exact ⟨(),trivial,QU⟩
 refine go h λ_ h=>?_
 cases h
 exact ⟨(),trivial,QU⟩
theorem pu (p:List<|List QH) (x:QI) (m:List ah) {q} (h:bv p x m=QZ q):ax Q4 18 [eL (cL QH.c) p,.agg (QI.c x),eL ah.c m] (St q):=by
 refine pM func18 Z (by kernel_rfl) Z<|go h λ_ h=>?_;refine eF Z Z Z<|go h λ_ h=>?_;refine gs h λ_ h=>?_;refine oC h (λ_=>yA _ _) Z Z Z Z λv1 _ h=>(go h λ_ h=>?_);refine TO.jB h 4 (λs2=>[(15,Bo s2),(4,.fp (QI.c x) 0),(0,eL (cL QH.c) p),(2,eL ah.c m)]) (λs2=>[]) (λs2 q3 h js2=>?_) (λs2 q3 h js2=>?_) λs2 h=>?_
 ·exact gj h js2
 ·refine go h λ_ h=>?_;refine jB h λv4 cv4 h=>gN Z q3 (QE.call Z Z Z (qP m cv4) Z) ?_;exact gj h js2
 refine gi h (λ_ q5 h=>?_) λ_ q5 h=>?_
 ·exact gz h
 refine go h λ_ h=>?_;refine oC h (λ_=>AU _ _ _) Z Z Z Z λv6 _ h=>?_;exact gz h
theorem zQ (p:List<|List QH) (x:QI) {q} (h:lY p x=QZ q):ax Q4 17 [eL (cL QH.c) p,.agg (QI.c x)] (.tup [eL cI q.1,Bo q.2]):=by
 refine pM func17 Z (by kernel_rfl) Z<|go h λ_ h=>?_;refine eF Z Z Z<|go h λ_ h=>?_;refine gs h λ_ h=>?_;refine oC h (λ_=>mo _ _) Z Z Z Z λv1 _ h=>?_;refine gi h (λ_ q2 h=>?_) λ_ q2 h=>?_
 ·exact gf h
 refine go h λ_ h=>?_;refine oC h (λ_=>tG _ _) Z Z Z Z λv3 _ h=>?_;exact gf h
theorem zR:∀ (nf:Nat) (events:List QJ) (i:Int) {q} (h:ig nf events i=QZ q),ax Q4 195 [eL QJ.c events,I i] (eL (cL cI) q):=by
 intro nf
 induction nf with
 | zero=>intros;rename_i h;cases h
 | succ nf ih=>
  intro events i q h;replace h:dS (ig nf) events i=QZ q:=h;refine pM func195 Z (by kernel_rfl) Z<|go h λ_ h=>?_;refine QT h (λ_ q1 h=>?_) λ_ q1 h=>?_
  ·refine go h λ_ h=>?_;refine oN (QE.mkF (c:=cI) ([]:LI) [] je Z Z Z qD qD Z)<|gk h λ_ _ h=>?_;exact gz h
  refine go h λ_ h=>?_;refine oC h (λ_=>ih _ _) Z Z Z Z λv3 _ h=>(gk h λ_ _ h=>?_);refine T.jU h (λs4=>[(6,eL cI s4),(5,eL (cL cI) v3),(1,I i)]) (λs4=>[]) (λs4 h=>?_) λs4 h=>?_
  ·refine go h λ_ h=>?_;refine oA (EvA.mkO (c:=(cL cI)) ([]:LL) [] wY Z Z Z qD Z Z)<|go h λ_ h=>?_;refine tJ h (λs8 gh=>[(7,hS QY 0 gh 1 s8.length)]) (λs8 gh=>[bE QY gh 1 24 (s8.map<|cL cI)]) (λs8 u34 h=>?_) λs8 h=>?_
   ·refine go h λ_ h=>?_;obtain rfl:=QG h
    repeat (first|refine jh ?_|refine ji ?_)
    exact jQ (vs:=[hS QY 0 u34 1 s8.length]) (.cons (.tmp Z) .nil)<|Fz.own (g:=false) (ver:=u34) (l:=s8) Z Z Z nofun qD
   refine go h λ_ h=>?_;refine tT h 0 (λs12 gh=>[(8,I s12.2),(7,hS QY 0 gh 1 s12.1.length),(6,eL cI s4),(5,eL (cL cI) v3),(1,I i)]) (λs12 gh=>[bE QY gh 1 24 (s12.1.map<|cL cI)]) λs12 u14 ws12 h=>?_;let d0:=s4.getD s12.2.toNat QW;refine QT h (λ_ q15 h=>?_) λ_ q15 h=>?_
   ·refine go h λ_ h=>?_;refine tJ h (λs16 gh=>[(8,I s12.2),(7,hS QY 0 gh 1 s16.length),(6,eL cI s4),(5,eL (cL cI) v3),(1,I i)]) (λs16 gh=>[bE QY gh 1 24 (s16.map<|cL cI)]) (λs16 u32 h=>?_) λs16 h=>?_
    ·refine go h λ_ h=>?_;obtain rfl:=QG h;exact ⟨(s16,(s12.2+V)),u32,Z,trivial,QU⟩
    refine go h λ_ h=>?_;refine tT h u14 (λs20 gh=>[(9,I s20.2),(8,I s12.2),(7,hS QY 0 gh 1 s20.1.length),(6,eL cI s4),(5,eL (cL cI) v3),(1,I i)]) (λs20 gh=>[bE QY gh 1 24 (s20.1.map<|cL cI)]) λs20 u22 ws20 h=>?_;refine gs h λ_ h=>?_;refine TO.jB h 7 (λs23=>[(51,Bo s23),(9,I s20.2),(8,I s12.2),(7,hS QY 0 u22 1 s20.1.length),(6,eL cI s4),(5,eL (cL cI) v3),(1,I i)]) (λs23=>[bE QY u22 1 24 (s20.1.map<|cL cI)]) (λs23 q24 h js23=>?_) (λs23 q24 h js23=>?_) λs23 h=>?_
    ·exact gj h js23
    ·exact gj h js23
    refine gi h (λ_ q26 h=>?_) λ_ q26 h=>?_
    ·refine go h λ_ h=>?_;refine gs h λ_ h=>?_;refine T.drawX [0,1,2,3,4,6,7,8,9,5,10,11,12,13] (λi=>([(QY,[]),(QY,[]),(QY,[]),(QY,[]),(QY,[]),(QX,[]),(QY,[]),(QY,[]),(QY,[]),(QY,[]),(QX,[1]),(QX,[]),(QX,[0]),(QY,[])]:List Xc).getD i (QY,[])) (by kernel_rfl) (by kernel_rfl) (by kernel_rfl)<|go h λ_ h=>?_;refine xA Z Z (EvA.mkO (c:=cI) ([d0]:LI) [[I d0]] je Z Z Z qD Z Z) pE<|jL h λg29 h=>xA Z Z (EvA.appF (l:=([d0]:LI)) (J v3 s20.2) je (by kernel_rfl) Z Z Z (bh.fz (l:=(J v3 s20.2)) Z qD) g29) bM<|xA Z Z (EvA.mkR [[hS QY 1 (0+1) 1 ((([d0]:LI)++(J v3 s20.2)).length)]] wY Z Z Z Z) pE<|jL h λg30 h=>xA Z Z (EvA.appR (g:=false) (rows:=s20.1.map<|cL cI) (rows':=s20.1.map (cL cI)++[[hS QY 1 (0+1) 1 ((([d0]:LI)++(J v3 s20.2)).length)]]) (n':=s20.1.length+1) wY (by kernel_rfl) Z Z (by simp) nofun (bh.raw (rows:=[[hS QY 1 (0+1) 1 ((([d0]:LI)++(J v3 s20.2)).length)]]) Z Z Z) g30 Z Z) bM ?_;refine gq h λ_ h=>?_;refine T.cut (e0:=ai [(7,hS QY 0 (u22+1) 1<|(s20.1++[(([d0]:LI)++(J v3 s20.2))]).length),(9,I s20.2),(8,I s12.2),(6,eL cI s4),(5,eL (cL cI) v3),(1,I i)]) (H0:=[bE QY (u22+1) 1 24 ((s20.1++[(([d0]:LI)++(J v3 s20.2))]).map<|cL cI)]) (n9 Z (.cons (.snoc qD<|.cons (.cons (.fz<|Fz.own (g:=false) (ver:=0+1) (l:=(([d0]:LI)++(J v3 s20.2))) Z Z Z nofun qD) .nil) .nil) .nil)<|aj (.eqv (congrArg (hS QY 0 (u22+1) 1) (by simp:(s20.1.length+1)=(s20.1++[(([d0]:LI)++(J v3 s20.2))]).length))<|.hS (g:=false) (b:=0) (ver:=u22+1) (s:=1) (n:=(s20.1++[(([d0]:LI)++(J v3 s20.2))]).length) Z)<|aj (.fz<|qC Z)<|aj (.fz<|qC Z)<|aj (.fz<|qC Z)<|aj (.fz<|qC Z)<|aj (.fz<|qC Z) aF)<|go h λ_ h=>?_;obtain rfl:=QG h;exact ⟨((s20.1++[(([d0]:LI)++(J v3 s20.2))]),(s20.2+V)),u22+1,Z,trivial,QU⟩
    refine jM<|lX h λh=>?_
    cases h
    exact ⟨u22,trivial,QU⟩
   refine jM<|lX h λh=>?_
   cases h
   exact ⟨u14,trivial,QU⟩
  refine go h λf h=>?_;obtain ⟨g5,_⟩:=f;refine jN Z h (λq6 h=>?_) λq6 h=>?_
  ·refine go h λ_ h=>?_;refine oC h (λ_=>iP _ _) Z Z Z Z λv7 _ h=>(go h λ_ h=>?_)
   cases h
   exact ⟨(),trivial,QU⟩
  refine go h λ_ h=>?_
  cases h
  exact ⟨(),trivial,QU⟩
theorem AX (events:List QJ) (i:Int) {q} (h:rS events i=QZ q):ax Q4 195 [eL QJ.c events,I i] (eL (cL cI) q):=by
 obtain ⟨nf,h⟩:=lG h;exact zR nf events i h
theorem zS:∀ (nf:Nat) (list:LI) {q} (h:ij nf list=QZ q),ax Q4 249 [eL cI list] (eL (cL cI) q):=by
 intro nf
 induction nf with
 | zero=>intros;rename_i h;cases h
 | succ nf ih=>
  intro list q h;replace h:dU (ij nf) list=QZ q:=h;refine pM func249 Z (by kernel_rfl) Z<|go h λ_ h=>?_;refine QT h (λ_ q1 h=>?_) λ_ q1 h=>?_
  ·refine go h λ_ h=>?_;refine oN (QE.mkF (c:=cI) ([]:LI) [] je Z Z Z qD qD Z)<|gk h λ_ _ h=>?_;exact gz h
  refine go h λ_ h=>?_;refine oA (EvA.mkO (c:=(cL cI)) ([]:LL) [] wY Z Z Z qD Z Z)<|go h λ_ h=>?_;refine tJ h (λs2 gh=>[(3,hS QY 0 gh 1 s2.length)]) (λs2 gh=>[bE QY gh 1 24 (s2.map<|cL cI)]) (λs2 u31 h=>?_) λs2 h=>?_
  ·refine go h λ_ h=>?_;obtain rfl:=QG h
   repeat (first|refine jh ?_|refine ji ?_)
   exact jQ (vs:=[hS QY 0 u31 1 s2.length]) (.cons (.tmp Z) .nil)<|Fz.own (g:=false) (ver:=u31) (l:=s2) Z Z Z nofun qD
  refine go h λ_ h=>?_;refine tT h 0 (λs6 gh=>[(4,I s6.2),(3,hS QY 0 gh 1 s6.1.length),(0,eL cI list)]) (λs6 gh=>[bE QY gh 1 24 (s6.1.map<|cL cI)]) λs6 u8 ws6 h=>?_;let d0:=list.getD s6.2.toNat QW;refine QT h (λ_ q9 h=>?_) λ_ q9 h=>?_
  ·refine go h λ_ h=>?_;refine tJ h (λs10 gh=>[(4,I s6.2),(3,hS QY 0 gh 1 s10.length),(0,eL cI list)]) (λs10 gh=>[bE QY gh 1 24 (s10.map<|cL cI)]) (λs10 u29 h=>?_) λs10 h=>?_
   ·refine go h λ_ h=>?_;obtain rfl:=QG h;exact ⟨(s10,(s6.2+V)),u29,Z,trivial,QU⟩
   refine jE<|jH<|T.reserve<|T.drawH (dG [([1],QX),dF,dF,dF,([1],QX),dF,dF,dF,dF,([1],QX),dF]) (by kernel_rfl) (by kernel_rfl)<|fW 1 [] Z Z (λG hG=>EvA.mkOR (c:=cI) 1 ([]:LI) [] je Z Z Z qD qD Z<|hG.a0 Z) ?_;refine go h λ_ h=>?_;refine jD h λg11 h=>fN Z (QE.slL je Z .no (.yes Z) g11 qD)<|jL h λg12 h=>fW 1 [] Z Z (λG hG=>EvA.appF (l:=([]:LI)) ((list.drop U.toNat).take<|s6.2.toNat-U.toNat) je (by kernel_rfl) Z Z (hG.a0 Z) (bh.fz (l:=((list.drop U.toNat).take<|s6.2.toNat-U.toNat)) Z qD) g12) ?_;refine go h λ_ h=>?_;refine jD h λg14 h=>fN Z (QE.slL je Z (.yes Z) .no g14 qD)<|jL h λg15 h=>fW 1 [] Z Z (λG hG=>EvA.appF (l:=(([]:LI)++((list.drop U.toNat).take<|s6.2.toNat-U.toNat))) ((list.drop (s6.2+V).toNat).take<|(list.length:Int).toNat-(s6.2+V).toNat) je (by kernel_rfl) Z Z (hG.a0 Z) (bh.fz (l:=((list.drop (s6.2+V).toNat).take<|(list.length:Int).toNat-(s6.2+V).toNat)) Z qD) g15)<|fN Z (QE.asg (hS QY 1 ((0+1)+1) 1<|((([]:LI)++((list.drop U.toNat).take<|s6.2.toNat-U.toNat))++((list.drop (s6.2+V).toNat).take<|(list.length:Int).toNat-(s6.2+V).toNat)).length) Z)<|jR<|jI<|oN mv<|TO.cut (e0:=ai [(30,eL cI<|(([]:LI)++((list.drop U.toNat).take<|s6.2.toNat-U.toNat))++((list.drop (s6.2+V).toNat).take<|(list.length:Int).toNat-(s6.2+V).toNat)),(4,I s6.2),(3,hS QY 0 u8 1 s6.1.length),(0,eL cI list)]) (H0:=[bE QY u8 1 24 (s6.1.map<|cL cI)]) (n9 Z (.cons (.list (g:=false) (ver:=u8) (l:=s6.1) qD) .nil)<|aj (.fz<|Fz.own (g:=false) (ver:=(0+1)+1) (l:=((([]:LI)++((list.drop U.toNat).take<|s6.2.toNat-U.toNat))++((list.drop (s6.2+V).toNat).take<|(list.length:Int).toNat-(s6.2+V).toNat))) Z Z Z nofun qD)<|aj (.fz<|qC Z)<|aj (.hS (g:=false) (b:=0) (ver:=u8) (s:=1) (n:=s6.1.length) Z)<|aj (.fz<|qC Z) aF)<|oC h (λ_=>ih _) Z Z Z Z λv16 _ h=>?_;refine go h λ_ h=>?_;refine tT h u8 (λs20 gh=>[(7,I s20.2),(6,eL (cL cI) v16),(4,I s6.2),(3,hS QY 0 gh 1 s20.1.length),(0,eL cI list)]) (λs20 gh=>[bE QY gh 1 24 (s20.1.map<|cL cI)]) λs20 u22 ws20 h=>?_;refine QT h (λ_ q23 h=>?_) λ_ q23 h=>?_
   ·refine go h λ_ h=>?_;refine gs h λ_ h=>?_;refine T.drawX [0,1,2,3,4,6,7,8,9,5,10,11,12,13] (λi=>([(QY,[]),(QY,[]),(QY,[]),(QY,[]),(QY,[]),(QX,[]),(QY,[]),(QY,[]),(QY,[]),(QY,[]),(QX,[1]),(QX,[]),(QX,[0]),(QY,[])]:List Xc).getD i (QY,[])) (by kernel_rfl) (by kernel_rfl) (by kernel_rfl)<|go h λ_ h=>?_;refine xA Z Z (EvA.mkO (c:=cI) ([d0]:LI) [[I d0]] je Z Z Z qD Z Z) pE<|jL h λg26 h=>xA Z Z (EvA.appF (l:=([d0]:LI)) (J v16 s20.2) je (by kernel_rfl) Z Z Z (bh.fz (l:=(J v16 s20.2)) Z qD) g26) bM<|xA Z Z (EvA.mkR [[hS QY 1 (0+1) 1 ((([d0]:LI)++(J v16 s20.2)).length)]] wY Z Z Z Z) pE<|jL h λg27 h=>xA Z Z (EvA.appR (g:=false) (rows:=s20.1.map<|cL cI) (rows':=s20.1.map (cL cI)++[[hS QY 1 (0+1) 1 ((([d0]:LI)++(J v16 s20.2)).length)]]) (n':=s20.1.length+1) wY (by kernel_rfl) Z Z (by simp) nofun (bh.raw (rows:=[[hS QY 1 (0+1) 1 ((([d0]:LI)++(J v16 s20.2)).length)]]) Z Z Z) g27 Z Z) bM ?_;refine gq h λ_ h=>?_;refine T.cut (e0:=ai [(3,hS QY 0 (u22+1) 1<|(s20.1++[(([d0]:LI)++(J v16 s20.2))]).length),(7,I s20.2),(6,eL (cL cI) v16),(4,I s6.2),(0,eL cI list)]) (H0:=[bE QY (u22+1) 1 24 ((s20.1++[(([d0]:LI)++(J v16 s20.2))]).map<|cL cI)]) (n9 Z (.cons (.snoc qD<|.cons (.cons (.fz<|Fz.own (g:=false) (ver:=0+1) (l:=(([d0]:LI)++(J v16 s20.2))) Z Z Z nofun qD) .nil) .nil) .nil)<|aj (.eqv (congrArg (hS QY 0 (u22+1) 1) (by simp:(s20.1.length+1)=(s20.1++[(([d0]:LI)++(J v16 s20.2))]).length))<|.hS (g:=false) (b:=0) (ver:=u22+1) (s:=1) (n:=(s20.1++[(([d0]:LI)++(J v16 s20.2))]).length) Z)<|aj (.fz<|qC Z)<|aj (.fz<|qC Z)<|aj (.fz<|qC Z)<|aj (.fz<|qC Z) aF)<|go h λ_ h=>?_;obtain rfl:=QG h;exact ⟨((s20.1++[(([d0]:LI)++(J v16 s20.2))]),(s20.2+V)),u22+1,Z,trivial,QU⟩
   refine jM<|lX h λh=>?_
   cases h
   exact ⟨u22,trivial,QU⟩
  refine jM<|lX h λh=>?_
  cases h
  exact ⟨u8,trivial,QU⟩
theorem AY (list:LI) {q} (h:rT list=QZ q):ax Q4 249 [eL cI list] (eL (cL cI) q):=by
 obtain ⟨nf,h⟩:=lG h;exact zS nf list h
theorem yL:∀ (nf:Nat) (events:List QJ) (loc:Int) {q} (h:fU nf events loc=QZ q),ax Q4 196 [eL QJ.c events,I loc] (eL (cL<|cL cI) q):=by
 intro nf
 induction nf with
 | zero=>intros;rename_i h;cases h
 | succ nf ih=>
  intro events loc q h;replace h:dx (fU nf) events loc=QZ q:=h;refine pM func196 Z (by kernel_rfl) Z<|go h λ_ h=>?_;refine QT h (λ_ q1 h=>?_) λ_ q1 h=>?_
  ·refine go h λ_ h=>?_;refine oN (QE.mkF (c:=(cL cI)) ([]:LL) [] wY Z Z Z qD qD Z)<|gk h λ_ _ h=>?_;exact gz h
  refine go h λ_ h=>?_;refine oC h (λ_=>ih _ _) Z Z Z Z λv3 _ h=>(go h λ_ h=>?_);refine oC h (λ_=>iP _ _) Z Z Z Z λv4 _ h=>(go h λ_ h=>?_);refine jD h λg5 h=>oN (QE.slL je Z (.yes Z) .no g5 qD)<|oC h (λ_=>AY _) Z Z Z Z λv6 _ h=>?_;refine go h λ_ h=>?_;refine oA (EvA.mkO (c:=(cL<|cL cI)) ([]:List<|LL) [] Ki Z Z Z qD Z Z)<|go h λ_ h=>?_;refine tJ h (λs7 gh=>[(8,hS QY 0 gh 1 s7.length)]) (λs7 gh=>[bE QY gh 1 25 (s7.map<|cL<|cL cI)]) (λs7 u32 h=>?_) λs7 h=>?_
  ·refine T.cut (e0:=ai [(8,eL (cL<|cL cI) s7)]) (H0:=[]) (n9 Z .nil<|aj (.fz<|Fz.own (g:=false) (ver:=u32) (l:=s7) Z Z Z nofun qD) aF) ?_;exact gz h
  refine go h λ_ h=>?_;refine tT h 0 (λs11 gh=>[(9,I s11.2),(8,hS QY 0 gh 1 s11.1.length),(7,eL (cL cI) v6),(6,eL cI v4),(5,eL (cL<|cL cI) v3)]) (λs11 gh=>[bE QY gh 1 25 (s11.1.map<|cL<|cL cI)]) λs11 u13 ws11 h=>?_;refine QT h (λ_ q14 h=>?_) λ_ q14 h=>?_
  ·refine go h λ_ h=>?_;refine tJ h (λs15 gh=>[(9,I s11.2),(8,hS QY 0 gh 1 s15.length),(7,eL (cL cI) v6),(6,eL cI v4),(5,eL (cL<|cL cI) v3)]) (λs15 gh=>[bE QY gh 1 25 (s15.map<|cL<|cL cI)]) (λs15 u30 h=>?_) λs15 h=>?_
   ·refine go h λ_ h=>?_;obtain rfl:=QG h;exact ⟨(s15,(s11.2+V)),u30,Z,trivial,QU⟩
   refine jE<|jH<|T.reserve<|jP (dG [dF,dF,dF,([1],QX),dF,dF,dF,dF,([1],QX),dF]) (by kernel_rfl) (by kernel_rfl) ?_;refine go h λ_ h=>?_;refine fW 1 [] Z Z (λG hG=>EvA.mkOR (c:=cI) 1 ([(J v4 U)]:LI) [[I (J v4 U)]] je Z Z Z qD qD Z<|hG.a0 Z)<|go h λ_ h=>?_;refine jL h λg18 h=>fW 1 [] Z Z (λG hG=>EvA.appF (l:=([(J v4 U)]:LI)) (J v6 s11.2) je (by kernel_rfl) Z Z (hG.a0 Z) (bh.fz (l:=(J v6 s11.2)) Z qD) g18)<|fN Z (QE.asg (hS QY 1 (0+1) 1<|(([(J v4 U)]:LI)++(J v6 s11.2)).length) Z)<|jR<|jI<|oN as'<|TO.cut (e0:=ai [(11,I U),(10,eL cI<|([(J v4 U)]:LI)++(J v6 s11.2)),(9,I s11.2),(8,hS QY 0 u13 1 s11.1.length),(7,eL (cL cI) v6),(6,eL cI v4),(5,eL (cL<|cL cI) v3)]) (H0:=[bE QY u13 1 25 (s11.1.map<|cL<|cL cI)]) (n9 Z (.cons (.list (g:=false) (ver:=u13) (l:=s11.1) qD) .nil)<|aj (.fz<|qC Z)<|aj (.fz<|Fz.own (g:=false) (ver:=0+1) (l:=(([(J v4 U)]:LI)++(J v6 s11.2))) Z Z Z nofun qD)<|aj (.fz<|qC Z)<|aj (.hS (g:=false) (b:=0) (ver:=u13) (s:=1) (n:=s11.1.length) Z)<|aj (.fz<|qC Z)<|aj (.fz<|qC Z)<|aj (.fz<|qC Z) aF) ?_;refine go h λ_ h=>?_;refine tT h u13 (λs22 gh=>[(11,I s22.2),(10,eL cI<|([(J v4 U)]:LI)++(J v6 s11.2)),(9,I s11.2),(8,hS QY 0 gh 1 s22.1.length),(7,eL (cL cI) v6),(6,eL cI v4),(5,eL (cL<|cL cI) v3)]) (λs22 gh=>[bE QY gh 1 25 (s22.1.map<|cL<|cL cI)]) λs22 u24 ws22 h=>?_;refine QT h (λ_ q25 h=>?_) λ_ q25 h=>?_
   ·refine go h λ_ h=>?_;refine gs h λ_ h=>?_;refine oA (EvA.mkO (c:=(cL cI)) ([(([(J v4 U)]:LI)++(J v6 s11.2))]:LL) [[eL cI (([(J v4 U)]:LI)++(J v6 s11.2))]] wY Z Z Z qD Z Z)<|go h λ_ h=>?_;refine oA (EvA.mkR [[hS QY 1 (0+1) 1 ((([(([(J v4 (0:Int))]:LI)++(J v6 s11.2))]:LL)++(J v3 s22.2)).length)]] Ki Z Z Z Z)<|jL h λg28 h=>oA (EvA.appR (g:=false) (rows:=s22.1.map<|cL<|cL cI) (rows':=s22.1.map (cL<|cL cI)++[[hS QY 1 (0+1) 1 ((([(([(J v4 (0:Int))]:LI)++(J v6 s11.2))]:LL)++(J v3 s22.2)).length)]]) (n':=s22.1.length+1) Ki (by kernel_rfl) Z Z (by simp) nofun (bh.raw (rows:=[[hS QY 1 (0+1) 1 ((([(([(J v4 (0:Int))]:LI)++(J v6 s11.2))]:LL)++(J v3 s22.2)).length)]]) Z Z Z) g28 Z Z) ?_;refine gq h λ_ h=>?_;refine T.cut (e0:=ai [(8,hS QY 0 (u24+1) 1<|(s22.1++[(([(([(J v4 (0:Int))]:LI)++(J v6 s11.2))]:LL)++(J v3 s22.2))]).length),(11,I s22.2),(10,eL cI<|([(J v4 (0:Int))]:LI)++(J v6 s11.2)),(9,I s11.2),(7,eL (cL cI) v6),(6,eL cI v4),(5,eL (cL<|cL cI) v3)]) (H0:=[bE QY (u24+1) 1 25 ((s22.1++[(([(([(J v4 (0:Int))]:LI)++(J v6 s11.2))]:LL)++(J v3 s22.2))]).map<|cL<|cL cI)]) (n9 Z (.cons (.snoc qD<|.cons (.cons (.fz<|Fz.own (g:=false) (ver:=0+1) (l:=(([(([(J v4 (0:Int))]:LI)++(J v6 s11.2))]:LL)++(J v3 s22.2))) Z Z Z nofun qD) .nil) .nil) .nil)<|aj (.eqv (congrArg (hS QY 0 (u24+1) 1) (by simp:(s22.1.length+1)=(s22.1++[(([(([(J v4 (0:Int))]:LI)++(J v6 s11.2))]:LL)++(J v3 s22.2))]).length))<|.hS (g:=false) (b:=0) (ver:=u24+1) (s:=1) (n:=(s22.1++[(([(([(J v4 (0:Int))]:LI)++(J v6 s11.2))]:LL)++(J v3 s22.2))]).length) Z)<|aj (.fz<|qC Z)<|aj (.fz<|qC Z)<|aj (.fz<|qC Z)<|aj (.fz<|qC Z)<|aj (.fz<|qC Z)<|aj (.fz<|qC Z) aF)<|go h λ_ h=>?_;obtain rfl:=QG h;exact ⟨((s22.1++[(([(([(J v4 U)]:LI)++(J v6 s11.2))]:LL)++(J v3 s22.2))]),(s22.2+V)),u24+1,Z,trivial,QU⟩
   refine jM<|lX h λh=>?_
   cases h
   exact ⟨u24,trivial,QU⟩
  refine jM<|lX h λh=>?_
  cases h
  exact ⟨u13,trivial,QU⟩
theorem zT (events:List QJ) (loc:Int) {q} (h:qB events loc=QZ q):ax Q4 196 [eL QJ.c events,I loc] (eL (cL<|cL cI) q):=by
 obtain ⟨nf,h⟩:=lG h;exact yL nf events loc h
theorem Cy (x:QI) {q} (h:lZ x=QZ q):ax Q4 128 [.agg (QI.c x)] (.agg<|QI.c q):=by
 refine pM func128 Z (by kernel_rfl) Z<|jI<|oN (QE.bxF [eL cI x.From,eL (cL cI) x.Order] Z Z Z)<|oA (EvA.al Gx Z Z)<|jA<|jH<|T.reserve<|jC<|oA (EvA.mkO (c:=cI) ([]:LI) [] je Z Z Z qD Z Z)<|oN (fa Aj Z)<|oN (lf (eL cI x.From) El Z)<|jL h λg1 h=>oA (EvA.appF (l:=([]:LI)) x.From je (by kernel_rfl) Z Z Z (bh.fz (l:=x.From) Z qD) g1)<|oN (QE.build [hS QY 2 (0+1) 1 ((([]:LI)++x.From).length),hS QX 1 0 1 (([]:LL).length)] Tryz.underlying27 Gx Aj Z Z)<|oA (EvA.al Gx Z Z)<|oV (sr [hS QY 2 (0+1) 1 ((([]:LI)++x.From).length),hS QX 1 0 1 (([]:LL).length)] yx Z Z Z Z) ?_;refine jA ?_;refine T.jF (G:=(Bool×Nat)) h (λs2 gh=>(gh.1=QX->s2=[])) (λs2 gh=>[(3,.hp 3 0 2 0 0),(2,.hp 0 0 2 0 0)]) (λs2 gh=>[QZ ⟨0,2,27,[[.nil,.nil]]⟩,bE gh.1 gh.2 1 24 (s2.map<|cL cI),bE QY (0+1) 1 3 ((([]:LI)++x.From).map cI),QZ ⟨0,2,27,[[hS QY 2 (0+1) 1 ((([]:LI)++x.From).length),hS gh.1 1 gh.2 1 s2.length]]⟩]) (λs2 gh h n20=>?_) λs2 h=>?_
 ·obtain ⟨b19,u18⟩:=gh;refine jI<|oA (lh (.agg [hS QY 2 (0+1) 1 ((([]:LI)++x.From).length),hS b19 1 u18 1 s2.length]) yx Z Z Z)<|oV (EvA.st (cs:=[hS QY 2 (0+1) 1 ((([]:LI)++x.From).length),hS b19 1 u18 1 s2.length]) ⟨0,2,27,[[hS QY 2 (0+1) 1 ((([]:LI)++x.From).length),hS b19 1 u18 1 s2.length]]⟩ yx Z (by generalize b19=gq0;cases gq0 <;> rfl) Z Z Z Z Z Z Z)<|jA<|jK ?_;obtain rfl:=QG h
  repeat (first|refine jh ?_|refine ji ?_)
  exact jQ (vs:=[.agg [hS QY 2 (0+1) 1 ((([]:LI)++x.From).length),hS b19 1 u18 1 s2.length]]) (.cons (.cell (.agg [hS QY 2 (0+1) 1 ((([]:LI)++x.From).length),hS b19 1 u18 1 s2.length]) yx Z Z Z Z Z Z) .nil)<|Fz.aggL<|.cons (Fz.own (g:=false) (ver:=0+1) (l:=(([]:LI)++x.From)) Z Z Z nofun qD)<|.cons (Fz.own (g:=b19) (ver:=u18) (l:=s2) Z Z Z n20 qD) .nil
 refine jI<|oN as'<|jA<|jE ?_;refine jO (S:=(LL)×Int) (G:=(Bool×Nat)) (om x) (λs8 gh=>(gh.1=QX->s8.1=[])) (λs8 gh=>[(4,I s8.2),(3,.hp 3 0 2 0 0),(2,.hp 0 0 2 0 0),(1,.fp (QI.c x) 0)]) (λs8 gh=>[QZ ⟨0,2,27,[[.nil,.nil]]⟩,bE gh.1 gh.2 1 24 (s8.1.map<|cL cI),bE QY (0+1) 1 3 ((([]:LI)++x.From).map cI),QZ ⟨0,2,27,[[hS QY 2 (0+1) 1 ((([]:LI)++x.From).length),hS gh.1 1 gh.2 1 s8.1.length]]⟩]) (s0:=(([]:LL),U)) (QX,0) h qD (kw Z Z) λs8 gh ws8 h n12=>?_;let d0:=x.Order.getD s8.2.toNat QW;obtain ⟨b11,u10⟩:=gh;refine jH<|jI<|oN mv<|oN (fa Aj Z)<|oN (lf (eL (cL cI) x.Order) Ev Z)<|oN (QE.lenL wY Z)<|oN (QE.ilt Z Z)<|jA ?_;refine jN Z h (λq13 h=>?_) λq13 h=>?_
 ·refine jG<|jH<|jE<|T.drawX [0,3,4,5,6,7,1,2,8,9,10,11,12] (λi=>([(QY,[]),(QY,[3]),(QX,[]),(QY,[]),(QY,[]),(QY,[]),(QY,[]),(QY,[]),(QX,[4]),(QX,[]),(QX,[1]),(QY,[]),(QX,[3])]:List Xc).getD i (QY,[])) (by kernel_rfl) (by kernel_rfl) (by kernel_rfl)<|xN Z Z (fa Aj Z)<|xN Z Z (fa Aj Z)<|xN Z Z (lf (eL (cL cI) x.Order) Ev Z)<|xN Z Z mv<|jD h λg14 h=>xN Z Z (QE.ixL wY Z Z g14 qD)<|xN Z Z (lf (eL cI d0) El Z)<|xR [3] Z Z Z (λG hG=>EvA.loadhp (hS b11 1 u10 1 s8.1.length) Ev Z (hG.a0 Z) Z Z Z Z)<|xA Z Z (EvA.mkO (c:=cI) ([]:LI) [] je Z Z Z qD Z Z) pE<|jL h λg15 h=>xA Z Z (EvA.appF (l:=([]:LI)) d0 je (by kernel_rfl) Z Z Z (bh.fz (l:=d0) Z qD) g15) bM<|xA Z Z (EvA.mkR [[hS QY 4 (0+1) 1 ((([]:LI)++d0).length)]] wY Z Z Z Z) pE ?_;refine jL h λg16 h=>xA Z Z (EvA.appR (g:=b11) (rows:=s8.1.map<|cL cI) (rows':=s8.1.map (cL cI)++[[hS QY 4 (0+1) 1 ((([]:LI)++d0).length)]]) (n':=s8.1.length+1) wY (by kernel_rfl) Z Z (by simp) (λq=>by first | (rw [n12 q];rfl) | (cases q)) (bh.raw (rows:=[[hS QY 4 (0+1) 1 ((([]:LI)++d0).length)]]) Z Z Z) g16 Z Z) bM<|xN Z Z (fa Aj Z)<|xV Z Z (sr [hS QY 2 (0+1) 1 ((([]:LI)++x.From).length),hS QY 1 (u10+1) 1 (s8.1.length+1)] Ev Z Z Z Z) bM<|TX.nil<|T.cut (e0:=ai [(4,I s8.2),(3,.hp 3 0 2 0 0),(2,.hp 0 0 2 0 0),(1,.fp (QI.c x) 0)]) (H0:=[QZ ⟨0,2,27,[[.nil,.nil]]⟩,bE QY (u10+1) 1 24 ((s8.1++[(([]:LI)++d0)]).map<|cL cI),bE QY (0+1) 1 3 ((([]:LI)++x.From).map cI),QZ ⟨0,2,27,[[hS QY 2 (0+1) 1 ((([]:LI)++x.From).length),hS QY 1 (u10+1) 1 (s8.1.length+1)]]⟩]) (n9 Z (.cons (.row<|.cons (.fz<|qC Z)<|.cons (.fz<|qC Z) .nil)<|.cons (.snoc qD<|.cons (.cons (.fz<|Fz.own (g:=false) (ver:=0+1) (l:=(([]:LI)++d0)) Z Z Z nofun qD) .nil) .nil)<|.cons (.list (g:=false) (ver:=0+1) (l:=(([]:LI)++x.From)) qD)<|.cons (.row<|.cons (.hS (g:=false) (b:=2) (ver:=0+1) (s:=1) (n:=(([]:LI)++x.From).length) Z)<|.cons (.hS (g:=false) (b:=1) (ver:=u10+1) (s:=1) (n:=(s8.1.length+1)) Z) .nil) .nil)<|aj (.fz<|qC Z)<|aj (.hp<|nlb Z)<|aj (.hp<|nlb Z)<|aj (.fz<|qC Z) aF)<|jC<|oN mv<|jW h λg17 h=>oN (QE.add Z Z g17)<|oN as'<|jA ?_;obtain rfl:=QG h;exact ⟨((s8.1++[(([]:LI)++d0)]),(s8.2+(1:Int))),(QY,u10+1),Z,nofun,kw (by first | (simp only [List.length_set] <;> rfl) | simp only [lla,Wx,llc,List.length_nil,List.length_set]) Z⟩
 refine jM<|lX h λh=>?_
 cases h
 exact ⟨(b11,u10),n12,kw Z Z⟩
theorem CS (p:List<|List QH) {q} (h:rD p=QZ q):ax Q4 125 [eL (cL QH.c) p] (eL QI.c q):=by
 refine pM func125 Z (by kernel_rfl) Z<|jI<|oN as'<|jA<|jI<|oN mv<|oC h (λ_=>gD _) Z Z Z Z λv1 _ h=>oN as'<|jA<|jI<|oN mv<|oC h (λ_=>AX _ _) Z Z Z Z λv2 _ h=>oN as'<|jA<|jI<|oN mv ?_;refine oC h (λ_=>zT _ _) Z Z Z Z λv3 _ h=>oN as'<|jA<|jI<|oA (EvA.mkO (c:=QI.c) ([]:List QI) [] O4 Z Z Z qD Z Z)<|oN (QE.asg (hS QY 0 0 2<|([]:List QI).length) Z)<|jA ?_;refine T.jF (G:=Nat) h (λs4 gh=>True) (λs4 gh=>[(6,hS QY 0 gh 2 s4.length)]) (λs4 gh=>[bE QY gh 2 27 (s4.map QI.c)]) (λs4 u27 h hg=>?_) λs4 h=>?_
 ·refine jI<|oN mv<|oN (QE.asg (hS QY 0 u27 2 s4.length) Z)<|jA<|jK ?_;obtain rfl:=QG h
  repeat (first|refine jh ?_|refine ji ?_)
  exact jQ (vs:=[hS QY 0 u27 2 s4.length]) (.cons (.tmp Z) .nil)<|Fz.own (g:=false) (ver:=u27) (l:=s4) Z Z Z nofun QI.isF
 refine jI<|oN as'<|jA<|jE ?_;refine jO (S:=(List QI)×Int) (G:=Nat) (iV v2 v3) (λs8 gh=>True) (λs8 gh=>[(7,I s8.2),(6,hS QY 0 gh 2 s8.1.length),(5,eL (cL<|cL cI) v3),(4,eL (cL cI) v2)]) (λs8 gh=>[bE QY gh 2 27 (s8.1.map QI.c)]) (s0:=(([]:List QI),U)) 0 h trivial (kw Z Z) λs8 u10 ws8 h hg=>?_;refine jH<|jI<|oN mv<|oN mv<|oN (QE.lenL wY Z)<|oN (QE.ilt Z Z)<|jA ?_;refine jN Z h (λq11 h=>?_) λq11 h=>?_
 ·refine jG ?_;refine T.jF (G:=Nat) h (λs12 gh=>True) (λs12 gh=>[(7,I s8.2),(6,hS QY 0 gh 2 s12.length),(5,eL (cL<|cL cI) v3),(4,eL (cL cI) v2)]) (λs12 gh=>[bE QY gh 2 27 (s12.map QI.c)]) (λs12 u25 h hg=>?_) λs12 h=>?_
  ·refine jC<|oN mv<|jW h λg26 h=>oN (QE.add Z Z g26)<|oN as'<|jA ?_;obtain rfl:=QG h;exact ⟨(s12,(s8.2+V)),u25,Z,trivial,kw Z Z⟩
  refine jE<|jI<|oN as'<|jA<|jE ?_;refine jO (S:=(List QI)×Int) (G:=Nat) (ik v2 v3 s8) (λs16 gh=>True) (λs16 gh=>[(8,I s16.2),(7,I s8.2),(6,hS QY 0 gh 2 s16.1.length),(5,eL (cL<|cL cI) v3),(4,eL (cL cI) v2)]) (λs16 gh=>[bE QY gh 2 27 (s16.1.map QI.c)]) (s0:=(s8.1,U)) u10 h trivial (kw Z Z) λs16 u18 ws16 h hg=>?_;refine jH<|jI<|oN mv<|oN mv<|oN (QE.lenL Ki Z)<|oN (QE.ilt Z Z)<|jA ?_;refine jN Z h (λq19 h=>?_) λq19 h=>?_
  ·refine jG<|jH<|jE<|jP (dG [dF,dF,dF,dF,dF,dF,dF,dF,dF,dF,dF,dF,([0],QX),dF]) (by kernel_rfl) (by kernel_rfl)<|fN Z mv<|fN Z mv<|fN Z mv<|jD h λg20 h=>fN Z (QE.ixL wY Z Z g20 qD)<|fN Z (lf (eL cI<|J v2 s8.2) El Z)<|fN Z mv<|fN Z mv<|jD h λg21 h=>fN Z (QE.ixL Ki Z Z g21 qD)<|fN Z (lf (eL (cL cI)<|J v3 s16.2) Ev Z)<|fN Z (QE.build [eL cI (J v2 s8.2),eL (cL cI) (J v3 s16.2)] Tryz.underlying27 Gx Aj Z Z) ?_;refine fC h (λ_=>Cy _) Z Z Z Z Z λv22 _ h=>fN Z (QE.mkF (c:=QI.c) ([v22]:List QI) [(QI.c v22)] O4 Z Z Z qD QI.isF Z)<|jL h λg23 h=>fW 0 [] Z Z (λG hG=>EvA.app1 (g:=false) (l:=s16.1) v22 O4 (by kernel_rfl) Z Z (hG.a0 Z) nofun (bh.fz (l:=([v22]:List QI)) Z qD) g23)<|fN Z (QE.asg (hS QY 0 (u18+1) 2<|(s16.1++[v22]).length) Z)<|jR<|T.clean (H0:=[bE QY (u18+1) 2 27 ((s16.1++[v22]).map QI.c)]) (e0:=ai [(6,hS QY 0 (u18+1) 2<|(s16.1++[v22]).length),(8,I s16.2),(7,I s8.2),(5,eL (cL<|cL cI) v3),(4,eL (cL cI) v2)]) Z (QD Z<|QD Z<|QD Z<|QD Z<|QD Z wkN)<|jC<|oN mv<|jW h λg24 h=>oN (QE.add Z Z g24)<|oN as'<|jA ?_;obtain rfl:=QG h;exact ⟨((s16.1++[v22]),(s16.2+V)),u18+1,Z,trivial,kw Z Z⟩
  refine jM<|lX h λh=>?_
  cases h
  exact ⟨u18,trivial,kw Z Z⟩
 refine jM<|lX h λh=>?_
 cases h
 exact ⟨u10,trivial,kw Z Z⟩
theorem AZ (code:LI) {q} (h:kx code=QZ q):dX Q4 62 [eL cY code] [] (.hp 0 0 2 0 0) [QZ ⟨0,2,157,[(ae.c q)]⟩]:=by
 refine aM func62 Z (by kernel_rfl) Z<|jI<|oN as'<|jA ?_;refine T.jU h (λs1=>[(0,eL cY s1)]) (λs1=>[]) (λs1 h=>?_) λs1 h=>?_
 ·refine jI<|oN mv<|oN (QE.build [eL cY s1,I U] Tryz.underlying157 PP Al Z Z)<|oA (EvA.bx (cs:=[eL cY s1,I U]) Z Z Z)<|oN as'<|jA<|jK ?_;obtain rfl:=QG h
  repeat (first|refine jh ?_|refine ji ?_)
  exact ⟨ai [(2,.hp 0 0 2 0 0)],[QZ ⟨0,2,157,[(ae.c (⟨s1,U⟩:ae))]⟩],kw Z Z,jQ (vs:=[.hp 0 0 2 0 0]) (.cons (.tmp Z) .nil) ⟨Z,Z⟩⟩
 refine jI<|oN mv<|oN (QE.lenL Ir Z)<|oN (QE.igt Z Z)<|jA ?_;refine jN Z h (λq2 h=>?_) λq2 h=>?_
 ·refine jC<|oN mv<|jD h λg3 h=>oN (QE.slL Ir Z .no (.yes Z) g3 qD)<|oN as'<|jA ?_
  cases h
  exact ⟨(),trivial,kw Z Z⟩
 refine jG ?_
 cases h
 exact ⟨(),trivial,kw Z Z⟩
theorem av (r_:ae) (n:Int) (aJ:Nat) {q} (h:au r_ n=QZ q):dX Q4 126 [.hp 0 aJ 2 0 0,I n] [QZ ⟨aJ,2,157,[(ae.c r_)]⟩] (I q.2) [QZ ⟨aJ,2,157,[(ae.c q.1)]⟩]:=by
 let d0:=((r_.p+V)-V);refine aM func126 Z (by kernel_rfl) Z<|jI<|oN as'<|jA<|jI<|oN mv<|oN mv<|oN (nl Z)<|oN (fa Al Z)<|oA (lh (I r_.p) QS Z Z Z)<|jW h λg1 h=>oN (QE.add Z Z g1)<|oN (nl Z)<|oN (fa Al Z)<|oV (sr [eL cY r_.b,I (r_.p+V)] QS Z Z Z Z)<|jA ?_;refine jH<|jI<|oN mv<|oN (QE.ilt Z Z)<|oN mv ?_;refine TO.jB h 7 (λs2=>[(24,Bo s2),(0,.hp 0 aJ 2 0 0),(1,I n)]) (λs2=>[QZ ⟨aJ,2,157,[[eL cY r_.b,I (r_.p+V)]]⟩]) (λs2 q3 h js2=>?_) (λs2 q3 h js2=>?_) λs2 h=>?_
 ·refine gS Z q3<|gS Z q3<|gS Z q3<|gS Z q3<|gS Z q3<|gS Z q3<|oN (QE.pickT Z q3 (Bo QX) Z) ?_
  cases h
  exact js2 _ _<|kw Z Z
 ·refine gN Z q3 mv<|gN Z q3 (nl Z)<|gN Z q3 (fa Al Z)<|gA Z q3 (lh (eL cY r_.b) Me Z Z Z)<|gN Z q3 (QE.lenL Ir Z)<|gN Z q3 (QE.ieq Z Z)<|oN (QE.pickF Z q3 (Bo<|(r_.b.length:Int)==U) Z) ?_
  cases h
  exact js2 _ _<|kw Z Z
 refine jA ?_;refine jN Z h (λq4 h=>?_) λq4 h=>?_
 ·refine jI<|oN as'<|jA<|jK ?_;obtain rfl:=QG h
  repeat (first|refine jh ?_|refine ji ?_)
  exact ⟨ai [(4,I U)],[QZ ⟨aJ,2,157,[(ae.c (⟨r_.b,(r_.p+V)⟩:ae))]⟩],kw Z Z,jQ (vs:=[I U]) (.cons (.tmp Z) .nil) ⟨Z,Z⟩⟩
 refine jG<|jI<|oN mv<|oN (nl Z)<|oN (fa Al Z)<|oA (lh (I<|r_.p+V) QS Z Z Z)<|jW h λg5 h=>oN (QE.sub Z Z g5)<|oN as'<|jA<|jH<|jI<|oN mv<|oN mv<|oN (nl Z)<|oN (fa Al Z) ?_;refine oA (lh (eL cY r_.b) Me Z Z Z)<|oN (QE.lenL Ir Z)<|oN (QE.ilt Z Z)<|jA ?_;refine jN Z h (λq6 h=>?_) λq6 h=>?_
 ·refine jI<|oN mv<|oN (nl Z)<|oN (fa Al Z)<|oA (lh (eL cY r_.b) Me Z Z Z)<|oN mv<|jD h λg7 h=>oN (QE.ixL Ir Z Z g7 qD)<|oN (lf (Y<|J r_.b d0) ty5 Z)<|jW h λg8 h=>oN (QE.iconv ty5.und Tryz.underlying3 Z g8)<|oN mv<|jD h λg9 h=>oN (QE.rem Z Z g9)<|oN as'<|jA ?_;refine jK ?_;obtain rfl:=QG h
  repeat (first|refine jh ?_|refine ji ?_)
  exact ⟨ai [(4,I<|(J r_.b d0).tmod n)],[QZ ⟨aJ,2,157,[(ae.c (⟨r_.b,(r_.p+V)⟩:ae))]⟩],kw Z Z,jQ (vs:=[I ((J r_.b d0).tmod n)]) (.cons (.tmp Z) .nil) ⟨Z,Z⟩⟩
 refine jG<|jH<|jP (dG [dF,dF,dF,([0],QY),dF,dF,dF,dF,([0],QY),dF,dF,dF,dF,dF,dF,dF,dF,dF,([0],QY),dF,dF,dF,dF,dF,dF,([0],QY),dF,dF,dF,dF,dF,dF,dF,dF,dF,dF,dF,dF,dF,dF,([0],QY),dF,dF,dF,dF,dF]) (by kernel_rfl) (by kernel_rfl)<|fN Z mv<|fN Z (nl Z)<|fN Z (fa Al Z)<|fR [0] Z (λG hG=>EvA.loadhp (eL cY r_.b) Me Z (hG.a0 Z) Z Z Z Z)<|fN Z mv<|fN Z mv<|fN Z (nl Z)<|fN Z (fa Al Z)<|fR [0] Z (λG hG=>EvA.loadhp (eL cY r_.b) Me Z (hG.a0 Z) Z Z Z Z)<|fN Z (QE.lenL Ir Z)<|jD h λg10 h=>fN Z (QE.rem Z Z g10)<|jD h λg11 h=>?_;refine fN Z (QE.ixL Ir Z Z g11 qD)<|fN Z (lf (Y<|J r_.b<|d0.tmod (r_.b.length:Int)) ty5 Z)<|jW h λg12 h=>fN Z (QE.iconv ty5.und Tryz.underlying3 Z g12)<|jW h λg13 h=>fN Z (QE.mul Z Z g13)<|fN Z mv<|fN Z (nl Z)<|fN Z (fa Al Z)<|fR [0] Z (λG hG=>EvA.loadhp (eL cY r_.b) Me Z (hG.a0 Z) Z Z Z Z)<|fN Z mv<|jW h λg14 h=>fN Z (QE.mul Z Z g14)<|jW h λg15 h=>fN Z (QE.add Z Z g15)<|fN Z mv ?_;refine fN Z (nl Z)<|fN Z (fa Al Z)<|fR [0] Z (λG hG=>EvA.loadhp (eL cY r_.b) Me Z (hG.a0 Z) Z Z Z Z)<|fN Z (QE.lenL Ir Z)<|fN Z (QE.rem Z Z g10)<|jD h λg16 h=>fN Z (QE.ixL Ir Z Z g16 qD)<|fN Z (lf (Y<|J r_.b<|((d0*(7:Int))+(3:Int)).tmod (r_.b.length:Int)) ty5 Z)<|jW h λg17 h=>fN Z (QE.iconv ty5.und Tryz.underlying3 Z g17)<|jW h λg18 h=>fN Z (QE.mul Z Z g18)<|jW h λg19 h=>fN Z (QE.add Z Z g19)<|fN Z mv<|jW h λg20 h=>?_;refine fN Z (QE.mul Z Z g20)<|jW h λg21 h=>fN Z (QE.add Z Z g21)<|fN Z mv<|fN Z mv<|fN Z (nl Z)<|fN Z (fa Al Z)<|fR [0] Z (λG hG=>EvA.loadhp (eL cY r_.b) Me Z (hG.a0 Z) Z Z Z Z)<|fN Z (QE.lenL Ir Z)<|jW h λg22 h=>fN Z (QE.quo Z Z g10 g22)<|jW h λg23 h=>fN Z (QE.mul Z Z g23)<|jW h λg24 h=>fN Z (QE.add Z Z g24)<|fN Z as' ?_;refine jR<|jH<|T.clean (H0:=[QZ ⟨aJ,2,157,[[eL cY r_.b,I (r_.p+V)]]⟩]) (e0:=ai [(6,I<|((((J r_.b<|d0.tmod (r_.b.length:Int))*(131:Int))+((J r_.b<|((d0*(7:Int))+(3:Int)).tmod (r_.b.length:Int))*(1117:Int)))+(d0*(29:Int)))+((d0.tdiv (r_.b.length:Int))*(53:Int))),(1,I n)]) Z (QD Z<|QD Z wkN)<|jC<|oN mv<|oN mv<|jD h λg25 h=>jW h λg26 h=>oN (QE.quo Z Z g25 g26)<|jB h λw27 ew27 h=>?_;replace ew27:=osi ew27;refine oN (QE.res (QE.bxor Z Z) (r':=I w27) λ_ _ hr=>by rw [<- ew27];exact hr)<|oN as'<|jA<|jI<|oN mv<|oN mv<|jD h λg28 h=>oN (QE.rem Z Z g28)<|oN as'<|jA<|jK ?_;obtain rfl:=QG h
 repeat (first|refine jh ?_|refine ji ?_)
 exact ⟨ai [(4,I<|w27.tmod n)],[QZ ⟨aJ,2,157,[(ae.c (⟨r_.b,(r_.p+V)⟩:ae))]⟩],kw Z Z,jQ (vs:=[I (w27.tmod n)]) (.cons (.tmp Z) .nil) ⟨Z,Z⟩⟩
theorem bw (r_:ae) (list:LI) (aJ:Nat) {q} (h:aI r_ list=QZ q):dX Q4 113 [.hp 0 aJ 2 0 0,eL cI list] [QZ ⟨aJ,2,157,[(ae.c r_)]⟩] (I q.2) [QZ ⟨aJ,2,157,[(ae.c q.1)]⟩]:=by
 refine aM func113 Z (by kernel_rfl) Z<|jI<|oN as'<|jA<|jI<|oN mv<|oN mv<|oN mv<|oN (QE.lenL je Z)<|jB h λv1 cv1 h=>oA (EvA.call Z Z Z<|(av (⟨r_.b,r_.p⟩:ae) (list.length:Int) aJ cv1).one 0 Z (.cons (.hp Z)<|.cons (.pF Z) .nil) (ak Z) (ak Z) Z)<|jD h λg2 h=>oN (QE.ixL je Z Z g2 qD)<|oN (lf (I<|J list v1.2) QS Z)<|oN as'<|jA ?_;refine jK ?_;obtain rfl:=QG h
 repeat (first|refine jh ?_|refine ji ?_)
 exact ⟨ai [(4,I<|J list v1.2)],[QZ ⟨aJ,2,157,[(ae.c (⟨v1.1.b,v1.1.p⟩:ae))]⟩],kw Z Z,jQ (vs:=[I (J list v1.2)]) (.cons (.tmp Z) .nil) ⟨Z,Z⟩⟩
theorem zU (r_:ae) (list:List BA) (aJ:Nat) {q} (h:l4 r_ list=QZ q):dX Q4 228 [.hp 0 aJ 2 0 0,eL cS list] [QZ ⟨aJ,2,157,[(ae.c r_)]⟩] (St q.2) [QZ ⟨aJ,2,157,[(ae.c q.1)]⟩]:=by
 refine aM func228 Z (by kernel_rfl) Z<|jI<|oN as'<|jA<|jI<|oN mv<|oN mv<|oN mv<|oN (QE.lenL Bu Z)<|jB h λv1 cv1 h=>oA (EvA.call Z Z Z<|(av (⟨r_.b,r_.p⟩:ae) (list.length:Int) aJ cv1).one 0 Z (.cons (.hp Z)<|.cons (.pF Z) .nil) (ak Z) (ak Z) Z)<|jD h λg2 h=>oN (QE.ixL Bu Z Z g2 qD)<|oN (lf (St<|J list v1.2) ty9 Z)<|oN as'<|jA ?_;refine jK ?_;obtain rfl:=QG h
 repeat (first|refine jh ?_|refine ji ?_)
 exact ⟨ai [(4,St<|J list v1.2)],[QZ ⟨aJ,2,157,[(ae.c (⟨v1.1.b,v1.1.p⟩:ae))]⟩],kw Z Z,jQ (vs:=[St (J list v1.2)]) (.cons (.tmp Z) .nil) ⟨Z,Z⟩⟩
theorem A7:∀ (nf:Nat) (r_:ae) (depth:Int) (aJ:Nat) {q} (h:iX nf r_ depth=QZ q),dX Q4 167 [.hp 0 aJ 2 0 0,I depth] [QZ ⟨aJ,2,157,[(ae.c r_)]⟩] (.agg<|aa.c q.2) [QZ ⟨aJ,2,157,[(ae.c q.1)]⟩]:=by
 intro nf
 induction nf with
 | zero=>intros;rename_i h;cases h
 | succ nf ih=>
  intro r_ depth aJ q h;replace h:l7 (iX nf) r_ depth=QZ q:=h;refine aM func167 Z (by kernel_rfl) Z<|jI<|oA (EvA.al mH Z Z)<|jA<|jI<|oC h (λ_=>uO) Z Z Z Z λv1 _ h=>oN as'<|jA<|jH<|jI<|oN mv<|oN (QE.ilt Z Z)<|oN mv ?_;rcases yh h with ⟨q2,h⟩ | ⟨q2,h⟩
  ·refine gS Z q2<|gS Z q2<|gS Z q2<|oN (QE.pickT Z q2 (Bo QX) Z)<|jA ?_;refine T.cond Z (λ_=>?_) λq=>absurd (q.symm.trans Z) (by decide);refine jI<|oN mv<|oN mv<|oN mv<|oN (QE.lenL Bu Z)<|jB h λv3 cv3 h=>oA (EvA.call Z Z Z<|(av (⟨r_.b,r_.p⟩:ae) (v1.length:Int) aJ cv3).one 0 Z (.cons (.hp Z)<|.cons (.pF Z) .nil) (ak Z) (ak Z) Z)<|jD h λg4 h=>oN (QE.ixL Bu Z Z g4 qD)<|oN (lf (St<|J v1 v3.2) ty9 Z)<|oN (QE.build [I V,St (J v1 v3.2),.nil] Tryz.underlying116 mH lj Z Z)<|oV (sr [I V,St (J v1 v3.2),.nil] bG Z Z Z Z)<|jA<|jK ?_;obtain rfl:=QG h
   repeat (first|refine jh ?_|refine ji ?_)
   exact ⟨ai [(4,.fp (aa.c (⟨V,(J v1 v3.2),([]:List ZTE)⟩:aa)) 0)],[QZ ⟨aJ,2,157,[(ae.c (⟨v3.1.b,v3.1.p⟩:ae))]⟩],n9 Z (.cons (.row<|.cons (.fz<|qC Z)<|.cons (.fz<|qC Z) .nil) .nil)<|aj (.fz<|Fz.fpL (ver:=0) (s:=3) (ty:=116) (rows:=[[I V,St (J v1 v3.2),.nil]]) Z Z Z<|.cons (qC Z)<|.cons (qC Z)<|.cons (.nil0) .nil) aF,jQ (vs:=[.agg (aa.c (⟨V,(J v1 v3.2),([]:List ZTE)⟩:aa))]) (.cons (.cellF (.agg<|aa.c (⟨V,(J v1 v3.2),([]:List ZTE)⟩:aa)) bG Z Z) .nil) ⟨Z,Z⟩⟩
  refine gN Z q2 mv<|jB h λv5 cv5 h=>gA Z q2 (EvA.call Z Z Z<|(av (⟨r_.b,r_.p⟩:ae) (3:Int) aJ cv5).one 0 Z (.cons (.hp Z)<|.cons (.pF Z) .nil) (ak Z) (ak Z) Z)<|gN Z q2 (QE.ieq Z Z)<|oN (QE.pickF Z q2 (Bo<|v5.2==U) Z)<|jA ?_;refine jN Z h (λq6 h=>?_) λq6 h=>?_
  ·refine jI<|oN mv<|oN mv<|oN mv<|oN (QE.lenL Bu Z)<|jB h λv7 cv7 h=>oA (EvA.call Z Z Z<|(av (⟨v5.1.b,v5.1.p⟩:ae) (v1.length:Int) aJ cv7).one 0 Z (.cons (.hp Z)<|.cons (.pF Z) .nil) (ak Z) (ak Z) Z)<|jD h λg8 h=>oN (QE.ixL Bu Z Z g8 qD)<|oN (lf (St<|J v1 v7.2) ty9 Z)<|oN (QE.build [I V,St (J v1 v7.2),.nil] Tryz.underlying116 mH lj Z Z)<|oV (sr [I V,St (J v1 v7.2),.nil] bG Z Z Z Z)<|jA<|jK ?_;obtain rfl:=QG h
   repeat (first|refine jh ?_|refine ji ?_)
   exact ⟨ai [(4,.fp (aa.c (⟨V,(J v1 v7.2),([]:List ZTE)⟩:aa)) 0)],[QZ ⟨aJ,2,157,[(ae.c (⟨v7.1.b,v7.1.p⟩:ae))]⟩],n9 Z (.cons (.row<|.cons (.fz<|qC Z)<|.cons (.fz<|qC Z) .nil) .nil)<|aj (.fz<|Fz.fpL (ver:=0) (s:=3) (ty:=116) (rows:=[[I V,St (J v1 v7.2),.nil]]) Z Z Z<|.cons (qC Z)<|.cons (qC Z)<|.cons (.nil0) .nil) aF,jQ (vs:=[.agg (aa.c (⟨V,(J v1 v7.2),([]:List ZTE)⟩:aa))]) (.cons (.cellF (.agg<|aa.c (⟨V,(J v1 v7.2),([]:List ZTE)⟩:aa)) bG Z Z) .nil) ⟨Z,Z⟩⟩
  refine jG<|jH<|jI<|oN mv<|jB h λv9 cv9 h=>oA (EvA.call Z Z Z<|(av (⟨v5.1.b,v5.1.p⟩:ae) (4:Int) aJ cv9).one 0 Z (.cons (.hp Z)<|.cons (.pF Z) .nil) (ak Z) (ak Z) Z)<|oN (QE.ieq Z Z)<|jA ?_;refine jN Z h (λq10 h=>?_) λq10 h=>?_
  ·refine jI<|oN mv<|oN (QE.mkF (c:=cI) ([(6:Int),(7:Int)]:LI) [[I (6:Int)],[I (7:Int)]] je Z Z Z qD qD Z)<|jB h λv11 cv11 h=>oA (EvA.call Z Z Z<|(bw (⟨v9.1.b,v9.1.p⟩:ae) ([(6:Int),(7:Int)]:LI) aJ cv11).one 0 Z (.cons (.hp Z)<|.cons (.pF Z) .nil) (ak Z) (ak Z) Z)<|oN mv<|oN mv<|jW h λg12 h=>oN (QE.sub Z Z g12)<|jB h λv13 cv13 h=>oA (EvA.call Z Z Z<|(ih (⟨v11.1.b,v11.1.p⟩:ae) (depth-V) aJ cv13).one 0 Z (.cons (.hp Z)<|.cons (.pF Z) .nil) (ak Z) (ak Z) Z)<|oN (QE.res (QE.mkF (c:=aa.c) ([v13.2]:List aa) [(aa.c v13.2)] ut Z Z Z qD aa.isF Z) (r':=eL ZTE.c ([v13.2.inn]:List ZTE)) λ_ _ hr=>yX aa.inn_c hr)<|oN (QE.build [I v11.2,St (⟨#[]⟩:BA),eL ZTE.c ([v13.2.inn]:List ZTE)] Tryz.underlying116 mH lj Z Z)<|oV (sr [I v11.2,St (⟨#[]⟩:BA),eL ZTE.c ([v13.2.inn]:List ZTE)] bG Z Z Z Z)<|jA<|jK ?_;obtain rfl:=QG h
   repeat (first|refine jh ?_|refine ji ?_)
   exact ⟨ai [(4,.fp (aa.c (⟨v11.2,(⟨#[]⟩:BA),([v13.2.inn]:List ZTE)⟩:aa)) 0)],[QZ ⟨aJ,2,157,[(ae.c (⟨v13.1.b,v13.1.p⟩:ae))]⟩],n9 Z (.cons (.row<|.cons (.fz<|qC Z)<|.cons (.fz<|qC Z) .nil) .nil)<|aj (.fz<|Fz.fpL (ver:=0) (s:=3) (ty:=116) (rows:=[[I v11.2,St (⟨#[]⟩:BA),eL ZTE.c ([v13.2.inn]:List ZTE)]]) Z Z Z<|.cons (qC Z)<|.cons (qC Z)<|.cons (qC Z) .nil) aF,jQ (vs:=[.agg (aa.c (⟨v11.2,(⟨#[]⟩:BA),([v13.2.inn]:List ZTE)⟩:aa))]) (.cons (.cellF (.agg<|aa.c (⟨v11.2,(⟨#[]⟩:BA),([v13.2.inn]:List ZTE)⟩:aa)) bG Z Z) .nil) ⟨Z,Z⟩⟩
  refine jG<|jI<|oN mv<|oN (QE.mkF (c:=cI) ([(2:Int),(3:Int),(4:Int),(5:Int)]:LI) [[I (2:Int)],[I (3:Int)],[I (4:Int)],[I (5:Int)]] je Z Z Z qD qD Z)<|jB h λv14 cv14 h=>oA (EvA.call Z Z Z<|(bw (⟨v9.1.b,v9.1.p⟩:ae) ([(2:Int),(3:Int),(4:Int),(5:Int)]:LI) aJ cv14).one 0 Z (.cons (.hp Z)<|.cons (.pF Z) .nil) (ak Z) (ak Z) Z)<|oN as'<|jA<|jI<|oN mv<|oN mv<|oN mv<|jW h λg15 h=>oN (QE.sub Z Z g15)<|jB h λv16 cv16 h=>oA (EvA.call Z Z Z<|(ih (⟨v14.1.b,v14.1.p⟩:ae) (depth-V) aJ cv16).one 0 Z (.cons (.hp Z)<|.cons (.pF Z) .nil) (ak Z) (ak Z) Z) ?_;refine oN mv<|oN mv<|oN (QE.sub Z Z g15)<|jB h λv17 cv17 h=>oA (EvA.call Z Z Z<|(ih (⟨v16.1.b,v16.1.p⟩:ae) (depth-V) aJ cv17).one 0 Z (.cons (.hp Z)<|.cons (.pF Z) .nil) (ak Z) (ak Z) Z)<|oN (QE.res (QE.mkF (c:=aa.c) ([v16.2,v17.2]:List aa) [(aa.c v16.2),(aa.c v17.2)] ut Z Z Z qD aa.isF Z) (r':=eL ZTE.c ([v16.2.inn,v17.2.inn]:List ZTE)) λ_ _ hr=>yX aa.inn_c hr)<|oN (QE.build [I v14.2,St (⟨#[]⟩:BA),eL ZTE.c ([v16.2.inn,v17.2.inn]:List ZTE)] Tryz.underlying116 mH lj Z Z)<|oV (sr [I v14.2,St (⟨#[]⟩:BA),eL ZTE.c ([v16.2.inn,v17.2.inn]:List ZTE)] bG Z Z Z Z)<|jA<|jK ?_;obtain rfl:=QG h
  repeat (first|refine jh ?_|refine ji ?_)
  exact ⟨ai [(4,.fp (aa.c (⟨v14.2,(⟨#[]⟩:BA),([v16.2.inn,v17.2.inn]:List ZTE)⟩:aa)) 0)],[QZ ⟨aJ,2,157,[(ae.c (⟨v17.1.b,v17.1.p⟩:ae))]⟩],n9 Z (.cons (.row<|.cons (.fz<|qC Z)<|.cons (.fz<|qC Z) .nil) .nil)<|aj (.fz<|Fz.fpL (ver:=0) (s:=3) (ty:=116) (rows:=[[I v14.2,St (⟨#[]⟩:BA),eL ZTE.c ([v16.2.inn,v17.2.inn]:List ZTE)]]) Z Z Z<|.cons (qC Z)<|.cons (qC Z)<|.cons (qC Z) .nil) aF,jQ (vs:=[.agg (aa.c (⟨v14.2,(⟨#[]⟩:BA),([v16.2.inn,v17.2.inn]:List ZTE)⟩:aa))]) (.cons (.cellF (.agg<|aa.c (⟨v14.2,(⟨#[]⟩:BA),([v16.2.inn,v17.2.inn]:List ZTE)⟩:aa)) bG Z Z) .nil) ⟨Z,Z⟩⟩
theorem vS (r_:ae) (depth:Int) (aJ:Nat) {q} (h:l8 r_ depth=QZ q):dX Q4 167 [.hp 0 aJ 2 0 0,I depth] [QZ ⟨aJ,2,157,[(ae.c r_)]⟩] (.agg<|aa.c q.2) [QZ ⟨aJ,2,157,[(ae.c q.1)]⟩]:=by
 obtain ⟨nf,h⟩:=lG h;exact A7 nf r_ depth aJ h
theorem Ql {n m:Nat} (hn:n<=2097152) (hm:Ww m 1000=QX):bq n m=QX:=by
 have h1:=nlb hm;have h2:n*m<=2097152*1000:=Nat.mul_le_mul hn h1;exact decide_eq_true ⟨by omega,by omega⟩
theorem zV (r_:ae) (e:aa) (aJ:Nat) {q} (h:iY r_ e=QZ q):dX Q4 164 [.hp 0 aJ 2 0 0,.agg (aa.c e)] [QZ ⟨aJ,2,157,[(ae.c r_)]⟩] (.agg<|aa.c q.2) [QZ ⟨aJ,2,157,[(ae.c q.1)]⟩]:=by
 refine dX.mkT func164 Z (by kernel_rfl) Z (by kernel_rfl) (e0:=ai [(0,.hp 0 aJ 2 0 0),(1,.agg<|aa.c e)]) (QD Z<|QD Z wkN) ?_;unfold iY at h;obtain ⟨hp,h⟩:=gdD h;refine jI ?_;refine oN (QE.bxF [I e.Op,St e.Name,eL ZTE.c e.Kids] Z Z Z) ?_;refine oA (EvA.al mH Z Z) ?_;refine jA ?_;refine jH ?_;refine T.reserve ?_;refine T.reserve ?_;refine jP (dG [dF,dF,dF,dF,([3],QX),dF,dF,([3],QX),dF,([2],QX),([2],QX)]) (by kernel_rfl) (by kernel_rfl) ?_;refine fN Z (fa lj Z) ?_;refine fN Z (lf (I e.Op) QS Z) ?_;refine fN Z (fa lj Z) ?_;refine fN Z (lf (St e.Name) ty9 Z) ?_;refine fW 3 [] Z Z (λG hG=>EvA.mkOR (c:=ZTE.c) 3 ([]:List ZTE) [] ut Z Z Z ZTE.len ZTE.isF Z<|hG.a0 Z) ?_;refine fN Z (fa lj Z) ?_;refine fN Z (lf (eL ZTE.c e.Kids) Iq Z) ?_;refine fW 3 [] Z Z (λG hG=>EvA.appF (l:=([]:List ZTE)) e.Kids ut (by kernel_rfl) Z Z (hG.a0 Z) (bh.fz (l:=e.Kids) Z ZTE.len)<|Ql (by simp;omega) Z) ?_;refine fN Z (QE.build [I e.Op,St e.Name,hS QY 3 (0+1) 3 ((([]:List ZTE)++e.Kids).length)] Tryz.underlying116 mH lj Z Z) ?_;refine fW 2 [] Z Z (λG hG=>EvA.alR 2 mH Z Z<|hG.a0 Z) ?_;refine fV 2 [] Z Z (λG hG=>sr [I e.Op,St e.Name,hS QY 3 (0+1) 3 ((([]:List ZTE)++e.Kids).length)] bG Z Z (hG.a0 Z) Z) ?_;refine jR ?_;refine T.cut (e0:=ai [(5,.hp 2 0 3 0 0),(4,.hp 1 0 3 0 0),(0,.hp 0 aJ 2 0 0)]) (H0:=[QZ ⟨aJ,2,157,[(ae.c r_)]⟩,QZ ⟨0,3,116,[[I 0,St ⟨#[]⟩,.nil]]⟩,QZ ⟨0,3,116,[[I e.Op,St e.Name,hS QY 3 (0+1) 3 ((([]:List ZTE)++e.Kids).length)]]⟩,bE QY (0+1) 3 116 ((([]:List ZTE)++e.Kids).map ZTE.c)]) (kw Z Z) ?_;refine T.joinF (G:=Unit) (λ_=>True) (λ_=>[(5,.fp (aa.c q.2) 0),(4,.hp 1 0 3 0 0)]) (λ_=>[QZ ⟨aJ,2,157,[(ae.c q.1)]⟩,QZ ⟨0,3,116,[[I 0,St ⟨#[]⟩,.nil]]⟩]) (λ_ _=>?_) ?_
 ·clear h;refine jI ?_;refine oN (lf (.agg<|aa.c q.2) bG Z) ?_;refine oV (sr [I q.2.Op,St q.2.Name,eL ZTE.c q.2.Kids] bG Z Z Z Z) ?_;refine jA ?_;refine jK ?_
  repeat first | refine jh ?_ | refine ji ?_
  exact ⟨ai [(4,.fp (aa.c q.2) 0)],[QZ ⟨aJ,2,157,[(ae.c q.1)]⟩],n9 Z (.cons (.row<|.cons (.fz<|qC Z)<|.cons (.fz<|qC Z) .nil) .nil)<|aj (.fz<|Fz.fpL (ver:=0) (s:=3) (ty:=116) (rows:=[[I q.2.Op,St q.2.Name,eL ZTE.c q.2.Kids]]) Z Z Z<|.cons (qC Z)<|.cons (qC Z)<|.cons (qC Z) .nil) aF,jQ (vs:=[.agg (aa.c q.2)]) (.cons (.cellF (.agg<|aa.c q.2) bG Z Z) .nil) ⟨Z,Z⟩⟩
 refine jI ?_;refine oN mv ?_;obtain ⟨v1,cv1,h⟩:=qg h;refine oA (EvA.call Z Z Z<|(av r_ (24:Int) aJ cv1).one 0 Z (.cons (.hp Z)<|.cons (.pF Z) .nil) (ak Z) (ak Z) Z) ?_;refine jA ?_;refine jE ?_;refine T.cut (e0:=ai [(17,I v1.2),(5,.hp 2 0 3 0 0),(4,.hp 1 0 3 0 0),(0,.hp 0 aJ 2 0 0)]) (H0:=[QZ ⟨aJ,2,157,[(ae.c v1.1)]⟩,QZ ⟨0,3,116,[[I 0,St ⟨#[]⟩,.nil]]⟩,QZ ⟨0,3,116,[[I e.Op,St e.Name,hS QY 3 (0+1) 3 ((([]:List ZTE)++e.Kids).length)]]⟩,bE QY (0+1) 3 116 ((([]:List ZTE)++e.Kids).map ZTE.c)]) (kw Z Z) ?_;refine jI ?_;refine oN (QE.ieq Z Z) ?_;refine oN (QE.asg (Bo<|v1.2==U) Z) ?_;refine jA ?_;refine jN Z h (λq0 h=>?_) λq0 h=>?_
 ·obtain ⟨a1,ca,h⟩:=qg h;obtain rfl:=osl h;refine jC ?_;refine oN mv ?_;refine oN (QE.mkF (c:=cI) ([(0:Int),(8:Int),V,(2:Int),(6:Int)]:LI) [[I U],[I (8:Int)],[I V],[I (2:Int)],[I (6:Int)]] je Z Z Z qD qD Z) ?_;refine oA (EvA.call Z Z Z<|(bw v1.1 _ aJ ca).one 0 Z (.cons (.hp Z)<|.cons (.pF Z) .nil) (ak Z) (ak Z) Z) ?_;refine oN (fa lj Z) ?_;refine oV (sr [I a1.2,St e.Name,hS QY 3 (0+1) 3 ((([]:List ZTE)++e.Kids).length)] QS Z Z Z Z) ?_;refine jA ?_;exact ⟨(),trivial,n9 Z (.cons (.row<|.cons (.fz<|qC Z)<|.cons (.fz<|qC Z) .nil)<|.cons (.row<|.cons (.fz<|qC Z)<|.cons (.fz<|qC Z)<|.cons (.fz<|qC Z) .nil) .nil)<|aj (.fz<|Fz.fpL (ver:=0) (s:=3) (ty:=116) (rows:=[[I a1.2,St e.Name,hS QY 3 (0+1) 3 ((([]:List ZTE)++e.Kids).length)]]) Z Z Z<|.cons (qC Z)<|.cons (qC Z)<|.cons (Fz.own (g:=false) (ver:=0+1) (f:=ZTE.c) (l:=(([]:List ZTE)++e.Kids)) Z Z Z nofun ZTE.isF) .nil)<|aj (.hp<|nlb Z) aF⟩
 refine jI ?_;refine oN (QE.ieq Z Z) ?_;refine oN (QE.asg (Bo<|v1.2==V) Z) ?_;refine jA ?_;refine jN Z h (λq1 h=>?_) λq1 h=>?_
 ·obtain ⟨a1,ca,h⟩:=qg h;obtain rfl:=osl h;refine jC ?_;refine oN mv ?_;refine oN (QE.mkF (c:=cS) ([(⟨#[]⟩:BA),(⟨#[102,111,111]⟩:BA),(⟨#[112,111]⟩:BA)]:List BA) [[St (⟨#[]⟩:BA)],[St (⟨#[102,111,111]⟩:BA)],[St (⟨#[112,111]⟩:BA)]] Bu Z Z Z qD qD Z) ?_;refine oA (EvA.call Z Z Z<|(zU v1.1 _ aJ ca).one 0 Z (.cons (.hp Z)<|.cons (.pF Z) .nil) (ak Z) (ak Z) Z) ?_;refine oN (fa lj Z) ?_;refine oV (sr [I e.Op,St a1.2,hS QY 3 (0+1) 3 ((([]:List ZTE)++e.Kids).length)] ty9 Z Z Z Z) ?_;refine jA ?_;exact ⟨(),trivial,n9 Z (.cons (.row<|.cons (.fz<|qC Z)<|.cons (.fz<|qC Z) .nil)<|.cons (.row<|.cons (.fz<|qC Z)<|.cons (.fz<|qC Z)<|.cons (.fz<|qC Z) .nil) .nil)<|aj (.fz<|Fz.fpL (ver:=0) (s:=3) (ty:=116) (rows:=[[I e.Op,St a1.2,hS QY 3 (0+1) 3 ((([]:List ZTE)++e.Kids).length)]]) Z Z Z<|.cons (qC Z)<|.cons (qC Z)<|.cons (Fz.own (g:=false) (ver:=0+1) (f:=ZTE.c) (l:=(([]:List ZTE)++e.Kids)) Z Z Z nofun ZTE.isF) .nil)<|aj (.hp<|nlb Z) aF⟩
 refine jI ?_;refine oN (QE.ieq Z Z) ?_;refine oN (QE.asg (Bo<|v1.2==(2:Int)) Z) ?_;refine jA ?_;refine jN Z h (λq2 h=>?_) λq2 h=>?_
 ·obtain ⟨a1,ca,h⟩:=qg h;obtain rfl:=osl h;refine T.drawX [0,1,2,3,4,5,6,7] (λi=>([(QY,[]),(QY,[2]),(QY,[]),(QX,[0]),(QY,[]),(QX,[3]),(QY,[]),(QX,[2])]:List Xc).getD i (QY,[])) (by kernel_rfl) (by kernel_rfl) (by kernel_rfl) ?_;refine xN Z Z (fa lj Z) ?_;refine xR [2] Z Z Z (λG hG=>EvA.loadhp (hS QY 3 (0+1) 3<|(([]:List ZTE)++e.Kids).length) Iq Z (hG.a0 Z) Z Z Z Z) ?_;refine xN Z Z mv ?_;refine xA Z Z (EvA.call Z Z Z<|(vS v1.1 V aJ ca).one 0 Z (.cons (.hp Z)<|.cons (.pF Z) .nil) (ak Z) (ak Z) Z) bM ?_;refine xN Z Z (QE.res (QE.mkF (c:=aa.c) ([a1.2]:List aa) [(aa.c a1.2)] ut Z Z Z qD aa.isF Z) (r':=eL ZTE.c ([a1.2.inn]:List ZTE)) λ_ _ hr=>yX aa.inn_c hr) ?_;refine xA Z Z (EvA.appF (l:=(([]:List ZTE)++e.Kids)) [a1.2.inn] ut (by kernel_rfl) Z Z Z (bh.fz (l:=[a1.2.inn]) Z ZTE.len)<|Ql (by simp;omega) Z) bM ?_;refine xN Z Z (fa lj Z) ?_;refine xV Z Z (sr [I e.Op,St e.Name,hS QY 3 (0+1+1) 3 (((([]:List ZTE)++e.Kids)++[a1.2.inn]).length)] Iq Z Z Z Z) bM ?_;refine TX.nil ?_;exact ⟨(),trivial,n9 Z (.cons (.row<|.cons (.fz<|qC Z)<|.cons (.fz<|qC Z) .nil)<|.cons (.row<|.cons (.fz<|qC Z)<|.cons (.fz<|qC Z)<|.cons (.fz<|qC Z) .nil) .nil)<|aj (.fz<|Fz.fpL (ver:=0) (s:=3) (ty:=116) (rows:=[[I e.Op,St e.Name,hS QY 3 (0+1+1) 3 (((([]:List ZTE)++e.Kids)++[a1.2.inn]).length)]]) Z Z Z<|.cons (qC Z)<|.cons (qC Z)<|.cons (Fz.own (g:=false) (ver:=0+1+1) (f:=ZTE.c) (l:=(([]:List ZTE)++e.Kids)++[a1.2.inn]) Z Z Z nofun ZTE.isF) .nil)<|aj (.hp<|nlb Z) aF⟩
 refine jI ?_;refine oN (QE.ieq Z Z) ?_;refine oN (QE.asg (Bo<|v1.2==(3:Int)) Z) ?_;refine jA ?_;refine jN Z h (λq3 h=>?_) λq3 h=>?_
 ·obtain rfl:=osl h;refine jI ?_;refine oN as' ?_;refine jA ?_;refine jE ?_;refine jO (S:=Nat) (G:=Unit) (E:=Nat) (x:=12) (λi=>if i<12 then QZ (.inl<|i+1) else QZ (.inr i)) (λi _=>i<=12) (λi _=>[(6,I (i:Nat)),(5,.hp 2 0 3 0 0),(4,.hp 1 0 3 0 0)]) (λi _=>[QZ ⟨aJ,2,157,[(ae.c v1.1)]⟩,QZ ⟨0,3,116,[[I 0,St ⟨#[]⟩,.nil]]⟩,QZ ⟨0,3,116,[aa.c (KD e i)]⟩]) (s0:=0) () (EK (λi=>i) 12 (λi hi=>by simp [hi])<|by simp) (Nat.zero_le _)
   (n9 rfl (.cons (.row<|.cons (.fz<|.of_isF 9 _ rfl)<|.cons (.fz<|.of_isF 9 _ rfl) .nil)<|.cons (.row<|.cons (.fz<|.of_isF 9 _ rfl)<|.cons (.fz<|.of_isF 9 _ rfl)<|.cons (.fz<|.of_isF 9 _ rfl) .nil)<|.cons (.row<|.cons (.fz<|.of_isF 9 _ rfl)<|.cons (.fz<|.of_isF 9 _ rfl)<|.cons (.fz<|Fz.own (g:=false) (ver:=0+1) (f:=ZTE.c) (l:=(([]:List ZTE)++e.Kids)) rfl rfl rfl nofun ZTE.isF) .nil) .nil)<|aj (.fz<|.of_isF 9 _ rfl)<|aj (.hp<|nlb rfl)<|aj (.hp<|nlb rfl) aF) λi _ z hz hle=>?_
  refine jH ?_;refine jI ?_;refine oN mv ?_;refine oN (QE.ilt Z Z) ?_;refine jA ?_;refine T.cond Z (λqc=>?_) λqc=>?_
  ·have hi:i<12:=by have := of_decide_eq_true qc;omega
   rw [if_pos hi] at hz;obtain rfl:=osl hz;refine jG ?_;refine jH ?_;refine jE ?_;refine jC ?_;refine oA (lh (.agg<|aa.c<|KD e i) bG Z Z Z) ?_;refine oN (QE.res (QE.mkF (c:=aa.c) ([KD e i]:List aa) [(aa.c<|KD e i)] ut Z Z Z qD aa.isF Z) (r':=eL ZTE.c ([(KD e i).inn]:List ZTE)) λ_ _ hr=>yX aa.inn_c hr) ?_;refine oN (QE.build [I (6:Int),St (⟨#[]⟩:BA),eL ZTE.c ([(KD e i).inn]:List ZTE)] Tryz.underlying116 mH lj Z Z) ?_;refine oV (sr [I (6:Int),St (⟨#[]⟩:BA),eL ZTE.c ([(KD e i).inn]:List ZTE)] bG Z Z Z Z) ?_;refine jA ?_;refine jC ?_;refine oN mv ?_;refine oN (QE.add Z Z<|IntWalk.i64_in _ ⟨by omega,by omega⟩) ?_;refine oN (QE.asg (I (i+1:Nat)) Z) ?_;refine jA ?_;exact ⟨i+1,(),Z,hi,kw Z Z⟩
  have hi : ¬ i<12:=by have := of_decide_eq_false qc;omega
  rw [if_neg hi] at hz;obtain rfl:=osl hz;obtain rfl:i=12:=by omega
  refine jM ?_;refine ⟨_,Z,λhe=>?_⟩;exact ⟨(),trivial,n9 Z (.cons (.row<|.cons (.fz<|qC Z)<|.cons (.fz<|qC Z) .nil)<|.cons (.row<|.cons (.fz<|qC Z)<|.cons (.fz<|qC Z)<|.cons (.fz<|qC Z) .nil) .nil)<|aj (.fz<|Fz.fpL (ver:=0) (s:=3) (ty:=116) (rows:=[aa.c (KD e 12)]) Z Z Z<|.cons (qC Z)<|.cons (qC Z)<|.cons (qC Z) .nil)<|aj (.hp<|nlb Z) aF⟩
 obtain rfl:=osl h;refine jG ?_;exact ⟨(),trivial,n9 Z (.cons (.row<|.cons (.fz<|qC Z)<|.cons (.fz<|qC Z) .nil)<|.cons (.row<|.cons (.fz<|qC Z)<|.cons (.fz<|qC Z)<|.cons (.fz<|qC Z) .nil) .nil)<|aj (.fz<|Fz.fpL (ver:=0) (s:=3) (ty:=116) (rows:=[[I e.Op,St e.Name,hS QY 3 (0+1) 3 ((([]:List ZTE)++e.Kids).length)]]) Z Z Z<|.cons (qC Z)<|.cons (qC Z)<|.cons (Fz.own (g:=false) (ver:=0+1) (f:=ZTE.c) (l:=(([]:List ZTE)++e.Kids)) Z Z Z nofun ZTE.isF) .nil)<|aj (.hp<|nlb Z) aF⟩
def hd0 (v:Nat):LL->List (List AV)
 | []=>[]
 | a::t=>[hS QY 4 v 1 a.length]::t.map (cL cI)
def bk0 (v:Nat):LL->Option ABlk
 | []=>Q0
 | a::_=>bE QY v 1 3 (a.map cI)
theorem Es (v:Nat) (s:LL):(hd0 v s).length=s.length:=by cases s <;> simp [hd0]
theorem LC {x:QI} (h:Ka x=QX):x.From.length<=1048576/\x.Order.length<=1048576/\∀ i,(x.Order.getD i []).length<=1048576:=by
 simp only [Ka,bae,dte,List.all_eq_true] at h;refine ⟨h.1.1,h.1.2,λi=>?_⟩
 by_cases hi:i<x.Order.length
 ·simpa [hi] using h.2 _ (List.getElem_mem hi)
 simp [hi]
theorem Nz {n m:Nat} (hn:n<=2097152) (hm:Ww m 1000=QX):bq n m=QX:=by
 have h1:=nlb hm;have h2:n*m<=2097152*1000:=Nat.mul_le_mul hn h1;exact decide_eq_true ⟨by omega,by omega⟩
theorem PY (p:LL) {i:Nat} (h:i<p.length):p.take (i+1)=p.take i++[p.getD i []]:=by
 have e:p.getD i []=p[i]:=by rw [gdq,geq h];rfl
 rw [e];exact (List.take_append_getElem h).symm
theorem Pi {m:Nat} {H:AH} {a r:LI} {t:LL} {ver b:Nat} (hm:Nat.blt 4 m=QX) (hb:Ww m b=QX) (hk:H[b]? = QZ (bE QY (0+1) 1 3<|(([]:LI)++r).map cI)) :
  StayB m H (bE QY ver 1 24<|hd0 1 (a::t)++[[hS QY b (0+1) 1 ((([]:LI)++r).length)]]) (bE QY ver 1 24<|hd0 1<|(a::t)++[([]:LI)++r]):=by
 refine .rows<|.cons (.cons (.hS (g:=false) (b:=4) hm) .nil) ?_;show StlRows m H (t.map (cL cI)++_) ((t++[([]:LI)++r]).map<|cL cI);rw [List.map_append];exact (StlRows.same (f:=cL cI) (λ_=>rfl) t).app<|.cons (.cons (.fz<|Fz.own (g:=false) (ver:=0+1) (f:=cI) (l:=([]:LI)++r) hb hk rfl nofun λ_=>rfl) .nil) .nil
theorem Kv {m:Nat} {H:AH}:∀ t:LL,FzRows m H (t.map<|cL cI) (t.map<|cL cI)
 | [] => .nil
 | _::t => .cons (.cons (.of_isF 9 _ rfl) .nil) (Kv t)
theorem LD {m:Nat} {H:AH} {v ver:Nat} {s:LL} (hm:Ww m 3=QX) (h3:H[3]? = QZ (bE s.isEmpty ver 1 24<|hd0 v s)) (h4:H[4]? = QZ (bk0 v s)):Fz m H (hS s.isEmpty 3 ver 1 s.length) (eL (cL cI) s):=by
 have hm4:Ww m 4=QX:=by
  have := nlb hm;exact Nat.ble_eq_true_of_le (by omega)
 cases s with
 | nil=>exact .nil0
 | cons a t=>
  refine Fz.rows (f:=cL cI) (l:=a::t) (rows:=hd0 v (a::t)) hm h3 (Es v (a::t)).symm<|.cons (.cons (Fz.own (g:=false) (ver:=v) (f:=cI) (l:=a) hm4 h4 rfl nofun λ_=>rfl) .nil) ?_;exact Kv t
theorem PZ {m:Nat} {H:AH} {v ver:Nat} {a:LI} {t:LL} (hm:Ww m 3=QX) (h3:H[3]? = QZ (bE QY ver 1 24<|hd0 v (a::t))):Fz m H (.hs 3 ver 1 (0+(1:Int).toNat)<|((((a::t).length:Nat):Int)).toNat-(1:Int).toNat) (eL (cL cI)<|((a::t).drop 1).take<|(a::t).length-1):=by
 have e:((a::t).drop 1).take ((a::t).length-1)=t:=by simp
 have hn:(((((a::t).length:Nat):Int)).toNat-(1:Int).toNat)=t.length:=by
  have : (((a::t).length:Nat):Int).toNat=(a::t).length:=tnn _;rw [this];rfl
 have row:∀ (i:Nat) (r:List AV),i<t.length->(hd0 v (a::t))[0+(1:Int).toNat+i]? = QZ r->r=cL cI (t.getD i QW):=λi r hi hr=>by
  have h1:(hd0 v (a::t))[0+(1:Int).toNat+i]? = (t.map<|cL cI)[i]? := by
   rw [show 0+(1:Int).toNat+i=i+1 by show 0+1+i=i+1;omega]
   rfl
  rw [h1,List.getElem?_map,geq hi] at hr;rw [gdq,geq hi];exact (osl hr).symm
 rw [e,hn];refine Fz.hs (k:=⟨ver,1,24,hd0 v (a::t)⟩) (nlb hm) h3 rfl rfl (by show (0+1)+t.length<=(hd0 v (a::t)).length;rw [Es];simp only [llc];omega) (λi r hi hr=>?_) (λi r j c d hi hr hc hd=>?_)
 ·rw [row i r hi hr]
 rw [row i r hi hr] at hc;obtain rfl:c=d:=osl<|hc.symm.trans hd;have hm':c∈cL cI (t.getD i QW):=List.mem_of_getElem? hc;obtain rfl:=List.mem_singleton.1 hm';exact .of_isF 9 _ rfl
theorem zW (r_:ae) (x:QI) (aJ:Nat) {q} (h:iW r_ x=QZ q):dX Q4 65 [.hp 0 aJ 2 0 0,.agg (QI.c x)] [QZ ⟨aJ,2,157,[(ae.c r_)]⟩] (.agg<|QI.c q.2) [QZ ⟨aJ,2,157,[(ae.c q.1)]⟩]:=by
 refine dX.mkT func65 Z (by kernel_rfl) Z (by kernel_rfl) (e0:=ai [(0,.hp 0 aJ 2 0 0),(1,.agg<|QI.c x)]) (QD Z<|QD Z wkN) ?_;unfold iW at h;obtain ⟨hp,h⟩:=gdL h;obtain ⟨hp1,hp2,hp3⟩:=LC hp;refine jI ?_;refine oN (QE.bxF [eL cI x.From,eL (cL cI) x.Order] Z Z Z) ?_;refine oA (EvA.al Gx Z Z) ?_;refine jA ?_;refine jI ?_;refine oN (lf (.agg<|QI.c x) yx Z) ?_;refine oI func128 Z Z Z (by kernel_rfl) Z Z Z (e0:=ai [(0,.agg<|QI.c x)]) (QD Z wkN) ?_;refine jI ?_;refine oN (QE.bxF [eL cI x.From,eL (cL cI) x.Order] Z Z Z) ?_;refine oA (EvA.al Gx Z Z) ?_;refine jA ?_;refine jH ?_;refine T.reserve ?_;refine T.reserve ?_;refine jC ?_;refine oA (EvA.mkO (c:=cI) ([]:LI) [] je Z Z Z qD Z Z) ?_;refine oN (fa Aj Z) ?_;refine oN (lf (eL cI x.From) El Z) ?_;refine oA (EvA.appF (l:=([]:LI)) x.From je (by kernel_rfl) Z Z Z (bh.fz (l:=x.From) Z qD)<|Nz (by simp;omega) Z) ?_;refine oN (QE.build [hS QY 5 (0+1) 1 ((([]:LI)++x.From).length),hS QX 3 0 1 0] Tryz.underlying27 Gx Aj Z Z) ?_;refine oA (EvA.al Gx Z Z) ?_;refine oV (sr [hS QY 5 (0+1) 1 ((([]:LI)++x.From).length),hS QX 3 0 1 0] yx Z Z Z Z) ?_;refine jA ?_;refine jH ?_;refine jI ?_;refine oN as' ?_;refine jA ?_;refine jE ?_;refine jO (S:=Nat) (G:=Nat) (E:=Nat) (x:=x.Order.length) (λi=>if i<x.Order.length then QZ (.inl<|i+1) else QZ (.inr i)) (λi _=>i<=x.Order.length)
  (λi _=>[(4,I (i:Nat)),(3,.hp 6 0 2 0 0),(2,.hp 2 0 2 0 0),(1,.fp (QI.c x) 0)])
  (λi u=>[QZ ⟨aJ,2,157,[(ae.c r_)]⟩,QZ ⟨0,2,27,[[.nil,.nil]]⟩,QZ ⟨0,2,27,[[.nil,.nil]]⟩,bE (x.Order.take i).isEmpty u 1 24 (hd0 1<|x.Order.take i),bk0 1 (x.Order.take i),bE QY (0+1) 1 3 ((([]:LI)++x.From).map cI),QZ ⟨0,2,27,[[hS QY 5 (0+1) 1 ((([]:LI)++x.From).length),hS (x.Order.take i).isEmpty 3 u 1 (x.Order.take i).length]]⟩]) (s0:=0) 0
  (EK (λi=>i) x.Order.length (λi hi=>by simp [hi])<|by simp) (Nat.zero_le _) (kw rfl rfl) (λi u z hz hle=>?_)
 have htl:(x.Order.take i).length=i:=by rw [List.length_take];omega
 generalize hs:x.Order.take i=s at htl ⊢;refine jH ?_;refine jI ?_;refine oN mv ?_;refine oN (fa Aj Z) ?_;refine oN (lf (eL (cL cI) x.Order) Ev Z) ?_;refine oN (QE.lenL wY Z) ?_;refine oN (QE.ilt Z Z) ?_;refine jA ?_;refine T.cond Z (λqc=>?_) λqc=>?_
 ·have hi:i<x.Order.length:=by have := of_decide_eq_true qc;omega
  rw [if_pos hi] at hz;obtain rfl:=osl hz;have hrow:=hp3 i;have htk:=PY x.Order hi;rw [hs] at htk;generalize hr:x.Order.getD i []=r at hrow htk;refine jG ?_;refine jH ?_;refine jE ?_
  cases s with
  | nil=>
   refine T.drawX [0,3,4,5,6,7,1,2,8,9,10,11,12] (λi=>([(QY,[]),(QY,[6]),(QX,[4]),(QY,[]),(QY,[]),(QY,[]),(QY,[]),(QY,[]),(QX,[4]),(QX,[]),(QX,[3]),(QY,[]),(QX,[6])]:List Xc).getD i (QY,[])) (by kernel_rfl) (by kernel_rfl) (by kernel_rfl) ?_;refine xN Z Z (fa Aj Z) ?_;refine xN Z Z (fa Aj Z) ?_;refine xN Z Z (lf (eL (cL cI) x.Order) Ev Z) ?_;refine xN Z Z mv ?_;refine xN Z Z (QE.ixL wY Z Z ⟨by omega,by omega⟩ qD) ?_;refine xN Z Z (lf (eL cI r) El<|by subst hr;rfl) ?_;refine xR [6] Z Z Z (λG hG=>EvA.loadhp (hS QX 3 u 1 0) Ev Z (hG.a0 Z) Z Z Z Z) ?_;refine xA Z Z (EvA.mkOR (c:=cI) 4 ([]:LI) [] je Z Z Z qD qD Z Z) bM ?_;refine xA Z Z (EvA.appF (l:=([]:LI)) r je (by kernel_rfl) Z Z Z (bh.fz (l:=r) Z qD)<|Nz (by simp;omega) Z) bM ?_;refine xA Z Z (EvA.mkR [[hS QY 4 (0+1) 1 (([]:LI)++r).length]] wY Z Z Z Z) pE ?_;refine xA Z Z (EvA.appR (g:=true) (rows:=([]:List<|List AV)) (rows':=[[hS QY 4 (0+1) 1 (([]:LI)++r).length]]) (n':=0+1) wY (by kernel_rfl) Z Z Z qD (bh.raw (rows:=[[hS QY 4 (0+1) 1 (([]:LI)++r).length]]) Z Z Z) (Nz (by simp) Z) Z Z) bM ?_;refine xN Z Z (fa Aj Z) ?_;refine xV Z Z (sr [hS QY 5 (0+1) 1 ((([]:LI)++x.From).length),hS QY 3 (u+1) 1 (0+1)] Ev Z Z Z Z) bM ?_;refine TX.nil ?_;refine T.cut (e0:=ai [(4,I (i:Nat)),(3,.hp 6 0 2 0 0),(2,.hp 2 0 2 0 0),(1,.fp (QI.c x) 0)]) (H0:=[QZ ⟨aJ,2,157,[(ae.c r_)]⟩,QZ ⟨0,2,27,[[.nil,.nil]]⟩,QZ ⟨0,2,27,[[.nil,.nil]]⟩,bE QY (u+1) 1 24 (hd0 1 [(([]:LI)++r)]),bk0 1 [(([]:LI)++r)],bE QY (0+1) 1 3 ((([]:LI)++x.From).map cI),QZ ⟨0,2,27,[[hS QY 5 (0+1) 1 ((([]:LI)++x.From).length),hS QY 3 (u+1) 1 (0+1)]]⟩]) (n9 Z (.cons (.row<|.cons (.fz<|qC Z)<|.cons (.fz<|qC Z) .nil)<|.cons (.row<|.cons (.fz<|qC Z)<|.cons (.fz<|qC Z) .nil)<|.cons (.row<|.cons (.fz<|qC Z)<|.cons (.fz<|qC Z) .nil)<|.cons (.row<|.cons (.hS (g:=false) (b:=4) Z) .nil)<|.cons (.list (g:=false) (ver:=0+1) (l:=(([]:LI)++r)) qD)<|.cons (.list (g:=false) (ver:=0+1) (l:=(([]:LI)++x.From)) qD)<|.cons (.row<|.cons (.hS (g:=false) (b:=5) Z)<|.cons (.hS (g:=false) (b:=3) Z) .nil) .nil)<|aj (.fz<|qC Z)<|aj (.hp<|nlb Z)<|aj (.hp<|nlb Z)<|aj (.fz<|qC Z) aF) ?_;refine jC ?_;refine oN mv ?_;refine oN (QE.add Z Z<|IntWalk.i64_in _ ⟨by omega,by omega⟩) ?_;refine oN (QE.asg (I (i+1:Nat)) Z) ?_;refine jA ?_;refine ⟨i+1,u+1,Z,hi,kw ?_ Z⟩;simp only [];rw [htk]
   rfl
  | cons a t=>
   refine T.drawX [0,3,4,5,6,7,1,2,8,9,10,11,12] (λi=>([(QY,[]),(QY,[6]),(QX,[]),(QY,[]),(QY,[]),(QY,[]),(QY,[]),(QY,[]),(QX,[7]),(QX,[]),(QX,[3]),(QY,[]),(QX,[6])]:List Xc).getD i (QY,[])) (by kernel_rfl) (by kernel_rfl) (by kernel_rfl) ?_;refine xN Z Z (fa Aj Z) ?_;refine xN Z Z (fa Aj Z) ?_;refine xN Z Z (lf (eL (cL cI) x.Order) Ev Z) ?_;refine xN Z Z mv ?_;refine xN Z Z (QE.ixL wY Z Z ⟨by omega,by omega⟩ qD) ?_;refine xN Z Z (lf (eL cI r) El<|by subst hr;rfl) ?_;refine xR [6] Z Z Z (λG hG=>EvA.loadhp (hS QY 3 u 1 (a::t).length) Ev Z (hG.a0 Z) Z Z Z Z) ?_;refine xA Z Z (EvA.mkO (c:=cI) ([]:LI) [] je Z Z Z qD Z Z) pE ?_;refine xA Z Z (EvA.appF (l:=([]:LI)) r je (by kernel_rfl) Z Z Z (bh.fz (l:=r) Z qD)<|Nz (by simp;omega) Z) bM ?_;refine xA Z Z (EvA.mkR [[hS QY 7 (0+1) 1 (([]:LI)++r).length]] wY Z Z Z Z) pE ?_;refine xA Z Z (EvA.appR (g:=false) (rows:=hd0 1 (a::t)) (rows':=hd0 1 (a::t)++[[hS QY 7 (0+1) 1 (([]:LI)++r).length]]) (n':=(a::t).length+1) wY (by kernel_rfl) Z Z (Es 1 (a::t)).symm nofun (bh.raw (rows:=[[hS QY 7 (0+1) 1 (([]:LI)++r).length]]) Z Z Z) (Nz (by have := htl;simp only [Es,llc,List.length_nil] at this ⊢;omega) Z) Z Z) bM ?_;refine xN Z Z (fa Aj Z) ?_;refine xV Z Z (sr [hS QY 5 (0+1) 1 ((([]:LI)++x.From).length),hS QY 3 (u+1) 1 ((a::t).length+1)] Ev Z Z Z Z) bM ?_;refine TX.nil ?_;refine T.cut (e0:=ai [(4,I (i:Nat)),(3,.hp 6 0 2 0 0),(2,.hp 2 0 2 0 0),(1,.fp (QI.c x) 0)]) (H0:=[QZ ⟨aJ,2,157,[(ae.c r_)]⟩,QZ ⟨0,2,27,[[.nil,.nil]]⟩,QZ ⟨0,2,27,[[.nil,.nil]]⟩,bE QY (u+1) 1 24 (hd0 1<|(a::t)++[(([]:LI)++r)]),bk0 1 ((a::t)++[(([]:LI)++r)]),bE QY (0+1) 1 3 ((([]:LI)++x.From).map cI),QZ ⟨0,2,27,[[hS QY 5 (0+1) 1 ((([]:LI)++x.From).length),hS QY 3 (u+1) 1 ((a::t).length+1)]]⟩]) (n9 Z (.cons (.row<|.cons (.fz<|qC Z)<|.cons (.fz<|qC Z) .nil)<|.cons (.row<|.cons (.fz<|qC Z)<|.cons (.fz<|qC Z) .nil)<|.cons (.row<|.cons (.fz<|qC Z)<|.cons (.fz<|qC Z) .nil)<|.cons (Pi Z Z Z)<|.cons (.list (g:=false) (ver:=1) (f:=cI) (l:=a) qD)<|.cons (.list (g:=false) (ver:=0+1) (l:=(([]:LI)++x.From)) qD)<|.cons (.row<|.cons (.hS (g:=false) (b:=5) Z)<|.cons (.hS (g:=false) (b:=3) Z) .nil) .nil)<|aj (.fz<|qC Z)<|aj (.hp<|nlb Z)<|aj (.hp<|nlb Z)<|aj (.fz<|qC Z) aF) ?_;refine jC ?_;refine oN mv ?_;refine oN (QE.add Z Z<|IntWalk.i64_in _ ⟨by omega,by omega⟩) ?_;refine oN (QE.asg (I (i+1:Nat)) Z) ?_;refine jA ?_;refine ⟨i+1,u+1,Z,hi,kw ?_ Z⟩;simp only [];rw [htk];simp only [lla,Wx];rfl
 have hi : ¬ i<x.Order.length:=by have := of_decide_eq_false qc;omega
 rw [if_neg hi] at hz;obtain rfl:=osl hz;refine jM ?_;refine ⟨_,Z,λhe=>?_⟩;subst he;rw [List.take_length] at hs;subst hs;refine jI ?_;refine oA (lh (.agg [hS QY 5 (0+1) 1 ((([]:LI)++x.From).length),hS x.Order.isEmpty 3 u 1 x.Order.length]) yx Z Z Z) ?_;refine oV (EvA.st (cs:=[hS QY 5 (0+1) 1 ((([]:LI)++x.From).length),hS x.Order.isEmpty 3 u 1 x.Order.length]) ⟨0,2,27,[[hS QY 5 (0+1) 1 ((([]:LI)++x.From).length),hS x.Order.isEmpty 3 u 1 x.Order.length]]⟩ yx Z (by generalize x.Order.isEmpty=gq0;cases gq0 <;> rfl) Z Z Z Z Z Z Z) ?_;refine jA ?_;refine jK ?_
 repeat first | refine jh ?_ | refine ji ?_
 refine ⟨ai [(2,.hp 2 0 2 0 0)],[QZ ⟨aJ,2,157,[(ae.c r_)]⟩,QZ ⟨0,2,27,[[.nil,.nil]]⟩,QZ ⟨0,2,27,[[hS QY 5 (0+1) 1 ((([]:LI)++x.From).length),hS x.Order.isEmpty 3 u 1 x.Order.length]]⟩,bE x.Order.isEmpty u 1 24 (hd0 1 x.Order),bk0 1 x.Order,bE QY (0+1) 1 3 ((([]:LI)++x.From).map cI),QZ ⟨0,2,27,[[hS QY 5 (0+1) 1 ((([]:LI)++x.From).length),hS x.Order.isEmpty 3 u 1 x.Order.length]]⟩],kw Z Z,?_⟩;refine jQ (vs:=[.agg [hS QY 5 (0+1) 1 ((([]:LI)++x.From).length),hS x.Order.isEmpty 3 u 1 x.Order.length]]) (.cons (.cell (.agg [hS QY 5 (0+1) 1 ((([]:LI)++x.From).length),hS x.Order.isEmpty 3 u 1 x.Order.length]) yx Z Z Z Z Z Z) .nil) ?_;refine oA (EvA.al Gx Z Z) ?_;refine oV (sr [hS QY 5 (0+1) 1 ((([]:LI)++x.From).length),hS x.Order.isEmpty 3 u 1 x.Order.length] yx Z Z Z Z) ?_;refine jA ?_;refine T.cut (e0:=ai [(5,.hp 7 0 2 0 0),(4,.hp 1 0 2 0 0),(0,.hp 0 aJ 2 0 0)]) (H0:=[QZ ⟨aJ,2,157,[(ae.c r_)]⟩,QZ ⟨0,2,27,[[.nil,.nil]]⟩,QZ ⟨0,2,27,[[hS QY 5 (0+1) 1 ((([]:LI)++x.From).length),hS x.Order.isEmpty 3 u 1 x.Order.length]]⟩,bE x.Order.isEmpty u 1 24 (hd0 1 x.Order),bk0 1 x.Order,bE QY (0+1) 1 3 ((([]:LI)++x.From).map cI),QZ ⟨0,2,27,[[hS QY 5 (0+1) 1 ((([]:LI)++x.From).length),hS x.Order.isEmpty 3 u 1 x.Order.length]]⟩,QZ ⟨0,2,27,[[hS QY 5 (0+1) 1 ((([]:LI)++x.From).length),hS x.Order.isEmpty 3 u 1 x.Order.length]]⟩]) (kw Z Z) ?_;refine T.joinF (G:=Unit) (λ_=>True) (λ_=>[(5,.fp [eL cI q.2.From,eL (cL cI) q.2.Order] 0),(4,.hp 1 0 2 0 0)]) (λ_=>[QZ ⟨aJ,2,157,[(ae.c q.1)]⟩,QZ ⟨0,2,27,[[.nil,.nil]]⟩]) (λ_ _=>?_) ?_
 ·clear h;refine jI ?_;refine oN (lf (.agg<|QI.c q.2) yx Z) ?_;refine oV (sr [eL cI q.2.From,eL (cL cI) q.2.Order] yx Z Z Z Z) ?_;refine jA ?_;refine jK ?_
  repeat first | refine jh ?_ | refine ji ?_
  exact ⟨ai [(4,.fp (QI.c q.2) 0)],[QZ ⟨aJ,2,157,[(ae.c q.1)]⟩],n9 Z (.cons (.row<|.cons (.fz<|qC Z)<|.cons (.fz<|qC Z) .nil) .nil)<|aj (.fz<|Fz.fpL (ver:=0) (s:=2) (ty:=27) (rows:=[[eL cI q.2.From,eL (cL cI) q.2.Order]]) Z Z Z<|.cons (qC Z)<|.cons (qC Z) .nil) aF,jQ (vs:=[.agg (QI.c q.2)]) (.cons (.cellF (.agg<|QI.c q.2) yx Z Z) .nil) ⟨Z,Z⟩⟩
 refine jI ?_;refine oN mv ?_;obtain ⟨v1,cv1,h⟩:=qg h;refine oA (EvA.call Z Z Z<|(av r_ (24:Int) aJ cv1).one 0 Z (.cons (.hp Z)<|.cons (.pF Z) .nil) (ak Z) (ak Z) Z) ?_;refine jA ?_;refine jE ?_;refine T.cut (e0:=ai [(9,I v1.2),(5,.hp 7 0 2 0 0),(4,.hp 1 0 2 0 0),(0,.hp 0 aJ 2 0 0)]) (H0:=[QZ ⟨aJ,2,157,[(ae.c v1.1)]⟩,QZ ⟨0,2,27,[[.nil,.nil]]⟩,QZ ⟨0,2,27,[[hS QY 5 (0+1) 1 ((([]:LI)++x.From).length),hS x.Order.isEmpty 3 u 1 x.Order.length]]⟩,bE x.Order.isEmpty u 1 24 (hd0 1 x.Order),bk0 1 x.Order,bE QY (0+1) 1 3 ((([]:LI)++x.From).map cI),QZ ⟨0,2,27,[[hS QY 5 (0+1) 1 ((([]:LI)++x.From).length),hS x.Order.isEmpty 3 u 1 x.Order.length]]⟩,QZ ⟨0,2,27,[[hS QY 5 (0+1) 1 ((([]:LI)++x.From).length),hS x.Order.isEmpty 3 u 1 x.Order.length]]⟩]) (kw Z Z) ?_;refine jI ?_;refine oN (QE.ieq Z Z) ?_;refine oN (QE.asg (Bo<|v1.2==U) Z) ?_;refine jA ?_;refine jN Z h (λq0 h=>?_) λq0 h=>?_
 ·obtain ⟨a1,ca,h⟩:=qg h;obtain ⟨b1,cb,h⟩:=qg h;obtain ⟨g1,h⟩:=gdD h;obtain rfl:=osl h;refine T.drawX [0,1,2,3,4,5,7,8,6,9,10,11] (λi=>([(QY,[]),(QY,[7]),(QY,[]),(QY,[]),(QY,[7]),(QY,[]),(QX,[0]),(QY,[]),(QY,[]),(QX,[0]),(QY,[]),(QX,[5])]:List Xc).getD i (QY,[])) (by kernel_rfl) (by kernel_rfl) (by kernel_rfl) ?_;refine xN Z Z (fa Aj Z) ?_;refine xR [7] Z Z Z (λG hG=>EvA.loadhp (hS QY 5 (0+1) 1<|(([]:LI)++x.From).length) El Z (hG.a0 Z) Z Z Z Z) ?_;refine xN Z Z mv ?_;refine xN Z Z (fa Aj Z) ?_;refine xR [7] Z Z Z (λG hG=>EvA.loadhp (hS QY 5 (0+1) 1<|(([]:LI)++x.From).length) El Z (hG.a0 Z) Z Z Z Z) ?_;refine xN Z Z (QE.lenO (g:=false) je Z nofun) ?_;refine xN Z Z mv ?_;refine xN Z Z (QE.mkF (c:=cI) ([(0:Int),(-1:Int),V,(99:Int),(3:Int)]:LI) [[I U],[I (-1:Int)],[I V],[I (99:Int)],[I (3:Int)]] je Z Z Z qD qD Z) ?_;refine xA Z Z (EvA.call Z Z Z<|(av v1.1 (x.From.length:Int) aJ ca).one 0 Z (.cons (.hp Z)<|.cons (.pF Z) .nil) (ak Z) (ak Z) Z) bM ?_;refine xA Z Z (EvA.call Z Z Z<|(bw a1.1 _ aJ cb).one 0 Z (.cons (.hp Z)<|.cons (.pF Z) .nil) (ak Z) (ak Z) Z) bM ?_;refine xN rfl rfl (QE.ixO (g:=false) je rfl rfl nofun ⟨g1.1,g1.2⟩) ?_;refine xV Z Z (EvA.stO (c:=cI) (l:=(([]:LI)++x.From)) b1.2 QS Z Z Z nofun (by have := g1;simp only [List.nil_append];omega) Z Z Z) bM ?_;refine TX.nil ?_;exact ⟨(),trivial,n9 Z (.cons (.row<|.cons (.fz<|qC Z)<|.cons (.fz<|qC Z) .nil)<|.cons (.row<|.cons (.fz<|qC Z)<|.cons (.fz<|qC Z) .nil) .nil)<|aj (.fz<|Fz.fpL (ver:=0) (s:=2) (ty:=27) (rows:=[[hS QY 5 (0+1) 1 ((([]:LI)++x.From).length),hS x.Order.isEmpty 3 u 1 x.Order.length]]) Z Z Z<|.cons (Fz.own (g:=false) (ver:=0+1) (f:=cI) (l:=((([]:LI)++x.From)).set a1.2.toNat b1.2) Z Z (by simp) nofun qD)<|.cons (LD Z Z Z) .nil)<|aj (.hp<|nlb Z) aF⟩
 refine jI ?_;refine oN (QE.ieq Z Z) ?_;refine oN (QE.asg (Bo<|v1.2==V) Z) ?_;refine jA ?_;refine jN Z h (λq1 h=>?_) λq1 h=>?_
 ·obtain rfl:=osl h;refine jC ?_;refine oN (fa Aj Z) ?_;refine oA (lh (hS QY 5 (0+1) 1<|(([]:LI)++x.From).length) El Z Z Z) ?_;refine oN (QE.mkF (c:=cI) ([(-1:Int)]:LI) [[I (-1:Int)]] je Z Z Z qD qD Z) ?_;refine oA (EvA.appF (l:=(([]:LI)++x.From)) [(-1:Int)] je (by kernel_rfl) Z Z Z (bh.fz (l:=[(-1:Int)]) Z qD)<|Nz (by simp;omega) Z) ?_;refine oN (fa Aj Z) ?_;refine oV (sr [hS QY 5 (0+1+1) 1 (((([]:LI)++x.From)++[(-1:Int)]).length),hS x.Order.isEmpty 3 u 1 x.Order.length] El Z Z Z Z) ?_;refine jA ?_;exact ⟨(),trivial,n9 Z (.cons (.row<|.cons (.fz<|qC Z)<|.cons (.fz<|qC Z) .nil)<|.cons (.row<|.cons (.fz<|qC Z)<|.cons (.fz<|qC Z) .nil) .nil)<|aj (.fz<|Fz.fpL (ver:=0) (s:=2) (ty:=27) (rows:=[[hS QY 5 (0+1+1) 1 (((([]:LI)++x.From)++[(-1:Int)]).length),hS x.Order.isEmpty 3 u 1 x.Order.length]]) Z Z Z<|.cons (Fz.own (g:=false) (ver:=0+1+1) (f:=cI) (l:=(([]:LI)++x.From)++[(-1:Int)]) Z Z Z nofun qD)<|.cons (LD Z Z Z) .nil)<|aj (.hp<|nlb Z) aF⟩
 refine jI ?_;refine oN (QE.ieq Z Z) ?_;refine oN (QE.asg (Bo<|v1.2==(2:Int)) Z) ?_;refine jA ?_;refine jN Z h (λq2 h=>?_) λq2 h=>?_
 ·obtain ⟨g2,h⟩:=gdD h;obtain rfl:=osl h;obtain ⟨xF,xO⟩:=x
  cases xO with
  | nil=>exact absurd g2 (by simp)
  | cons a t=>
  refine jC ?_;refine oN (fa Aj Z) ?_;refine oA (lh (hS QY 3 u 1 (a::t).length) Ev Z Z Z) ?_;refine oN (QE.slhs (h:=(((a::t).length:Nat):Int)) (l:=1) wY.u wY.ty Z (.yes Z) .no ⟨by omega,by simp only [llc];omega,Int.le_refl _⟩) ?_;refine oN (fa Aj Z) ?_;refine oV (sr [hS QY 5 (0+1) 1 ((([]:LI)++xF).length),.hs 3 u 1 (0+V.toNat) (((((a::t).length:Nat):Int)).toNat-V.toNat)] Ev Z Z Z Z) ?_;refine jA ?_;exact ⟨(),trivial,n9 Z (.cons (.row<|.cons (.fz<|qC Z)<|.cons (.fz<|qC Z) .nil)<|.cons (.row<|.cons (.fz<|qC Z)<|.cons (.fz<|qC Z) .nil) .nil)<|aj (.fz<|Fz.fpL (ver:=0) (s:=2) (ty:=27) (rows:=[[hS QY 5 (0+1) 1 ((([]:LI)++xF).length),.hs 3 u 1 (0+V.toNat) (((((a::t).length:Nat):Int)).toNat-V.toNat)]]) Z Z Z<|.cons (Fz.own (g:=false) (ver:=0+1) (f:=cI) (l:=(([]:LI)++xF)) Z Z Z nofun qD)<|.cons (PZ (a:=a) (t:=t) Z Z) .nil)<|aj (.hp<|nlb Z) aF⟩
 refine jI ?_;refine oN (QE.ieq Z Z) ?_;refine oN (QE.asg (Bo<|v1.2==(3:Int)) Z) ?_;refine jA ?_;refine jN Z h (λq3 h=>?_) λq3 h=>?_
 ·obtain ⟨g2,h⟩:=gdD h;obtain ⟨b1,cb,h⟩:=qg h;obtain rfl:=osl h;obtain ⟨xF,xO⟩:=x
  cases xO with
  | nil=>exact absurd g2 (by simp)
  | cons a t=>
  have ha:a.length<=1048576:=hp3 0;refine T.drawX [0,1,2,3,4,5,6,7,8,9,10,11,12] (λi=>([(QY,[]),(QY,[7]),(QY,[]),(QY,[7]),(QY,[]),(QY,[3]),(QY,[]),(QY,[]),(QX,[0]),(QY,[]),(QX,[4]),(QY,[]),(QX,[3])]:List Xc).getD i (QY,[])) (by kernel_rfl) (by kernel_rfl) (by kernel_rfl) ?_;refine xN Z Z (fa Aj Z) ?_;refine xR [7] Z Z Z (λG hG=>EvA.loadhp (hS QY 3 u 1 (a::t).length) Ev Z (hG.a0 Z) Z Z Z Z) ?_;refine xN Z Z (fa Aj Z) ?_;refine xR [7] Z Z Z (λG hG=>EvA.loadhp (hS QY 3 u 1 (a::t).length) Ev Z (hG.a0 Z) Z Z Z Z) ?_;refine xN rfl rfl (QE.ixO (g:=false) wY rfl rfl nofun ⟨by omega,by simp only [llc];omega⟩) ?_;refine xR [3] Z Z Z (λG hG=>EvA.loadhp (hS QY 4 1 1 a.length) El Z (hG.a0 Z) Z Z Z Z) ?_;refine xN Z Z mv ?_;refine xN Z Z (QE.mkF (c:=cI) ([(0:Int),(99:Int),(-1:Int)]:LI) [[I U],[I (99:Int)],[I (-1:Int)]] je Z Z Z qD qD Z) ?_;refine xA Z Z (EvA.call Z Z Z<|(bw v1.1 _ aJ cb).one 0 Z (.cons (.hp Z)<|.cons (.pF Z) .nil) (ak Z) (ak Z) Z) bM ?_;refine xN Z Z (QE.mkF (c:=cI) ([b1.2]:LI) [[I b1.2]] je Z Z Z qD qD Z) ?_;refine xA Z Z (EvA.appF (l:=a) [b1.2] je (by kernel_rfl) Z Z Z (bh.fz (l:=[b1.2]) Z qD)<|Nz (by simp;omega) Z) bM ?_;refine xN rfl rfl (QE.ixO (g:=false) wY rfl rfl nofun ⟨by omega,by simp only [llc];omega⟩) ?_;refine xV Z Z (EvA.st (cs:=[hS QY 4 (1+1) 1 ((a++[b1.2]).length)]) ⟨u,1,24,hd0 (1+1) ((a++[b1.2])::t)⟩ El Z Z Z Z Z Z Z Z Z) bM ?_;refine TX.nil ?_;exact ⟨(),trivial,n9 Z (.cons (.row<|.cons (.fz<|qC Z)<|.cons (.fz<|qC Z) .nil)<|.cons (.row<|.cons (.fz<|qC Z)<|.cons (.fz<|qC Z) .nil) .nil)<|aj (.fz<|Fz.fpL (ver:=0) (s:=2) (ty:=27) (rows:=[[hS QY 5 (0+1) 1 ((([]:LI)++xF).length),hS QY 3 u 1 (a::t).length]]) Z Z Z<|.cons (Fz.own (g:=false) (ver:=0+1) (f:=cI) (l:=(([]:LI)++xF)) Z Z Z nofun qD)<|.cons (LD (v:=1+1) (s:=(a++[b1.2])::t) Z Z Z) .nil)<|aj (.hp<|nlb Z) aF⟩
 refine jI ?_;refine oN (QE.ieq Z Z) ?_;refine oN (QE.asg (Bo<|v1.2==(4:Int)) Z) ?_;refine jA ?_;refine jN Z h (λq4 h=>?_) λq4 h=>?_
 ·obtain ⟨g2,h⟩:=gdD h;obtain rfl:=osl h;obtain ⟨xF,xO⟩:=x
  cases xO with
  | nil=>exact absurd g2 (by simp)
  | cons a t=>
  refine jC ?_;refine oN (fa Aj Z) ?_;refine oA (lh (hS QY 3 u 1 (a::t).length) Ev Z Z Z) ?_;refine oN (QE.mkF (c:=cI) ([]:LI) [] je Z Z Z qD qD Z) ?_;refine oN (QE.ixO (g:=false) wY rfl rfl nofun ⟨by omega,by simp only [llc];omega⟩) ?_;refine oV (EvA.st (cs:=[eL cI ([]:LI)]) ⟨u,1,24,(([]:LI)::t).map<|cL cI⟩ El Z Z Z Z Z Z Z Z Z) ?_;refine jA ?_;exact ⟨(),trivial,n9 Z (.cons (.row<|.cons (.fz<|qC Z)<|.cons (.fz<|qC Z) .nil)<|.cons (.row<|.cons (.fz<|qC Z)<|.cons (.fz<|qC Z) .nil) .nil)<|aj (.fz<|Fz.fpL (ver:=0) (s:=2) (ty:=27) (rows:=[[hS QY 5 (0+1) 1 ((([]:LI)++xF).length),hS QY 3 u 1 (a::t).length]]) Z Z Z<|.cons (Fz.own (g:=false) (ver:=0+1) (f:=cI) (l:=(([]:LI)++xF)) Z Z Z nofun qD)<|.cons (Fz.own (g:=false) (ver:=u) (f:=cL cI) (l:=([]:LI)::t) Z Z Z nofun qD) .nil)<|aj (.hp<|nlb Z) aF⟩
 obtain rfl:=osl h;refine jG ?_;exact ⟨(),trivial,n9 Z (.cons (.row<|.cons (.fz<|qC Z)<|.cons (.fz<|qC Z) .nil)<|.cons (.row<|.cons (.fz<|qC Z)<|.cons (.fz<|qC Z) .nil) .nil)<|aj (.fz<|Fz.fpL (ver:=0) (s:=2) (ty:=27) (rows:=[[hS QY 5 (0+1) 1 ((([]:LI)++x.From).length),hS x.Order.isEmpty 3 u 1 x.Order.length]]) Z Z Z<|.cons (Fz.own (g:=false) (ver:=0+1) (f:=cI) (l:=(([]:LI)++x.From)) Z Z Z nofun qD)<|.cons (LD Z Z Z) .nil)<|aj (.hp<|nlb Z) aF⟩
theorem NK.row {r o:Option ABlk} {K:AH} {gh:NG} {w:Nat} {ty:TypeId} {f:QH->List AV} {l:List (List QH)} (h:NK 2 (r::o::K) gh w ty f l) {i:Nat} (hi:i<l.length):∃ g k v,gh i=(g,k+2,v)/\k<K.length/\K[k]? = QZ (bE g v w ty<|(l.getD i []).map f)/\(g=QX->l.getD i []=[]):=by
 obtain ⟨h1,h2⟩:=h.at_ i hi;have h3:=h.nil_ i hi;generalize he:gh i=x at h1 h2 h3;obtain ⟨g,id,v⟩:=x;simp only at h1 h2 h3;obtain ⟨k,rfl⟩:∃ k,id=k+2:=⟨id-2,by omega⟩;simp only [Wy] at h2;exact ⟨g,k,v,rfl,(ges h2).1,h2,h3⟩
theorem NK.turn {r o r' o':Option ABlk} {K:AH} {gh:NG} {w:Nat} {ty:TypeId} {f:QH->List AV} {l:List (List QH)} (h:NK 2 (r::o::K) gh w ty f l) {i:Nat} (hi:i<l.length) {g:Bool} {k v:Nat} (he:gh i=(g,k+2,v)) {g':Bool} {v':Nat} {x:List QH} (hg:g'=QX->x=[]) :
  NK 2 (r'::o'::K.set k (bE g' v' w ty<|x.map f)) (gh.put i (g',k+2,v')) w ty f (l.set i x):=by
 have h1:=h.set hi (g:=g') (ver:=v') (r:=x) hg;rw [he] at h1;refine h1.low λb hb _=>?_
 match b,hb with
 | b+2,_=>simp [Wy]

end
end Go.Proofs.YtabfkkjdfhbngaaGreatDoor
