/- Texts joined. No conditions. -/
import Derived.Test.YtabfkkjdfhbngaaGreatDoorV11
namespace Go.Proofs.YtabfkkjdfhbngaaGreatDoor
noncomputable section
open _root_.Inhabited renaming default -> QW
open _root_.Bool renaming true -> QX
open _root_.Bool renaming false -> QY
open _root_.Option renaming some -> QZ
open _root_.Decidable renaming decide -> Q3
open _root_.Go.Proofs.Tryz
open _root_.Go.Proofs.Tryz renaming prog -> Q4
set_option maxHeartbeats 4000000
open Go.RowKit
set_option maxRecDepth 100000
attribute [local irreducible] T TO TF TG TX QE EvA
theorem nW (s:List BA) (v:BA) {q} (h:bK s v=QZ q):ax Q4 87 [eL cS s,St v] (I q):=by
 refine pM func87 Z (by kernel_rfl) Z<|go h λ_ h=>?_;obtain ⟨Ks1,es1,ws1,h,ks1⟩:=tX h;refine T.join (S:=Unit) (G:=Unit) (λs1=>Ks1 s1=QZ q) (λs1 gh=>True) (λs1 gh=>[]) (λs1 gh=>[]) (λs1 gh h hg=>?_) ?_
 ·clear ks1;subst es1;exact gz h
 refine go h λ_ h=>?_;refine tU h (λs4=>[(8,I s4),(7,I (s.length:Int)),(0,eL cS s),(1,St v)]) (λs4=>[]) λs4 ws4 h=>?_;refine go h λ_ h=>?_;refine jH ?_;refine jN Z h (λq6 h=>?_) λq6 h=>?_
 ·refine go h λ_ h=>?_;refine QT h (λ_ q8 h=>?_) λ_ q8 h=>?_
  ·refine go h λ_ h=>?_;refine lX h λh=>?_;obtain rfl:=QG h;replace h:=congrArg QZ (show _=_ from ks1);exact gz h
  refine go h λ_ h=>?_;exact lE h QU
 refine jM<|lX h λh=>?_
 cases h
 exact ⟨(),(),ks1,trivial,QU⟩
theorem zD (op:Int) {q} (h:lI op=QZ q):ax Q4 211 [I op] (.tup [I q.1,St q.2.1,I q.2.2]):=by
 refine pM func211 Z (by kernel_rfl) Z<|go h λ_ h=>?_;refine QT h (λ_ q1 h=>?_) λ_ q1 h=>?_
 ·exact gf h
 refine gi h (λ_ q2 h=>?_) λ_ q2 h=>?_
 ·exact gf h
 refine gi h (λ_ q3 h=>?_) λ_ q3 h=>?_
 ·exact gf h
 refine gi h (λ_ q4 h=>?_) λ_ q4 h=>?_
 ·exact gf h
 refine gi h (λ_ q5 h=>?_) λ_ q5 h=>?_
 ·exact gf h
 refine gi h (λ_ q6 h=>?_) λ_ q6 h=>?_
 ·exact gf h
 refine gi h (λ_ q7 h=>?_) λ_ q7 h=>?_
 ·exact gf h
 exact gf h
theorem mq (s:List BA) (v:BA) {q} (h:bX s v=QZ q):ax Q4 259 [eL cS s,St v] (Bo q):=by
 refine pM func259 Z (by kernel_rfl) Z<|go h λ_ h=>?_;refine oC h (λ_=>nW _ _) Z Z Z Z λv1 _ h=>?_;exact gz h
theorem yB (name:BA) {q} (h:ia name=QZ q):ax Q4 214 [St name] (Bo q):=by
 refine pM func214 Z (by kernel_rfl) Z<|go h λ_ h=>?_;refine oN (QE.slG (c:=cS) Bh Tryz.underlying255 ty9 Z Z Z KU)<|go h λ_ h=>?_;refine oC h (λ_=>mq _ _) Z Z Z Z λv1 _ h=>?_;exact gz h
theorem zE:∀ (nf:Nat) (e_:aa) (most:Int) {q} (h:dO nf e_ most=QZ q),ax Q4 151 [.agg (aa.c e_),I most] (I q):=by
 intro nf
 induction nf with
 | zero=>intros;rename_i h;cases h
 | succ nf ih=>
  intro e_ most q h;replace h:kF (dO nf) e_ most=QZ q:=h;refine pM func151 Z (by kernel_rfl) Z<|go h λ_ h=>?_;refine eF Z Z Z<|go h λ_ h=>?_;refine oC h (λ_=>zD _) Z Z Z Z λv1 _ h=>(go h λ_ h=>?_);obtain ⟨Ks2,es2,ws2,h,ks2⟩:=tX h;refine T.join (S:=Unit) (G:=Unit) (λs2=>Ks2 s2=QZ q) (λs2 gh=>True) (λs2 gh=>[(2,.fp (aa.c e_) 0),(1,I most)]) (λs2 gh=>[]) (λs2 gh h hg=>?_) ?_
  ·clear ks2;subst es2;refine go h λ_ h=>?_;refine T.jU h (λs10=>[(8,I s10)]) (λs10=>[]) (λs10 h=>?_) λs10 h=>?_
   ·exact gz h
   refine go h λ_ h=>?_;refine tU h (λs13=>[(49,I s13.1),(48,I (e_.Kids.length:Int)),(47,eL ZTE.c e_.Kids),(8,I s13.2),(1,I most)]) (λs13=>[]) λs13 ws13 h=>?_;refine go h λ_ h=>?_;refine jH ?_;refine jN Z h (λq15 h=>?_) λq15 h=>?_
   ·refine go h λ_ h=>?_;refine gs h λ_ h=>?_;refine jD h λg16 h=>oN (QE.res (QE.ixL ut Z Z g16 ZTE.len) (r' := .fp (aa.c (J e_.Kids s13.1).out) 0) λ_ _ hr=>rM (ZTE.out_c _) hr)<|go h λ_ h=>?_;refine oC h (λ_=>ih _ _) Z Z Z Z λv18 _ h=>?_;refine gi h (λ_ q20 h=>?_) λ_ q20 h=>?_
    ·refine jM<|lX h λh=>?_
     cases h
     exact ⟨(),trivial,QU⟩
    refine go h λ_ h=>?_;exact lE h QU
   refine jM<|lX h λh=>?_
   cases h
   exact ⟨(),trivial,QU⟩
  refine T.jU h (λs3=>[(45,Bo s3),(2,.fp (aa.c e_) 0),(1,I most)]) (λs3=>[]) (λs3 h=>?_) λs3 h=>?_
  ·refine jN Z h (λq9 h=>?_) λq9 h=>?_
   ·refine go h λ_ h=>?_;obtain rfl:=QG h;replace h:=congrArg QZ (show _=_ from ks2);exact gz h
   refine go h λ_ h=>?_
   cases h
   exact ⟨(),(),ks2,trivial,QU⟩
  refine T.drawG (λ_=>([],QY)) (by kernel_rfl) (by kernel_rfl)<|go h λ_ h=>?_;rcases yh h with ⟨q4,h⟩ | ⟨q4,h⟩
  ·refine gp h λ_ h=>?_;refine gp h λ_ h=>?_;refine gp h λ_ h=>?_;refine go h λ_ h=>?_
   cases h
   exact ⟨(),trivial,QU⟩
  refine gp h λ_ h=>?_;refine go h λ_ h=>?_;rcases yh h with ⟨q5,h⟩ | ⟨q5,h⟩
  ·refine gp h λ_ h=>?_;refine gp h λ_ h=>?_;refine go h λ_ h=>?_
   cases h
   exact ⟨(),trivial,QU⟩
  refine go h λ_ h=>?_;refine jB h λv6 cv6 h=>tgN Z q5 Z (QE.call Z Z Z (yB e_.Name cv6) Z)<|tgN Z q5 Z (QE.bne bt4 Z Z) ?_;refine gp h λ_ h=>?_;refine go h λ_ h=>?_;rcases yh h with ⟨q7,h⟩ | ⟨q7,h⟩
  ·refine gp h λ_ h=>?_;refine go h λ_ h=>?_
   cases h
   exact ⟨(),trivial,QU⟩
  refine go h λ_ h=>?_;rcases yh h with ⟨q8,h⟩ | ⟨q8,h⟩
  ·refine go h λ_ h=>?_;refine tgN Z q7 Z (QE.pickT Z q8 (Bo<|!decide (e_.Name=(⟨#[]⟩:BA))) Z)<|gp h λ_ h=>?_;refine go h λ_ h=>?_
   cases h
   exact ⟨(),trivial,QU⟩
  refine go h λ_ h=>?_;refine tgN Z q7 Z (QE.pickF Z q8 (Bo QY) Z)<|gp h λ_ h=>?_;refine go h λ_ h=>?_
  cases h
  exact ⟨(),trivial,QU⟩
theorem Au (e_:aa) (most:Int) {q} (h:wS e_ most=QZ q):ax Q4 151 [.agg (aa.c e_),I most] (I q):=by
 obtain ⟨nf,h⟩:=lG h;exact zE nf e_ most h
theorem vK (e_:aa) {q} (h:gJ e_=QZ q):ax Q4 92 [.agg (aa.c e_)] (Bo q):=by
 refine pM func92 Z (by kernel_rfl) Z<|go h λ_ h=>?_;refine eF Z Z Z<|go h λ_ h=>?_;refine oC h (λ_=>Au _ _) Z Z Z Z λv1 _ h=>?_;exact gz h
theorem vL (x:Int) (low:Int) (high:Int) {q} (h:lJ x low high=QZ q):ax Q4 77 [I x,I low,I high] (Bo q):=by
 refine pM func77 Z (by kernel_rfl) Z<|go h λ_ h=>?_;refine TO.jB h 4 (λs1=>[(14,Bo s1)]) (λs1=>[]) (λs1 q2 h js1=>?_) (λs1 q2 h js1=>?_) λs1 h=>?_
 ·exact gj h js1
 ·exact gj h js1
 exact gz h
theorem vM (r_:ah) {q} (h:kR r_=QZ q):ax Q4 91 [.agg (ah.c r_)] (Bo q):=by
 refine pM func91 Z (by kernel_rfl) Z<|go h λ_ h=>?_;refine eF Z Z Z<|go h λ_ h=>?_;refine oC h (λ_=>vL _ _ _) Z Z Z Z λv1 _ h=>(go h λ_ h=>?_);refine TO.jB h 5 (λs2=>[(12,Bo s2)]) (λs2=>[]) (λs2 q3 h js2=>?_) (λs2 q3 h js2=>?_) λs2 h=>?_
 ·exact gj h js2
 ·refine go h λ_ h=>?_;refine jB h λv4 cv4 h=>gN Z q3 (QE.call Z Z Z (vK r_.Expr cv4) Z) ?_;exact gj h js2
 exact gz h
theorem cn (s:List ah) {q} (h:aD s=QZ q):ax Q4 150 [eL ah.c s,.fn (.func 91) []] (I q):=by
 refine pM func150 Z (by kernel_rfl) Z<|go h λ_ h=>?_;obtain ⟨Ks1,es1,ws1,h,ks1⟩:=tX h;refine T.join (S:=Unit) (G:=Unit) (λs1=>Ks1 s1=QZ q) (λs1 gh=>True) (λs1 gh=>[]) (λs1 gh=>[]) (λs1 gh h hg=>?_) ?_
 ·clear ks1;subst es1;exact gz h
 refine go h λ_ h=>?_;refine tU h (λs4=>[(8,I s4),(7,I (s.length:Int)),(0,eL ah.c s),(1,.fn (.func 91) [])]) (λs4=>[]) λs4 ws4 h=>?_;refine go h λ_ h=>?_;refine jH ?_;refine jN Z h (λq6 h=>?_) λq6 h=>?_
 ·refine go h λ_ h=>?_;refine gs h λ_ h=>?_;refine oC h (λ_=>vM _) Z Z Z Z λv8 _ h=>?_;refine gi h (λ_ q9 h=>?_) λ_ q9 h=>?_
  ·refine go h λ_ h=>?_;refine lX h λh=>?_;obtain rfl:=QG h;replace h:=congrArg QZ (show _=_ from ks1);exact gz h
  refine go h λ_ h=>?_;exact lE h QU
 refine jM<|lX h λh=>?_
 cases h
 exact ⟨(),(),ks1,trivial,QU⟩
theorem bQ (s:List ah) {q} (h:aC s=QZ q):ax Q4 90 [eL ah.c s,.fn (.func 91) []] (Bo q):=by
 refine pM func90 Z (by kernel_rfl) Z<|go h λ_ h=>?_;refine oC h (λ_=>cn _) Z Z Z Z λv1 _ h=>?_;exact gz h
theorem qM (m:List ah) {q} (h:bY m=QZ q):ax Q4 38 [eL ah.c m] (Bo q):=by
 refine pM func38 Z (by kernel_rfl) Z<|go h λ_ h=>?_;refine oC h (λ_=>vL _ _ _) Z Z Z Z λv1 _ h=>(go h λ_ h=>?_);refine TO.jB h 4 (λs2=>[(10,Bo s2)]) (λs2=>[]) (λs2 q3 h js2=>?_) (λs2 q3 h js2=>?_) λs2 h=>?_
 ·refine go h λ_ h=>?_;refine jB h λv4 cv4 h=>gN Z q3 (QE.call Z Z Z (bQ m cv4) Z) ?_;exact gj h js2
 ·exact gj h js2
 exact gz h
theorem mL (x:QI) (loc:Int) (i:Int) (k_:Int) {q} (h:cZ x loc i k_=QZ q):ax Q4 260 [.agg (QI.c x),I loc,I i,I k_] (Bo q):=by
 refine pM func260 Z (by kernel_rfl) Z<|go h λ_ h=>?_;refine eF Z Z Z<|go h λ_ h=>?_;refine jH<|T.drawP (by kernel_rfl) (by kernel_rfl) ?_;refine go h λf h=>?_;obtain ⟨g1,_⟩:=f;refine fC h (λ_=>gB _ _) Z Z Z Z Z λv2 _ h=>(go h λ_ h=>?_);refine fC h (λ_=>gB _ _) Z Z Z Z Z λv3 _ h=>(go h λ_ h=>?_);refine TO.jB h 3 (λs4=>[(30,Bo s4),(10,I v3),(9,I v2)]) (λs4=>[]) (λs4 q5 h js4=>?_) (λs4 q5 h js4=>?_) λs4 h=>?_
 ·exact gj h js4
 ·exact gj h js4
 refine go h λ_ h=>?_;refine TO.jB h 4 (λs6=>[(35,Bo s6)]) (λs6=>[]) (λs6 q7 h js6=>?_) (λs6 q7 h js6=>?_) λs6 h=>?_
 ·exact gj h js6
 ·exact gj h js6
 exact gz h
theorem zF (y:QH) {q} (h:qo y=QZ q):ax Q4 262 [.agg (QH.c y)] (Bo q):=by
 refine pM func262 Z (by kernel_rfl) Z<|go h λ_ h=>?_;refine eF Z Z Z ?_;exact gz h
theorem cN (s:List QH) {q} (h:aG s=QZ q):ax Q4 279 [eL QH.c s,.fn (.func 262) []] (I q):=by
 refine pM func279 Z (by kernel_rfl) Z<|go h λ_ h=>?_;obtain ⟨Ks1,es1,ws1,h,ks1⟩:=tX h;refine T.join (S:=Unit) (G:=Unit) (λs1=>Ks1 s1=QZ q) (λs1 gh=>True) (λs1 gh=>[]) (λs1 gh=>[]) (λs1 gh h hg=>?_) ?_
 ·clear ks1;subst es1;exact gz h
 refine go h λ_ h=>?_;refine tU h (λs4=>[(8,I s4),(7,I (s.length:Int)),(0,eL QH.c s),(1,.fn (.func 262) [])]) (λs4=>[]) λs4 ws4 h=>?_;refine go h λ_ h=>?_;refine jH ?_;refine jN Z h (λq6 h=>?_) λq6 h=>?_
 ·refine go h λ_ h=>?_;refine gs h λ_ h=>?_;refine oC h (λ_=>zF _) Z Z Z Z λv8 _ h=>?_;refine gi h (λ_ q9 h=>?_) λ_ q9 h=>?_
  ·refine go h λ_ h=>?_;refine lX h λh=>?_;obtain rfl:=QG h;replace h:=congrArg QZ (show _=_ from ks1);exact gz h
  refine go h λ_ h=>?_;exact lE h QU
 refine jM<|lX h λh=>?_
 cases h
 exact ⟨(),(),ks1,trivial,QU⟩
theorem bW (s:List QH) {q} (h:az s=QZ q):ax Q4 261 [eL QH.c s,.fn (.func 262) []] (Bo q):=by
 refine pM func261 Z (by kernel_rfl) Z<|go h λ_ h=>?_;refine oC h (λ_=>cN _) Z Z Z Z λv1 _ h=>?_;exact gz h
theorem gX (e_:QJ) (writes:Bool) {q} (h:bZ e_ writes=QZ q):ax Q4 263 [.agg (QJ.c e_),Bo writes] (Bo q):=by
 refine pM func263 Z (by kernel_rfl) Z<|go h λ_ h=>?_;refine eF Z Z Z<|go h λ_ h=>?_;refine oN (QE.beq bt4 Z Z)<|go h λ_ h=>?_;refine TO.jB h 5 (λs1=>[(14,Bo s1)]) (λs1=>[]) (λs1 q2 h js1=>?_) (λs1 q2 h js1=>?_) λs1 h=>?_
 ·refine go h λ_ h=>?_;refine gN Z q2 (QE.bne bt4 Z Z) ?_;exact gj h js1
 ·exact gj h js1
 exact gz h
theorem Cu (p:List<|List QH) (x:QI) (list:List QJ) (name:BA) (i:Int) (k_:Int) {q} (h:pI p x list name i k_=QZ q):ax Q4 217 [eL (cL QH.c) p,.agg (QI.c x),eL QJ.c list,St name,I i,I k_] (Bo q):=by
 let d1:=QJ.c<|J list i;let d0:=QJ.c<|J list k_;refine pM func217 Z (by kernel_rfl) Z<|go h λ_ h=>?_;refine eF Z Z Z<|gq h λ_ h=>?_;refine jH<|T.reserve<|T.reserve<|jP (dG [dF,dF,dF,dF,dF,dF,dF,dF,([0],QX),([1],QX),([0],QX),([1],QX)]) (by kernel_rfl) (by kernel_rfl) ?_;refine go h λ_ h=>?_;refine fW 0 [] Z Z (λG hG=>EvA.alR 0 PN Z Z<|hG.a0 Z)<|fW 1 [] Z Z (λG hG=>EvA.alR 1 PN Z Z<|hG.a0 Z) ?_;refine go h λ_ h=>?_;refine TO.jB h 6 (λs3=>[(33,Bo s3),(14,.hp 1 0 5 0 0),(13,.hp 0 0 5 0 0),(7,.fp (QI.c x) 0),(0,eL (cL QH.c) p),(3,St name),(4,I i),(5,I k_)]) (λs3=>[QZ ⟨0,5,60,[d1]⟩,QZ ⟨0,5,60,[d0]⟩]) (λs3 q4 h js3=>?_) (λs3 q4 h js3=>?_) λs3 h=>?_
 ·refine go h λ_ h=>?_;refine gA Z q4 (lh (I<|(J list i).Thread) QS Z Z Z)<|go h λ_ h=>?_;refine gA Z q4 (lh (I<|(J list k_).Thread) QS Z Z Z) ?_;exact gj h js3
 ·exact gj h js3
 refine go h λ_ h=>?_;refine TO.jB h 6 (λs5=>[(40,Bo s5),(14,.hp 1 0 5 0 0),(13,.hp 0 0 5 0 0),(7,.fp (QI.c x) 0),(0,eL (cL QH.c) p),(3,St name),(4,I i),(5,I k_)]) (λs5=>[QZ ⟨0,5,60,[d1]⟩,QZ ⟨0,5,60,[d0]⟩]) (λs5 q6 h js5=>?_) (λs5 q6 h js5=>?_) λs5 h=>?_
 ·refine go h λ_ h=>?_;refine gA Z q6 (lh (I<|(J list i).Index) QS Z Z Z)<|go h λ_ h=>?_;refine gA Z q6 (lh (I<|(J list k_).Index) QS Z Z Z) ?_;exact gj h js5
 ·exact gj h js5
 refine go h λ_ h=>?_;obtain ⟨Ks7,es7,ws7,h,ks7⟩:=tX h;refine T.join (S:=Unit) (G:=Unit) (λs7=>Ks7 s7=QZ q) (λs7 gh=>True) (λs7 gh=>[(4,I i),(5,I k_)]) (λs7 gh=>[QZ ⟨0,5,60,[d1]⟩,QZ ⟨0,5,60,[d0]⟩]) (λs7 gh h hg=>?_) ?_
 ·clear ks7;subst es7;exact gz h
 refine gi h (λ_ q8 h=>?_) λ_ q8 h=>?_
 ·refine go h λ_ h=>?_;obtain rfl:=QG h;replace h:=congrArg QZ (show _=_ from ks7);exact gz h
 refine gi h (λ_ q9 h=>?_) λ_ q9 h=>?_
 ·refine go h λ_ h=>?_;obtain rfl:=QG h;replace h:=congrArg QZ (show _=_ from ks7);exact gz h
 refine gi h (λ_ q10 h=>?_) λ_ q10 h=>?_
 ·refine go h λ_ h=>?_;refine TO.jB h 4 (λs11=>[(63,Bo s11)]) (λs11=>[QZ ⟨0,5,60,[d1]⟩,QZ ⟨0,5,60,[d0]⟩]) (λs11 q12 h js11=>?_) (λs11 q12 h js11=>?_) λs11 h=>?_
  ·exact gj h js11
  ·refine go h λ_ h=>?_;refine gA Z q12 (lh (I<|(J list i).Thread) QS Z Z Z) ?_;exact gj h js11
  refine go h λ_ h=>?_;obtain rfl:=QG h;replace h:=congrArg QZ (show _=_ from ks7);exact gz h
 refine gi h (λ_ q13 h=>?_) λ_ q13 h=>?_
 ·refine go h λ_ h=>?_;obtain rfl:=QG h;replace h:=congrArg QZ (show _=_ from ks7);exact gz h
 refine gi h (λ_ q15 h=>?_) λ_ q15 h=>?_
 ·refine go h λ_ h=>?_;refine oC h (λ_=>mL _ _ _ _) Z Z Z Z λv16 _ h=>(go h λ_ h=>?_);obtain rfl:=QG h;replace h:=congrArg QZ (show _=_ from ks7);exact gz h
 refine gi h (λ_ q17 h=>?_) λ_ q17 h=>?_
 ·refine T.jU h (λs18=>[(12,Bo s18)]) (λs18=>[QZ ⟨0,5,60,[d1]⟩,QZ ⟨0,5,60,[d0]⟩]) (λs18 h=>?_) λs18 h=>?_
  ·refine go h λ_ h=>?_;obtain rfl:=QG h;replace h:=congrArg QZ (show _=_ from ks7);exact gz h
  refine T.cl [14,13,7,4,5] Z<|T.drawG (dG [dF,([0],QY),dF,dF,([1],QY),dF,dF,dF,dF,dF,dF,dF,dF,dF,([0],QY),dF,dF,dF,dF,dF,dF,dF,dF,dF]) (by kernel_rfl) (by kernel_rfl) ?_;refine go h λ_ h=>?_;rcases yh h with ⟨q19,h⟩ | ⟨q19,h⟩
  ·refine go h λ_ h=>?_;refine tgR Z q19 [1] Z (λG hG=>EvA.loadhp (Bo<|(J list k_).aH) ty4 Z (hG.a0 Z) Z Z Z Z)<|gp h λ_ h=>?_;refine go h λ_ h=>?_;rcases yh h with ⟨q20,h⟩ | ⟨q20,h⟩
   ·refine gp h λ_ h=>?_;refine go h λ_ h=>?_;rcases yh h with ⟨q21,h⟩ | ⟨q21,h⟩
    ·refine go h λ_ h=>?_;refine tgR Z q21 [0] Z (λG hG=>EvA.loadhp (I<|(J list i).Loc) QS Z (hG.a0 Z) Z Z Z Z)<|go h λ_ h=>?_;refine jB h λv23 cv23 h=>tgN Z q21 Z (QE.call Z Z Z (mL x ((J list i).Loc) (J x.From i) k_ cv23) Z)<|gp h λ_ h=>?_;refine go h λ_ h=>?_
     cases h
     exact ⟨(),trivial,QU⟩
    refine gp h λ_ h=>?_;refine go h λ_ h=>?_
    cases h
    exact ⟨(),trivial,QU⟩
   refine gp h λ_ h=>?_;refine gp h λ_ h=>?_;refine go h λ_ h=>?_
   cases h
   exact ⟨(),trivial,QU⟩
  refine gp h λ_ h=>?_;refine gp h λ_ h=>?_;refine gp h λ_ h=>?_;refine go h λ_ h=>?_
  cases h
  exact ⟨(),trivial,QU⟩
 refine gi h (λ_ q24 h=>?_) λ_ q24 h=>?_
 ·refine T.jU h (λs25=>[(12,Bo s25)]) (λs25=>[QZ ⟨0,5,60,[d1]⟩,QZ ⟨0,5,60,[d0]⟩]) (λs25 h=>?_) λs25 h=>?_
  ·refine go h λ_ h=>?_;obtain rfl:=QG h;replace h:=congrArg QZ (show _=_ from ks7);exact gz h
  refine T.cl [15,14,13,0] Z<|T.drawG (dG [dF,dF,dF,dF,([0],QY),dF,dF,dF,([0],QY),dF,([1],QY),dF,dF,dF,dF]) (by kernel_rfl) (by kernel_rfl) ?_;refine go h λ_ h=>?_;rcases yh h with ⟨q26,h⟩ | ⟨q26,h⟩
  ·refine go h λ_ h=>?_;refine tgR Z q26 [0] Z (λG hG=>EvA.loadhp (I<|(J list i).Thread) QS Z (hG.a0 Z) Z Z Z Z)<|go h λ_ h=>?_;refine tgR Z q26 [0] Z (λG hG=>EvA.loadhp (I<|(J list i).Index) QS Z (hG.a0 Z) Z Z Z Z)<|go h λ_ h=>?_;refine tgR Z q26 [1] Z (λG hG=>EvA.loadhp (I<|(J list k_).Index) QS Z (hG.a0 Z) Z Z Z Z)<|jD h λg28 h=>tgN Z q26 Z (QE.slL NR Z (.yes Z) (.yes Z) g28 qD)<|jB h λv29 cv29 h=>tgN Z q26 Z (QE.call Z Z Z (bW (((J p<|(J list i).Thread).drop ((J list i).Index).toNat).take<|((J list k_).Index).toNat-((J list i).Index).toNat) cv29) Z) ?_;refine gp h λ_ h=>?_;refine go h λ_ h=>?_
   cases h
   exact ⟨(),trivial,QU⟩
  refine gp h λ_ h=>?_;refine go h λ_ h=>?_
  cases h
  exact ⟨(),trivial,QU⟩
 refine gi h (λ_ q30 h=>?_) λ_ q30 h=>?_
 ·refine go h λ_ h=>?_;refine oC h (λ_=>gX _ _) Z Z Z Z λv31 _ h=>(go h λ_ h=>?_);refine TO.jB h 3 (λs32=>[(129,Bo s32)]) (λs32=>[QZ ⟨0,5,60,[d1]⟩,QZ ⟨0,5,60,[d0]⟩]) (λs32 q33 h js32=>?_) (λs32 q33 h js32=>?_) λs32 h=>?_
  ·refine gA Z q33 (lh (.agg d0) PM Z Z Z)<|jB h λv34 cv34 h=>gN Z q33 (QE.call Z Z Z (gX (⟨(J list k_).Thread,(J list k_).Index,(J list k_).Loc,(J list k_).Reads,(J list k_).aH⟩:QJ) QY cv34) Z) ?_;exact gj h js32
  ·exact gj h js32
  refine go h λ_ h=>?_;obtain rfl:=QG h;replace h:=congrArg QZ (show _=_ from ks7);exact gz h
 refine gi h (λ_ q35 h=>?_) λ_ q35 h=>?_
 ·refine go h λ_ h=>?_;refine oC h (λ_=>gX _ _) Z Z Z Z λv36 _ h=>(go h λ_ h=>?_);refine TO.jB h 3 (λs37=>[(137,Bo s37)]) (λs37=>[QZ ⟨0,5,60,[d1]⟩,QZ ⟨0,5,60,[d0]⟩]) (λs37 q38 h js37=>?_) (λs37 q38 h js37=>?_) λs37 h=>?_
  ·refine gA Z q38 (lh (.agg d0) PM Z Z Z)<|jB h λv39 cv39 h=>gN Z q38 (QE.call Z Z Z (gX (⟨(J list k_).Thread,(J list k_).Index,(J list k_).Loc,(J list k_).Reads,(J list k_).aH⟩:QJ) QX cv39) Z) ?_;exact gj h js37
  ·exact gj h js37
  refine go h λ_ h=>?_;obtain rfl:=QG h;replace h:=congrArg QZ (show _=_ from ks7);exact gz h
 refine go h λ_ h=>?_
 cases h
 exact ⟨(),(),ks7,trivial,QU⟩
theorem Av (i:Int) (k_:Int) (a2:List<|List QH) (a3:QI) (a4:List QJ) (a5:BA) {q} (h:rO i k_ a2 a3 a4 a5=QZ q):ax Q4 216 [I i,I k_,.fp ((cL<|cL QH.c) a2) 0,.fp (QI.c a3) 0,.fp ((cL QJ.c) a4) 0,.fp (cS a5) 0] (Bo q):=by
 refine pM func216 Z (by kernel_rfl) Z<|go h λ_ h=>?_;refine oC h (λ_=>Cu _ _ _ _ _ _) Z Z Z Z λv1 _ h=>?_;exact gz h
theorem nX (n:Int) (is0:List<|List QH) (is1:QI) (is2:List QJ) (is3:BA) {q} (h:iJ n is0 is1 is2 is3=QZ q):ax Q4 215 [I n,.fn (.func 216) [.fp ((cL<|cL QH.c) is0) 0,.fp (QI.c is1) 0,.fp ((cL QJ.c) is2) 0,.fp (cS is3) 0]] (eL cI q):=by
 refine pM func215 Z (by kernel_rfl) Z<|go h λ_ h=>?_;refine jD h λg1 h=>oA (EvA.mkN (c:=cI) (QW:Int) je Z Z g1 Z Z Z)<|go h λ_ h=>?_;refine tJ h (λs2 gh=>[(5,hS QY 0 gh 1 s2.length)]) (λs2 gh=>[bE QY gh 1 3 (s2.map cI)]) (λs2 u27 h=>?_) λs2 h=>?_
 ·exact gf h
 refine go h λ_ h=>?_;refine tT h 0 (λs6 gh=>[(11,I s6.2),(10,I n),(5,hS QY 0 gh 1 s6.1.length),(0,I n),(1,.fn (.func 216) [.fp ((cL<|cL QH.c) is0) 0,.fp (QI.c is1) 0,.fp ((cL QJ.c) is2) 0,.fp (cS is3) 0])]) (λs6 gh=>[bE QY gh 1 3 (s6.1.map cI)]) λs6 u8 ws6 h=>?_;refine go h λ_ h=>?_;refine jH ?_;refine jN Z h (λq9 h=>?_) λq9 h=>?_
 ·refine go h λ_ h=>?_;refine tJ h (λs10 gh=>[(11,I s6.2),(10,I n),(5,hS QY 0 gh 1 s10.length),(0,I n),(1,.fn (.func 216) [.fp ((cL<|cL QH.c) is0) 0,.fp (QI.c is1) 0,.fp ((cL QJ.c) is2) 0,.fp (cS is3) 0])]) (λs10 gh=>[bE QY gh 1 3 (s10.map cI)]) (λs10 u25 h=>?_) λs10 h=>?_
  ·refine go h λ_ h=>?_;obtain rfl:=QG h;exact ⟨(s10,(s6.2+V)),u25,Z,trivial,QU⟩
  refine go h λ_ h=>?_;refine tT h u8 (λs14 gh=>[(15,I s14.2),(14,I n),(6,I s6.2),(11,I s6.2),(10,I n),(5,hS QY 0 gh 1 s14.1.length),(0,I n),(1,.fn (.func 216) [.fp ((cL<|cL QH.c) is0) 0,.fp (QI.c is1) 0,.fp ((cL QJ.c) is2) 0,.fp (cS is3) 0])]) (λs14 gh=>[bE QY gh 1 3 (s14.1.map cI)]) λs14 u16 ws14 h=>?_;refine go h λ_ h=>?_;refine jH ?_;refine jN Z h (λq17 h=>?_) λq17 h=>?_
  ·refine go h λ_ h=>?_;refine tJ h (λs18 gh=>[(15,I s14.2),(14,I n),(6,I s6.2),(11,I s6.2),(10,I n),(5,hS QY 0 gh 1 s18.length),(0,I n),(1,.fn (.func 216) [.fp ((cL<|cL QH.c) is0) 0,.fp (QI.c is1) 0,.fp ((cL QJ.c) is2) 0,.fp (cS is3) 0])]) (λs18 gh=>[bE QY gh 1 3 (s18.map cI)]) (λs18 u23 h=>?_) λs18 h=>?_
   ·refine go h λ_ h=>?_;obtain rfl:=QG h;exact ⟨(s18,(s14.2+V)),u23,Z,trivial,QU⟩
   refine go h λ_ h=>?_;refine oC h (λ_=>Av _ _ _ _ _ _) Z Z Z Z λv19 _ h=>?_;refine gi h (λ_ q20 h=>?_) λ_ q20 h=>?_
   ·refine jP (dG [dF,dF,dF,([0],QY),dF,dF,dF,dF,([0],QX)]) (by kernel_rfl) (by kernel_rfl)<|go h λf h=>?_;obtain ⟨_,g21,_⟩:=f;refine fV 0 [] Z Z (λG hG=>EvA.stO (g:=false) (l:=s14.1) (cs:=[I (bOr .i64 (J s14.1 s6.2)<|De .i64 V s14.2)]) (bOr .i64 (J s14.1 s6.2)<|De .i64 V s14.2) QS Z Z (hG.a0 Z) nofun (bA Z g21) Z Z Z)<|go h λ_ h=>?_;obtain rfl:=QG h;exact ⟨u16,trivial,Iz Z<|QD Z<|QD Z<|QD Z<|QD Z<|QD Z<|QD (congrArg (hS QY 0 u16 1) (by simp:s14.1.length=(s14.1.set s6.2.toNat<|bOr .i64 (J s14.1 s6.2)<|De .i64 (1:Int) s14.2).length))<|QD Z<|QD Z wkN⟩
   refine go h λ_ h=>?_
   cases h
   exact ⟨u16,trivial,QU⟩
  refine jM<|lX h λh=>?_
  cases h
  exact ⟨u16,trivial,QU⟩
 refine jM<|lX h λh=>?_
 cases h
 exact ⟨u8,trivial,QU⟩
theorem CP (p:List<|List QH) (x:QI) (name:BA) {q} (h:gG p x name=QZ q):ax Q4 152 [eL (cL QH.c) p,.agg (QI.c x),St name] (eL cI q):=by
 refine pM func152 Z (by kernel_rfl) Z<|jI<|oN (QE.bxF [eL (cL QH.c) p] Z Z Z)<|oN (QE.bxF [eL cI x.From,eL (cL cI) x.Order] Z Z Z)<|oN (QE.bxF [St name] Z Z Z)<|oN as'<|jA<|jI<|oN (lf (eL (cL QH.c) p) Qh Z)<|oC h (λ_=>mh _) Z Z Z Z λv1 _ h=>oA (EvA.al Qv Z Z)<|oV (sr [eL QJ.c v1] Qi Z Z Z Z)<|TO.cut (e0:=ai [(7,.fp ((cL QJ.c) v1) 0),(5,.fp (cS name) 0),(4,.fp (QI.c x) 0),(3,.fp ((cL<|cL QH.c) p) 0)]) (H0:=[]) (n9 Z .nil<|aj (.fz<|Fz.fpL (ver:=0) (s:=1) (ty:=57) (rows:=[[eL QJ.c v1]]) Z Z Z<|.cons (qC Z) .nil)<|aj (.fz<|qC Z)<|aj (.fz<|qC Z)<|aj (.fz<|qC Z) aF)<|jA<|jI<|oN (lf (eL QJ.c v1) Qi Z) ?_;refine oN (QE.lenL Mf Z)<|oN (QE.mkfn [.fp ((cL<|cL QH.c) p) 0,.fp (QI.c x) 0,.fp ((cL QJ.c) v1) 0,.fp (cS name) 0] Z Z)<|oC h (λ_=>nX _ _ _ _ _) Z Z Z Z λv2 _ h=>oN as'<|jA<|jK ?_
 cases h
 exact vq Z Z Z
theorem xy (x:Int) (a1:LI) {q} (h:mU x a1=QZ q):ax Q4 236 [I x,.fp ((cL cI) a1) 0] (Bo q):=by
 refine pM func236 Z (by kernel_rfl) Z<|go h λ_ h=>?_;refine TO.jB h 6 (λs1=>[(12,Bo s1)]) (λs1=>[]) (λs1 q2 h js1=>?_) (λs1 q2 h js1=>?_) λs1 h=>?_
 ·exact gj h js1
 ·exact gj h js1
 exact gz h
theorem gF (s:LI) (f0:LI) {q} (h:aW s f0=QZ q):ax Q4 190 [eL cI s,.fn (.func 236) [.fp ((cL cI) f0) 0]] (I q):=by
 refine pM func190 Z (by kernel_rfl) Z<|go h λ_ h=>?_;obtain ⟨Ks1,es1,ws1,h,ks1⟩:=tX h;refine T.join (S:=Unit) (G:=Unit) (λs1=>Ks1 s1=QZ q) (λs1 gh=>True) (λs1 gh=>[]) (λs1 gh=>[]) (λs1 gh h hg=>?_) ?_
 ·clear ks1;subst es1;exact gz h
 refine go h λ_ h=>?_;refine tU h (λs4=>[(8,I s4),(7,I (s.length:Int)),(0,eL cI s),(1,.fn (.func 236) [.fp ((cL cI) f0) 0])]) (λs4=>[]) λs4 ws4 h=>?_;refine go h λ_ h=>?_;refine jH ?_;refine jN Z h (λq6 h=>?_) λq6 h=>?_
 ·refine go h λ_ h=>?_;refine gs h λ_ h=>?_;refine oC h (λ_=>xy _ _) Z Z Z Z λv8 _ h=>?_;refine gi h (λ_ q9 h=>?_) λ_ q9 h=>?_
  ·refine go h λ_ h=>?_;refine lX h λh=>?_;obtain rfl:=QG h;replace h:=congrArg QZ (show _=_ from ks1);exact gz h
  refine go h λ_ h=>?_;exact lE h QU
 refine jM<|lX h λh=>?_
 cases h
 exact ⟨(),(),ks1,trivial,QU⟩
theorem eT (s:LI) (f0:LI) {q} (h:aQ s f0=QZ q):ax Q4 235 [eL cI s,.fn (.func 236) [.fp ((cL cI) f0) 0]] (Bo q):=by
 refine pM func235 Z (by kernel_rfl) Z<|go h λ_ h=>?_;refine oC h (λ_=>gF _ _) Z Z Z Z λv1 _ h=>?_;exact gz h
theorem cu (r_:LI) {q} (h:bB r_=QZ q):ax Q4 169 [eL cI r_] (Bo q):=by
 refine pM func169 Z (by kernel_rfl) Z<|jI<|oN (QE.bxF [eL cI r_] Z Z Z)<|oN as'<|jA<|jI<|oN (lf (eL cI r_) El Z)<|oN (QE.lenL je Z)<|oN (QE.ile Z Z)<|oN mv ?_;refine TO.jB h 5 (λs1=>[(11,Bo s1)]) (λs1=>[]) (λs1 q2 h js1=>?_) (λs1 q2 h js1=>?_) λs1 h=>?_
 ·refine gN Z q2 (lf (eL cI r_) El Z)<|gN Z q2 (QE.mkfn [.fp ((cL cI) r_) 0] Z Z)<|jB h λv3 cv3 h=>gN Z q2 (QE.call Z Z Z (eT r_ r_ cv3) Z)<|gN Z q2 (QE.not Z)<|oN (QE.pickT Z q2 (Bo<|!v3) Z) ?_
  cases h
  exact js1 _ _<|kw Z Z
 ·refine gS Z q2<|gS Z q2<|gS Z q2<|gS Z q2<|oN (QE.pickF Z q2 (Bo QY) Z) ?_
  cases h
  exact js1 _ _<|kw Z Z
 refine oN as'<|jA<|jK ?_
 cases h
 exact vq Z Z Z
theorem dV (r_:LI) (i:Int) (k_:Int) {q} (h:cA r_ i k_=QZ q):ax Q4 219 [eL cI r_,I i,I k_] (Bo q):=by
 refine pM func219 Z (by kernel_rfl) Z ?_;exact gz h
theorem vN (i:Int) (k_:Int) (a2:LI) {q} (h:kS i k_ a2=QZ q):ax Q4 218 [I i,I k_,.fp ((cL cI) a2) 0] (Bo q):=by
 refine pM func218 Z (by kernel_rfl) Z<|go h λ_ h=>?_;refine oC h (λ_=>dV _ _ _) Z Z Z Z λv1 _ h=>?_;exact gz h
theorem ll (n:Int) (is0:LI) {q} (h:ez n is0=QZ q):ax Q4 215 [I n,.fn (.func 218) [.fp ((cL cI) is0) 0]] (eL cI q):=by
 refine pM func215 Z (by kernel_rfl) Z<|go h λ_ h=>?_;refine jD h λg1 h=>oA (EvA.mkN (c:=cI) (QW:Int) je Z Z g1 Z Z Z)<|go h λ_ h=>?_;refine tJ h (λs2 gh=>[(5,hS QY 0 gh 1 s2.length)]) (λs2 gh=>[bE QY gh 1 3 (s2.map cI)]) (λs2 u27 h=>?_) λs2 h=>?_
 ·exact gf h
 refine go h λ_ h=>?_;refine tT h 0 (λs6 gh=>[(11,I s6.2),(10,I n),(5,hS QY 0 gh 1 s6.1.length),(0,I n),(1,.fn (.func 218) [.fp ((cL cI) is0) 0])]) (λs6 gh=>[bE QY gh 1 3 (s6.1.map cI)]) λs6 u8 ws6 h=>?_;refine go h λ_ h=>?_;refine jH ?_;refine jN Z h (λq9 h=>?_) λq9 h=>?_
 ·refine go h λ_ h=>?_;refine tJ h (λs10 gh=>[(11,I s6.2),(10,I n),(5,hS QY 0 gh 1 s10.length),(0,I n),(1,.fn (.func 218) [.fp ((cL cI) is0) 0])]) (λs10 gh=>[bE QY gh 1 3 (s10.map cI)]) (λs10 u25 h=>?_) λs10 h=>?_
  ·refine go h λ_ h=>?_;obtain rfl:=QG h;exact ⟨(s10,(s6.2+V)),u25,Z,trivial,QU⟩
  refine go h λ_ h=>?_;refine tT h u8 (λs14 gh=>[(15,I s14.2),(14,I n),(6,I s6.2),(11,I s6.2),(10,I n),(5,hS QY 0 gh 1 s14.1.length),(0,I n),(1,.fn (.func 218) [.fp ((cL cI) is0) 0])]) (λs14 gh=>[bE QY gh 1 3 (s14.1.map cI)]) λs14 u16 ws14 h=>?_;refine go h λ_ h=>?_;refine jH ?_;refine jN Z h (λq17 h=>?_) λq17 h=>?_
  ·refine go h λ_ h=>?_;refine tJ h (λs18 gh=>[(15,I s14.2),(14,I n),(6,I s6.2),(11,I s6.2),(10,I n),(5,hS QY 0 gh 1 s18.length),(0,I n),(1,.fn (.func 218) [.fp ((cL cI) is0) 0])]) (λs18 gh=>[bE QY gh 1 3 (s18.map cI)]) (λs18 u23 h=>?_) λs18 h=>?_
   ·refine go h λ_ h=>?_;obtain rfl:=QG h;exact ⟨(s18,(s14.2+V)),u23,Z,trivial,QU⟩
   refine go h λ_ h=>?_;refine oC h (λ_=>vN _ _ _) Z Z Z Z λv19 _ h=>?_;refine gi h (λ_ q20 h=>?_) λ_ q20 h=>?_
   ·refine jP (dG [dF,dF,dF,([0],QY),dF,dF,dF,dF,([0],QX)]) (by kernel_rfl) (by kernel_rfl)<|go h λf h=>?_;obtain ⟨_,g21,_⟩:=f;refine fV 0 [] Z Z (λG hG=>EvA.stO (g:=false) (l:=s14.1) (cs:=[I (bOr .i64 (J s14.1 s6.2)<|De .i64 V s14.2)]) (bOr .i64 (J s14.1 s6.2)<|De .i64 V s14.2) QS Z Z (hG.a0 Z) nofun (bA Z g21) Z Z Z)<|go h λ_ h=>?_;obtain rfl:=QG h;exact ⟨u16,trivial,Iz Z<|QD Z<|QD Z<|QD Z<|QD Z<|QD Z<|QD (congrArg (hS QY 0 u16 1) (by simp:s14.1.length=(s14.1.set s6.2.toNat<|bOr .i64 (J s14.1 s6.2)<|De .i64 (1:Int) s14.2).length))<|QD Z<|QD Z wkN⟩
   refine go h λ_ h=>?_
   cases h
   exact ⟨u16,trivial,QU⟩
  refine jM<|lX h λh=>?_
  cases h
  exact ⟨u16,trivial,QU⟩
 refine jM<|lX h λh=>?_
 cases h
 exact ⟨u8,trivial,QU⟩
theorem xz (r_:LI) {q} (h:jk r_=QZ q):ax Q4 153 [eL cI r_] (eL cI q):=by
 refine pM func153 Z (by kernel_rfl) Z<|jI<|oN (QE.bxF [eL cI r_] Z Z Z)<|oN as'<|jA<|jH<|jI<|oN (lf (eL cI r_) El Z)<|oC h (λ_=>cu _) Z Z Z Z λv1 _ h=>oN (QE.not Z)<|jA ?_;refine jN Z h (λq2 h=>?_) λq2 h=>?_
 ·refine jI<|oN as'<|jA<|jK ?_;obtain rfl:=QG h
  repeat (first|refine jh ?_|refine ji ?_)
  exact jQ (vs:=[.nil]) (.cons (.tmp Z) .nil) .nil0
 refine jG<|jI<|oN (lf (eL cI r_) El Z)<|oN (QE.lenL je Z)<|oN (QE.mkfn [.fp ((cL cI) r_) 0] Z Z)<|oC h (λ_=>ll _ _) Z Z Z Z λv3 _ h=>oN as'<|jA<|jK ?_
 cases h
 exact vq Z Z Z
theorem qN (r_:LI) {q} (h:fQ r_=QZ q):ax Q4 154 [eL cI r_] (eL cI q):=by
 refine pM func154 Z (by kernel_rfl) Z<|go h λ_ h=>?_;refine gs h λ_ h=>?_;refine oC h (λ_=>cu _) Z Z Z Z λv1 _ h=>?_;refine gi h (λ_ q2 h=>?_) λ_ q2 h=>?_
 ·refine go h λ_ h=>?_;obtain rfl:=QG h
  repeat (first|refine jh ?_|refine ji ?_)
  exact jQ (vs:=[.nil]) (.cons (.tmp Z) .nil) .nil0
 refine go h λ_ h=>?_;refine jB h λv3 cv3 h=>?_;refine oG Z Z Z ((fw r_ cv3).own Z (CJ qD) GN 0 Z) λg4 v5 n6=>?_;refine go h λ_ h=>?_;refine T.jF (G:=(Bool×Nat)) h (λs7 gh=>(gh.1=QX->s7=[])) (λs7 gh=>[(3,hS gh.1 0 gh.2 1 s7.length)]) (λs7 gh=>[bE gh.1 gh.2 1 3 (s7.map cI)]) (λs7 gh h n49=>?_) λs7 h=>?_
 ·obtain ⟨b48,u47⟩:=gh;exact gf h
 refine go h λ_ h=>?_;refine tL h (g4,v5) (λs16 gh=>(gh.1=QX->s16.1=[])) (λs16 gh=>[(13,I s16.2),(12,I (v3.length:Int)),(3,hS gh.1 0 gh.2 1 s16.1.length)]) (λs16 gh=>[bE gh.1 gh.2 1 3 (s16.1.map cI)]) (λx=>List.eq_nil_of_length_eq_zero<|n6 x) λs16 gh ws16 h n20=>?_;obtain ⟨b19,u18⟩:=gh;refine go h λ_ h=>?_;refine jH ?_;refine jN Z h (λq21 h=>?_) λq21 h=>?_
 ·refine go h λ_ h=>?_;refine T.jF (G:=(Bool×Nat)) h (λs22 gh=>(gh.1=QX->s22=[])) (λs22 gh=>[(13,I s16.2),(12,I (v3.length:Int)),(3,hS gh.1 0 gh.2 1 s22.length)]) (λs22 gh=>[bE gh.1 gh.2 1 3 (s22.map cI)]) (λs22 gh h n45=>?_) λs22 h=>?_
  ·obtain ⟨b44,u43⟩:=gh;refine go h λ_ h=>?_;obtain rfl:=QG h;exact ⟨(s22,(s16.2+V)),(b44,u43),Z,n45,QU⟩
  refine go h λ_ h=>?_;refine tL h (b19,u18) (λs28 gh=>(gh.1=QX->s28.1=[])) (λs28 gh=>[(18,I s28.2),(17,I (s16.1.length:Int)),(4,I s16.2),(13,I s16.2),(12,I (v3.length:Int)),(3,hS gh.1 0 gh.2 1 s28.1.length)]) (λs28 gh=>[bE gh.1 gh.2 1 3 (s28.1.map cI)]) n20 λs28 gh ws28 h n32=>?_;obtain ⟨b31,u30⟩:=gh;refine go h λ_ h=>?_;refine jH ?_;refine jN Z h (λq33 h=>?_) λq33 h=>?_
  ·refine go h λ_ h=>?_;refine T.jF (G:=(Bool×Nat)) h (λs34 gh=>(gh.1=QX->s34=[])) (λs34 gh=>[(18,I s28.2),(17,I (s16.1.length:Int)),(4,I s16.2),(13,I s16.2),(12,I (v3.length:Int)),(3,hS gh.1 0 gh.2 1 s34.length)]) (λs34 gh=>[bE gh.1 gh.2 1 3 (s34.map cI)]) (λs34 gh h n41=>?_) λs34 h=>?_
   ·obtain ⟨b40,u39⟩:=gh;refine go h λ_ h=>?_;obtain rfl:=QG h;exact ⟨(s34,(s28.2+V)),(b40,u39),Z,n41,QU⟩
   refine go h λ_ h=>?_;refine jB h λv35 cv35 h=>oA (EvA.callT Z Z (dV s28.1 s28.2 s16.2 cv35) (.cons (Fz.own (g:=b31) (ver:=u30) (l:=s28.1) Z Z Z n32 qD)<|.cons (qC Z)<|.cons (qC Z) .nil) Z) ?_;refine gi h (λ_ q36 h=>?_) λ_ q36 h=>?_
   ·refine T.drawH (dG [dF,dF,dF,([0],QY),dF,dF,dF,([0],QY),dF,dF,([0],QX)]) (by kernel_rfl) (by kernel_rfl)<|go h λ_ h=>?_;refine jD h λg37 h=>?_;obtain rfl:=Ob n32 rfl g37;refine go h λ_ h=>?_;refine fV 0 [] Z Z (λG hG=>EvA.stO (g:=false) (l:=s28.1) (cs:=[I (bOr .i64 (J s28.1 s28.2)<|J s28.1 s16.2)]) (bOr .i64 (J s28.1 s28.2)<|J s28.1 s16.2) QS Z Z (hG.a0 Z) nofun (bA Z g37) Z Z Z)<|go h λ_ h=>?_;obtain rfl:=QG h;exact ⟨(QY,u30),nofun,Iz Z<|QD Z<|QD Z<|QD Z<|QD Z<|QD Z<|QD (congrArg (hS QY 0 u30 1) (by simp:s28.1.length=(s28.1.set s28.2.toNat<|bOr .i64 (J s28.1 s28.2)<|J s28.1 s16.2).length)) wkN⟩
   refine go h λ_ h=>?_
   cases h
   exact ⟨(b31,u30),n32,QU⟩
  refine jM<|lX h λh=>?_
  cases h
  exact ⟨(b31,u30),n32,QU⟩
 refine jM<|lX h λh=>?_
 cases h
 exact ⟨(b19,u18),n20,QU⟩
theorem kP (a:LI) (b:LI) {q} (h:di a b=QZ q):ax Q4 224 [eL cI a,eL cI b] (Bo q):=by
 refine pM func224 Z (by kernel_rfl) Z<|go h λ_ h=>?_;refine TO.jB h 3 (λs1=>[(13,Bo s1),(1,eL cI b)]) (λs1=>[]) (λs1 q2 h js1=>?_) (λs1 q2 h js1=>?_) λs1 h=>?_
 ·refine go h λ_ h=>?_;refine jB h λv3 cv3 h=>gN Z q2 (QE.call Z Z Z (cu a cv3) Z) ?_;exact gj h js1
 ·exact gj h js1
 refine go h λ_ h=>?_;refine TO.jB h 3 (λs4=>[(17,Bo s4)]) (λs4=>[]) (λs4 q5 h js4=>?_) (λs4 q5 h js4=>?_) λs4 h=>?_
 ·refine go h λ_ h=>?_;refine jB h λv6 cv6 h=>gN Z q5 (QE.call Z Z Z (cu b cv6) Z) ?_;exact gj h js4
 ·exact gj h js4
 exact gz h
theorem xB (x:Int) (y:Int) {q} (h:mV x y=QZ q):ax Q4 221 [I x,I y] (I q):=by
 refine pM func221 Z (by kernel_rfl) Z ?_;exact gz h
theorem lC (a:LI) (b:LI) {q} (h:fD a b=QZ q):ax Q4 220 [eL cI a,eL cI b,.fn (.func 221) []] (eL cI q):=by
 refine pM func220 Z (by kernel_rfl) Z<|go h λ_ h=>?_;refine gs h λ_ h=>?_;refine oC h (λ_=>kP _ _) Z Z Z Z λv1 _ h=>?_;refine gi h (λ_ q2 h=>?_) λ_ q2 h=>?_
 ·refine go h λ_ h=>?_;obtain rfl:=QG h
  repeat (first|refine jh ?_|refine ji ?_)
  exact jQ (vs:=[.nil]) (.cons (.tmp Z) .nil) .nil0
 refine go h λ_ h=>?_;refine jD h λg3 h=>oA (EvA.mkN (c:=cI) (QW:Int) je Z Z g3 Z Z Z)<|go h λ_ h=>?_;refine tJ h (λs4 gh=>[(7,hS QY 0 gh 1 s4.length)]) (λs4 gh=>[bE QY gh 1 3 (s4.map cI)]) (λs4 u17 h=>?_) λs4 h=>?_
 ·exact gf h
 refine go h λ_ h=>?_;refine tT h 0 (λs8 gh=>[(18,I s8.2),(17,I (a.length:Int)),(7,hS QY 0 gh 1 s8.1.length),(0,eL cI a),(1,eL cI b),(2,.fn (.func 221) [])]) (λs8 gh=>[bE QY gh 1 3 (s8.1.map cI)]) λs8 u10 ws8 h=>?_;refine go h λ_ h=>?_;refine jH ?_;refine jN Z h (λq11 h=>?_) λq11 h=>?_
 ·refine go h λ_ h=>?_;refine gs h λ_ h=>?_;refine jP (dG [dF,dF,dF,dF,dF,dF,dF,dF,dF,dF,dF,dF,dF,([0],QX)]) (by kernel_rfl) (by kernel_rfl)<|go h λ_ h=>?_;refine fC h (λ_=>xB _ _) Z Z Z Z Z λv14 _ h=>(go h λf h=>?_);obtain ⟨g15,_⟩:=f;refine fV 0 [] Z Z (λG hG=>EvA.stO (g:=false) (l:=s8.1) (cs:=[I v14]) v14 QS Z Z (hG.a0 Z) nofun (bA Z g15) Z Z Z)<|go h λ_ h=>?_;obtain rfl:=QG h;exact ⟨((s8.1.set s8.2.toNat v14),(s8.2+(1:Int))),u10,Z,trivial,Iz Z<|QD Z<|QD Z<|QD (congrArg (hS QY 0 u10 1) (by simp:s8.1.length=(s8.1.set s8.2.toNat v14).length))<|QD Z<|QD Z<|QD Z wkN⟩
 refine jM<|lX h λh=>?_
 cases h
 exact ⟨u10,trivial,QU⟩
theorem zG (a:LI) (b:LI) {q} (h:lK a b=QZ q):ax Q4 155 [eL cI a,eL cI b] (eL cI q):=by
 refine pM func155 Z (by kernel_rfl) Z<|go h λ_ h=>?_;refine oC h (λ_=>lC _ _) Z Z Z Z λv1 _ h=>?_;exact gz h
theorem yC (x:Int) (y:Int) {q} (h:oh x y=QZ q):ax Q4 222 [I x,I y] (I q):=by
 refine pM func222 Z (by kernel_rfl) Z ?_;exact gz h
theorem mr (a:LI) (b:LI) {q} (h:fS a b=QZ q):ax Q4 220 [eL cI a,eL cI b,.fn (.func 222) []] (eL cI q):=by
 refine pM func220 Z (by kernel_rfl) Z<|go h λ_ h=>?_;refine gs h λ_ h=>?_;refine oC h (λ_=>kP _ _) Z Z Z Z λv1 _ h=>?_;refine gi h (λ_ q2 h=>?_) λ_ q2 h=>?_
 ·refine go h λ_ h=>?_;obtain rfl:=QG h
  repeat (first|refine jh ?_|refine ji ?_)
  exact jQ (vs:=[.nil]) (.cons (.tmp Z) .nil) .nil0
 refine go h λ_ h=>?_;refine jD h λg3 h=>oA (EvA.mkN (c:=cI) (QW:Int) je Z Z g3 Z Z Z)<|go h λ_ h=>?_;refine tJ h (λs4 gh=>[(7,hS QY 0 gh 1 s4.length)]) (λs4 gh=>[bE QY gh 1 3 (s4.map cI)]) (λs4 u17 h=>?_) λs4 h=>?_
 ·exact gf h
 refine go h λ_ h=>?_;refine tT h 0 (λs8 gh=>[(18,I s8.2),(17,I (a.length:Int)),(7,hS QY 0 gh 1 s8.1.length),(0,eL cI a),(1,eL cI b),(2,.fn (.func 222) [])]) (λs8 gh=>[bE QY gh 1 3 (s8.1.map cI)]) λs8 u10 ws8 h=>?_;refine go h λ_ h=>?_;refine jH ?_;refine jN Z h (λq11 h=>?_) λq11 h=>?_
 ·refine go h λ_ h=>?_;refine gs h λ_ h=>?_;refine jP (dG [dF,dF,dF,dF,dF,dF,dF,dF,dF,dF,dF,dF,dF,([0],QX)]) (by kernel_rfl) (by kernel_rfl)<|go h λ_ h=>?_;refine fC h (λ_=>yC _ _) Z Z Z Z Z λv14 _ h=>(go h λf h=>?_);obtain ⟨g15,_⟩:=f;refine fV 0 [] Z Z (λG hG=>EvA.stO (g:=false) (l:=s8.1) (cs:=[I v14]) v14 QS Z Z (hG.a0 Z) nofun (bA Z g15) Z Z Z)<|go h λ_ h=>?_;obtain rfl:=QG h;exact ⟨((s8.1.set s8.2.toNat v14),(s8.2+(1:Int))),u10,Z,trivial,Iz Z<|QD Z<|QD Z<|QD (congrArg (hS QY 0 u10 1) (by simp:s8.1.length=(s8.1.set s8.2.toNat v14).length))<|QD Z<|QD Z<|QD Z wkN⟩
 refine jM<|lX h λh=>?_
 cases h
 exact ⟨u10,trivial,QU⟩
theorem Aw (a:LI) (b:LI) {q} (h:nG a b=QZ q):ax Q4 156 [eL cI a,eL cI b] (eL cI q):=by
 refine pM func156 Z (by kernel_rfl) Z<|go h λ_ h=>?_;refine oC h (λ_=>mr _ _) Z Z Z Z λv1 _ h=>?_;exact gz h
theorem xC (x:Int) (y:Int) {q} (h:mW x y=QZ q):ax Q4 223 [I x,I y] (I q):=by
 refine pM func223 Z (by kernel_rfl) Z<|jI<|oN as'<|jA<|jI<|oN mv<|oN mv<|oN (QE.bandNot Z Z)<|oN as'<|jA<|jK ?_
 cases h
 exact vq Z Z Z
theorem lD (a:LI) (b:LI) {q} (h:fE a b=QZ q):ax Q4 220 [eL cI a,eL cI b,.fn (.func 223) []] (eL cI q):=by
 refine pM func220 Z (by kernel_rfl) Z<|go h λ_ h=>?_;refine gs h λ_ h=>?_;refine oC h (λ_=>kP _ _) Z Z Z Z λv1 _ h=>?_;refine gi h (λ_ q2 h=>?_) λ_ q2 h=>?_
 ·refine go h λ_ h=>?_;obtain rfl:=QG h
  repeat (first|refine jh ?_|refine ji ?_)
  exact jQ (vs:=[.nil]) (.cons (.tmp Z) .nil) .nil0
 refine go h λ_ h=>?_;refine jD h λg3 h=>oA (EvA.mkN (c:=cI) (QW:Int) je Z Z g3 Z Z Z)<|go h λ_ h=>?_;refine tJ h (λs4 gh=>[(7,hS QY 0 gh 1 s4.length)]) (λs4 gh=>[bE QY gh 1 3 (s4.map cI)]) (λs4 u17 h=>?_) λs4 h=>?_
 ·exact gf h
 refine go h λ_ h=>?_;refine tT h 0 (λs8 gh=>[(18,I s8.2),(17,I (a.length:Int)),(7,hS QY 0 gh 1 s8.1.length),(0,eL cI a),(1,eL cI b),(2,.fn (.func 223) [])]) (λs8 gh=>[bE QY gh 1 3 (s8.1.map cI)]) λs8 u10 ws8 h=>?_;refine go h λ_ h=>?_;refine jH ?_;refine jN Z h (λq11 h=>?_) λq11 h=>?_
 ·refine go h λ_ h=>?_;refine gs h λ_ h=>?_;refine jP (dG [dF,dF,dF,dF,dF,dF,dF,dF,dF,dF,dF,dF,dF,([0],QX)]) (by kernel_rfl) (by kernel_rfl)<|go h λ_ h=>?_;refine fC h (λ_=>xC _ _) Z Z Z Z Z λv14 _ h=>(go h λf h=>?_);obtain ⟨g15,_⟩:=f;refine fV 0 [] Z Z (λG hG=>EvA.stO (g:=false) (l:=s8.1) (cs:=[I v14]) v14 QS Z Z (hG.a0 Z) nofun (bA Z g15) Z Z Z)<|go h λ_ h=>?_;obtain rfl:=QG h;exact ⟨((s8.1.set s8.2.toNat v14),(s8.2+(1:Int))),u10,Z,trivial,Iz Z<|QD Z<|QD Z<|QD (congrArg (hS QY 0 u10 1) (by simp:s8.1.length=(s8.1.set s8.2.toNat v14).length))<|QD Z<|QD Z<|QD Z wkN⟩
 refine jM<|lX h λh=>?_
 cases h
 exact ⟨u10,trivial,QU⟩
theorem zH (a:LI) (b:LI) {q} (h:lL a b=QZ q):ax Q4 157 [eL cI a,eL cI b] (eL cI q):=by
 refine pM func157 Z (by kernel_rfl) Z<|go h λ_ h=>?_;refine oC h (λ_=>lD _ _) Z Z Z Z λv1 _ h=>?_;exact gz h
theorem xD (a:LI) (b:LI) {q} (h:jl a b=QZ q):ax Q4 158 [eL cI a,eL cI b] (eL cI q):=by
 refine pM func158 Z (by kernel_rfl) Z<|go h λ_ h=>?_;refine gs h λ_ h=>?_;refine oC h (λ_=>kP _ _) Z Z Z Z λv1 _ h=>?_;refine gi h (λ_ q2 h=>?_) λ_ q2 h=>?_
 ·refine go h λ_ h=>?_;obtain rfl:=QG h
  repeat (first|refine jh ?_|refine ji ?_)
  exact jQ (vs:=[.nil]) (.cons (.tmp Z) .nil) .nil0
 refine go h λ_ h=>?_;refine jD h λg3 h=>oA (EvA.mkN (c:=cI) (QW:Int) je Z Z g3 Z Z Z)<|go h λ_ h=>?_;refine tJ h (λs4 gh=>[(5,hS QY 0 gh 1 s4.length)]) (λs4 gh=>[bE QY gh 1 3 (s4.map cI)]) (λs4 u29 h=>?_) λs4 h=>?_
 ·exact gf h
 refine go h λ_ h=>?_;refine tT h 0 (λs8 gh=>[(17,I s8.2),(16,I (a.length:Int)),(5,hS QY 0 gh 1 s8.1.length),(0,eL cI a),(1,eL cI b)]) (λs8 gh=>[bE QY gh 1 3 (s8.1.map cI)]) λs8 u10 ws8 h=>?_;refine go h λ_ h=>?_;refine jH ?_;refine jN Z h (λq11 h=>?_) λq11 h=>?_
 ·refine go h λ_ h=>?_;refine tJ h (λs12 gh=>[(17,I s8.2),(16,I (a.length:Int)),(5,hS QY 0 gh 1 s12.length),(0,eL cI a),(1,eL cI b)]) (λs12 gh=>[bE QY gh 1 3 (s12.map cI)]) (λs12 u27 h=>?_) λs12 h=>?_
  ·refine go h λ_ h=>?_;obtain rfl:=QG h;exact ⟨(s12,(s8.2+V)),u27,Z,trivial,QU⟩
  refine go h λ_ h=>?_;refine tT h u10 (λs16 gh=>[(22,I s16.2),(21,I (b.length:Int)),(6,I s8.2),(17,I s8.2),(16,I (a.length:Int)),(5,hS QY 0 gh 1 s16.1.length),(0,eL cI a),(1,eL cI b)]) (λs16 gh=>[bE QY gh 1 3 (s16.1.map cI)]) λs16 u18 ws16 h=>?_;refine go h λ_ h=>?_;refine jH ?_;refine jN Z h (λq19 h=>?_) λq19 h=>?_
  ·refine go h λ_ h=>?_;refine tJ h (λs20 gh=>[(22,I s16.2),(21,I (b.length:Int)),(6,I s8.2),(17,I s8.2),(16,I (a.length:Int)),(5,hS QY 0 gh 1 s20.length),(0,eL cI a),(1,eL cI b)]) (λs20 gh=>[bE QY gh 1 3 (s20.map cI)]) (λs20 u25 h=>?_) λs20 h=>?_
   ·refine go h λ_ h=>?_;obtain rfl:=QG h;exact ⟨(s20,(s16.2+V)),u25,Z,trivial,QU⟩
   refine go h λ_ h=>?_;refine oC h (λ_=>dV _ _ _) Z Z Z Z λv21 _ h=>?_;refine gi h (λ_ q22 h=>?_) λ_ q22 h=>?_
   ·refine jP (dG [dF,dF,dF,([0],QY),dF,dF,dF,dF,dF,dF,([0],QX)]) (by kernel_rfl) (by kernel_rfl)<|go h λf h=>?_;obtain ⟨_,g23,_⟩:=f;refine fV 0 [] Z Z (λG hG=>EvA.stO (g:=false) (l:=s16.1) (cs:=[I (bOr .i64 (J s16.1 s8.2)<|J b s16.2)]) (bOr .i64 (J s16.1 s8.2)<|J b s16.2) QS Z Z (hG.a0 Z) nofun (bA Z g23) Z Z Z)<|go h λ_ h=>?_;obtain rfl:=QG h;exact ⟨u18,trivial,Iz Z<|QD Z<|QD Z<|QD Z<|QD Z<|QD Z<|QD (congrArg (hS QY 0 u18 1) (by simp:s16.1.length=(s16.1.set s8.2.toNat<|bOr .i64 (J s16.1 s8.2)<|J b s16.2).length))<|QD Z<|QD Z wkN⟩
   refine go h λ_ h=>?_
   cases h
   exact ⟨u18,trivial,QU⟩
  refine jM<|lX h λh=>?_
  cases h
  exact ⟨u18,trivial,QU⟩
 refine jM<|lX h λh=>?_
 cases h
 exact ⟨u10,trivial,QU⟩
theorem zI:∀ (nf:Nat) (p:List<|List QH) (x:QI) (e_:aa) {q} (h:bT nf p x e_=QZ q),ax Q4 93 [eL (cL QH.c) p,.agg (QI.c x),.agg (aa.c e_)] (eL cI q):=by
 intro nf
 induction nf with
 | zero=>intros;rename_i h;cases h
 | succ nf ih=>
  intro p x e_ q h;replace h:bS (bT nf) p x e_=QZ q:=h;refine pM func93 Z (by kernel_rfl) Z<|go h λ_ h=>?_;refine eF Z Z Z<|eF Z Z Z ?_;refine go h λ_ h=>?_;refine QT h (λ_ q1 h=>?_) λ_ q1 h=>?_
  ·refine go h λ_ h=>?_;refine oC h (λ_=>CP _ _ _) Z Z Z Z λv2 _ h=>?_;exact gz h
  refine go h λ_ h=>?_;refine jH<|T.drawP (by kernel_rfl) (by kernel_rfl) ?_;refine go h λ_ h=>?_;refine jD h λg3 h=>fN Z (QE.res (QE.ixL ut Z Z g3 ZTE.len) (r' := .fp (aa.c (J e_.Kids U).out) 0) λ_ _ hr=>rM (ZTE.out_c _) hr)<|go h λ_ h=>?_;refine fC h (λ_=>ih _ _ _) Z Z Z Z Z λv4 _ h=>(go h λ_ h=>?_);refine QT h (λ_ q5 h=>?_) λ_ q5 h=>?_
  ·refine go h λ_ h=>?_;refine oC h (λ_=>xz _) Z Z Z Z λv6 _ h=>?_;exact gz h
  refine gi h (λ_ q7 h=>?_) λ_ q7 h=>?_
  ·refine go h λ_ h=>?_;refine oC h (λ_=>qN _) Z Z Z Z λv8 _ h=>?_;exact gz h
  refine go h λ_ h=>?_;refine jH<|T.drawP (by kernel_rfl) (by kernel_rfl) ?_;refine go h λ_ h=>?_;refine jD h λg9 h=>fN Z (QE.res (QE.ixL ut Z Z g9 ZTE.len) (r' := .fp (aa.c (J e_.Kids V).out) 0) λ_ _ hr=>rM (ZTE.out_c _) hr)<|go h λ_ h=>?_;refine fC h (λ_=>ih _ _ _) Z Z Z Z Z λv10 _ h=>(go h λ_ h=>?_);refine QT h (λ_ q11 h=>?_) λ_ q11 h=>?_
  ·refine go h λ_ h=>?_;refine oC h (λ_=>zG _ _) Z Z Z Z λv12 _ h=>?_;exact gz h
  refine gi h (λ_ q13 h=>?_) λ_ q13 h=>?_
  ·refine go h λ_ h=>?_;refine oC h (λ_=>Aw _ _) Z Z Z Z λv14 _ h=>?_;exact gz h
  refine gi h (λ_ q15 h=>?_) λ_ q15 h=>?_
  ·refine go h λ_ h=>?_;refine oC h (λ_=>zH _ _) Z Z Z Z λv16 _ h=>?_;exact gz h
  refine go h λ_ h=>?_;refine oC h (λ_=>xD _ _) Z Z Z Z λv17 _ h=>?_;exact gz h
theorem Ay (p:List<|List QH) (x:QI) (e_:aa) {q} (h:rP p x e_=QZ q):ax Q4 93 [eL (cL QH.c) p,.agg (QI.c x),.agg (aa.c e_)] (eL cI q):=by
 obtain ⟨nf,h⟩:=lG h;exact zI nf p x e_ h
theorem mM (r_:LI) {q} (h:da r_=QZ q):ax Q4 160 [eL cI r_] (Bo q):=by
 refine pM func160 Z (by kernel_rfl) Z<|go h λ_ h=>?_;obtain ⟨Ks1,es1,ws1,h,ks1⟩:=tX h;refine T.join (S:=Unit) (G:=Unit) (λs1=>Ks1 s1=QZ q) (λs1 gh=>True) (λs1 gh=>[]) (λs1 gh=>[]) (λs1 gh h hg=>?_) ?_
 ·clear ks1;subst es1;exact gz h
 refine go h λ_ h=>?_;refine tU h (λs4=>[(6,I s4),(5,I (r_.length:Int)),(0,eL cI r_)]) (λs4=>[]) λs4 ws4 h=>?_;refine go h λ_ h=>?_;refine jH ?_;refine jN Z h (λq6 h=>?_) λq6 h=>?_
 ·refine go h λ_ h=>?_;refine gs h λ_ h=>?_;refine oC h (λ_=>dV _ _ _) Z Z Z Z λv7 _ h=>?_;refine gi h (λ_ q8 h=>?_) λ_ q8 h=>?_
  ·refine go h λ_ h=>?_;refine lX h λh=>?_;obtain rfl:=QG h;replace h:=congrArg QZ (show _=_ from ks1);exact gz h
  refine go h λ_ h=>?_;exact lE h QU
 refine jM<|lX h λh=>?_
 cases h
 exact ⟨(),(),ks1,trivial,QU⟩
theorem xE (r_:LI) {q} (h:jm r_=QZ q):ax Q4 159 [eL cI r_] (Bo q):=by
 refine pM func159 Z (by kernel_rfl) Z<|go h λ_ h=>?_;refine oC h (λ_=>cu _) Z Z Z Z λv1 _ h=>(go h λ_ h=>?_);refine TO.jB h 4 (λs2=>[(9,Bo s2)]) (λs2=>[]) (λs2 q3 h js2=>?_) (λs2 q3 h js2=>?_) λs2 h=>?_
 ·refine go h λ_ h=>?_;refine jB h λv4 cv4 h=>gN Z q3 (QE.call Z Z Z (qN r_ cv4) Z)<|jB h λv5 cv5 h=>gN Z q3 (QE.call Z Z Z (mM v4 cv5) Z) ?_;exact gj h js2
 ·exact gj h js2
 exact gz h
theorem sG (x:Int) {q} (h:gK x=QZ q):ax Q4 265 [.v (.int .u64 x)] (I q):=by
 refine pM func265 Z (by kernel_rfl) Z<|jI<|oN as'<|jA<|jI<|oN mv<|jD h λg1 h=>oN (QE.shr Z Z g1)<|oN (QE.band Z Z)<|oN mv<|oN (QE.band Z Z)<|jW h λg2 h=>oN (QE.add Z Z g2)<|oN as'<|jA<|jI ?_;refine oN mv<|jD h λg3 h=>oN (QE.shr Z Z g3)<|oN (QE.band Z Z)<|oN mv<|oN (QE.band Z Z)<|jW h λg4 h=>oN (QE.add Z Z g4)<|oN as'<|jA<|jI<|oN mv<|jD h λg5 h=>oN (QE.shr Z Z g5)<|oN mv<|jW h λg6 h=>?_;refine jB h λw7 ew7 h=>?_;replace ew7:=osi ew7;refine oN (QE.res (QE.add Z Z g6) (r' := .v<|.int .u64 w7) λ_ _ hr=>by rw [<- ew7];exact hr)<|oN (QE.band Z Z)<|oN as'<|jA<|jH<|T.clean (H0:=[]) (e0:=ai [(0,.v<|.int .u64<|fH .u64 w7 (1085102592571150095:Int))]) Z (QD Z wkN)<|jC<|oN mv<|oN mv<|jD h λg8 h=>oN (QE.shr Z Z g8)<|jW h λg9 h=>oN (QE.add Z Z g9)<|oN as'<|jA<|jI ?_;refine oN mv<|oN mv<|jD h λg10 h=>oN (QE.shr Z Z g10)<|jW h λg11 h=>oN (QE.add Z Z g11)<|oN as'<|jA<|jI<|oN mv<|oN mv<|jD h λg12 h=>oN (QE.shr Z Z g12)<|jW h λg13 h=>oN (QE.add Z Z g13)<|oN as' ?_;refine jA<|jI<|oN mv<|jW h λg14 h=>oN (QE.iconv PQ.und Tryz.underlying3 Z g14)<|oN (QE.band Z Z)<|oN as'<|jA<|jK ?_
 cases h
 exact vq Z Z Z
theorem uw (x:Int) {q} (h:eB x=QZ q):ax Q4 225 [.v (.int .u64 x)] (I q):=by
 refine pM func225 Z (by kernel_rfl) Z<|go h λ_ h=>?_;refine jH ?_;refine T.cond Z (λq=>absurd (q.symm.trans Z)<|by decide) λ_=>?_;refine go h λ_ h=>?_;refine oC h (λ_=>sG _) Z Z Z Z λv1 _ h=>?_;exact gz h
theorem zJ (r_:LI) {q} (h:lN r_=QZ q):ax Q4 161 [eL cI r_] (I q):=by
 refine pM func161 Z (by kernel_rfl) Z<|go h λ_ h=>?_;refine gs h λ_ h=>?_;refine oC h (λ_=>cu _) Z Z Z Z λv1 _ h=>?_;refine gi h (λ_ q2 h=>?_) λ_ q2 h=>?_
 ·exact gz h
 refine go h λ_ h=>?_;refine T.jU h (λs3=>[(3,I s3)]) (λs3=>[]) (λs3 h=>?_) λs3 h=>?_
 ·exact gz h
 refine go h λ_ h=>?_;refine tU h (λs6=>[(11,I s6.1),(10,I (r_.length:Int)),(9,eL cI r_),(3,I s6.2)]) (λs6=>[]) λs6 ws6 h=>?_;refine go h λ_ h=>?_;refine jH ?_;refine jN Z h (λq8 h=>?_) λq8 h=>?_
 ·refine go h λ_ h=>?_;refine gs h λ_ h=>?_;refine oC h (λ_=>uw _) Z Z Z Z λv11 _ h=>(go h λ_ h=>?_);exact lE h QU
 refine jM<|lX h λh=>?_
 cases h
 exact ⟨(),trivial,QU⟩
theorem yD (kind:Int) (r_:LI) {q} (h:kG kind r_=QZ q):ax Q4 94 [I kind,eL cI r_] (Bo q):=by
 refine pM func94 Z (by kernel_rfl) Z<|go h λ_ h=>?_;refine QT h (λ_ q1 h=>?_) λ_ q1 h=>?_
 ·refine go h λ_ h=>?_;refine oC h (λ_=>xE _) Z Z Z Z λv2 _ h=>?_;exact gz h
 refine gi h (λ_ q3 h=>?_) λ_ q3 h=>?_
 ·refine go h λ_ h=>?_;refine oC h (λ_=>mM _) Z Z Z Z λv4 _ h=>?_;exact gz h
 refine go h λ_ h=>?_;refine oC h (λ_=>zJ _) Z Z Z Z λv5 _ h=>?_;exact gz h
theorem qO (p:List<|List QH) (x:QI) (m:List ah) {q} (h:cf p x m=QZ q):ax Q4 39 [eL (cL QH.c) p,.agg (QI.c x),eL ah.c m] (.tup [I q.1,eL cI q.2]):=by
 refine pM func39 Z (by kernel_rfl) Z<|go h λ_ h=>?_;refine eF Z Z Z<|go h λ_ h=>?_;obtain ⟨Ks1,es1,ws1,h,ks1⟩:=tX h;refine T.join (S:=Unit) (G:=Unit) (λs1=>Ks1 s1=QZ q) (λs1 gh=>True) (λs1 gh=>[]) (λs1 gh=>[]) (λs1 gh h hg=>?_) ?_
 ·clear ks1;subst es1;exact gf h
 refine go h λ_ h=>?_;refine tU h (λs4=>[(13,I s4),(12,I (m.length:Int)),(11,eL ah.c m),(4,.fp (QI.c x) 0),(0,eL (cL QH.c) p)]) (λs4=>[]) λs4 ws4 h=>?_;refine go h λ_ h=>?_;refine jH ?_;refine jN Z h (λq6 h=>?_) λq6 h=>?_
 ·refine go h λ_ h=>?_;refine gs h λ_ h=>?_;refine oC h (λ_=>Ay _ _ _) Z Z Z Z λv8 _ h=>(go h λ_ h=>?_);refine oC h (λ_=>yD _ _) Z Z Z Z λv9 _ h=>?_;refine gi h (λ_ q10 h=>?_) λ_ q10 h=>?_
  ·refine go h λ_ h=>?_;refine lX h λh=>?_;obtain rfl:=QG h;replace h:=congrArg QZ (show _=_ from ks1);exact gf h
  refine go h λ_ h=>?_;exact lE h QU
 refine jM<|lX h λh=>?_
 cases h
 exact ⟨(),(),ks1,trivial,QU⟩
theorem xG (p:List<|List QH) (x:QI) (m:List ah) {q} (h:dw p x m=QZ q):ax Q4 12 [eL (cL QH.c) p,.agg (QI.c x),eL ah.c m] (.tup [I q.1,Bo q.2]):=by
 refine pM func12 Z (by kernel_rfl) Z<|go h λ_ h=>?_;refine eF Z Z Z<|go h λ_ h=>?_;refine gs h λ_ h=>?_;refine oC h (λ_=>mo _ _) Z Z Z Z λv1 _ h=>(go h λ_ h=>?_);refine TO.jB h 4 (λs2=>[(18,Bo s2),(4,.fp (QI.c x) 0),(0,eL (cL QH.c) p),(2,eL ah.c m)]) (λs2=>[]) (λs2 q3 h js2=>?_) (λs2 q3 h js2=>?_) λs2 h=>?_
 ·exact gj h js2
 ·refine go h λ_ h=>?_;refine jB h λv4 cv4 h=>gN Z q3 (QE.call Z Z Z (qM m cv4) Z) ?_;exact gj h js2
 refine gi h (λ_ q5 h=>?_) λ_ q5 h=>?_
 ·exact gf h
 refine go h λ_ h=>?_;refine oC h (λ_=>qO _ _ _) Z Z Z Z λv6 _ h=>?_;exact gf h
theorem tF (v:aA) (t:Int) (index:Int) (reg:Int) (aJ:Nat) (mN:Nat) (mI:Nat) (gw1:Bool) (hgw1:gw1=QX->v.values=[]) {q} (h:dI v t index reg=QZ q):fG Q4 175 [.hp 0 aJ 6 0 0,I t,I index,I reg] [QZ ⟨aJ,6,140,[[eL (cL QH.c) v.p,eL cI v.x.From,eL (cL cI) v.x.Order,eL QJ.c v.events,hS gw1 1 mN 1 v.values.length,hS QY 2 mI 1 v.busy.length]]⟩,bE gw1 mN 1 3 (v.values.map cI),bE QY mI 1 4 (v.busy.map cB)] (NJ (I q.2) λver=>[QZ ⟨aJ,6,140,[[eL (cL QH.c) q.1.p,eL cI q.1.x.From,eL (cL cI) q.1.x.Order,eL QJ.c q.1.events,hS gw1 1 mN 1 v.values.length,hS QY 2 mI 1 q.1.busy.length]]⟩,bE gw1 mN 1 3 (v.values.map cI),bE QY mI 1 4 (q.1.busy.map cB)]):=by
 refine fG.mkS func175 Z (by kernel_rfl) Z (by kernel_rfl) (e0:=ai [(0,.hp 0 aJ 6 0 0),(1,I t),(2,I index),(3,I reg)]) (QD Z<|QD Z<|QD Z<|QD Z wkN)<|go h λ_ h=>?_;refine T.jU h (λs1=>[(9,I s1)]) (λs1=>[QZ ⟨aJ,6,140,[[eL (cL QH.c) v.p,eL cI v.x.From,eL (cL cI) v.x.Order,eL QJ.c v.events,hS gw1 1 mN 1 v.values.length,hS QY 2 mI 1 v.busy.length]]⟩,bE gw1 mN 1 3 (v.values.map cI),bE QY mI 1 4 (v.busy.map cB)]) (λs1 h=>?_) λs1 h=>?_
 ·refine go h λ_ h=>?_;obtain rfl:=QG h
  repeat (first|refine jh ?_|refine ji ?_)
  exact ⟨ai [(8,I s1)],[QZ ⟨aJ,6,140,[[eL (cL QH.c) v.p,eL cI v.x.From,eL (cL cI) v.x.Order,eL QJ.c v.events,hS gw1 1 mN 1 v.values.length,hS QY 2 mI 1 v.busy.length]]⟩,bE gw1 mN 1 3 (v.values.map cI),bE QY mI 1 4 (v.busy.map cB)],QU,jQ (vs:=[I s1]) (.cons (.tmp Z) .nil) ⟨0,Z,Z⟩⟩
 refine go h λ_ h=>?_;refine tU h (λs4=>[(17,I s4.1),(16,I (v.events.length:Int)),(15,eL QJ.c v.events),(9,I s4.2),(0,.hp 0 aJ 6 0 0),(1,I t),(2,I index),(3,I reg)]) (λs4=>[QZ ⟨aJ,6,140,[[eL (cL QH.c) v.p,eL cI v.x.From,eL (cL cI) v.x.Order,eL QJ.c v.events,hS gw1 1 mN 1 v.values.length,hS QY 2 mI 1 v.busy.length]]⟩,bE gw1 mN 1 3 (v.values.map cI),bE QY mI 1 4 (v.busy.map cB)]) λs4 ws4 h=>?_;refine go h λ_ h=>?_;refine jH ?_;refine jN Z h (λq6 h=>?_) λq6 h=>?_
 ·refine go h λ_ h=>?_;refine T.jU h (λs7=>[(9,I s7),(17,I s4.1),(16,I (v.events.length:Int)),(15,eL QJ.c v.events),(0,.hp 0 aJ 6 0 0),(1,I t),(2,I index),(3,I reg)]) (λs7=>[QZ ⟨aJ,6,140,[[eL (cL QH.c) v.p,eL cI v.x.From,eL (cL cI) v.x.Order,eL QJ.c v.events,hS gw1 1 mN 1 v.values.length,hS QY 2 mI 1 v.busy.length]]⟩,bE gw1 mN 1 3 (v.values.map cI),bE QY mI 1 4 (v.busy.map cB)]) (λs7 h=>?_) λs7 h=>?_
  ·refine go h λ_ h=>?_;exact lE h QU
  refine go h λ_ h=>?_;refine T.jU h (λs9=>[(51,Bo s9),(10,I s4.1),(17,I s4.1),(16,I (v.events.length:Int)),(15,eL QJ.c v.events),(9,I s4.2),(0,.hp 0 aJ 6 0 0),(1,I t),(2,I index),(3,I reg)]) (λs9=>[QZ ⟨aJ,6,140,[[eL (cL QH.c) v.p,eL cI v.x.From,eL (cL cI) v.x.Order,eL QJ.c v.events,hS gw1 1 mN 1 v.values.length,hS QY 2 mI 1 v.busy.length]]⟩,bE gw1 mN 1 3 (v.values.map cI),bE QY mI 1 4 (v.busy.map cB),QZ ⟨0,5,60,[(QJ.c<|J v.events s4.1)]⟩]) (λs9 h=>?_) λs9 h=>?_
  ·refine jN Z h (λq15 h=>?_) λq15 h=>?_
   ·refine go h λ_ h=>?_
    cases h
    exact ⟨(),trivial,QU⟩
   refine go h λ_ h=>?_
   cases h
   exact ⟨(),trivial,QU⟩
  refine T.drawG (dG [dF,([3],QY),dF,dF,dF,dF,([3],QY),dF,dF,dF,dF,dF,([3],QY),dF,dF,dF,dF,dF,([0],QY),dF,dF,dF,dF,([3],QY),dF,dF,dF,dF,dF,dF]) (by kernel_rfl) (by kernel_rfl)<|go h λ_ h=>?_;rcases yh h with ⟨q10,h⟩ | ⟨q10,h⟩
  ·refine go h λ_ h=>?_;refine tgR Z q10 [3] Z (λG hG=>EvA.loadhp (I<|(J v.events s4.1).Index) QS Z (hG.a0 Z) Z Z Z Z)<|gp h λ_ h=>?_;refine go h λ_ h=>?_;rcases yh h with ⟨q11,h⟩ | ⟨q11,h⟩
   ·refine go h λ_ h=>?_;refine tgR Z q11 [3] Z (λG hG=>EvA.loadhp (Bo<|(J v.events s4.1).Reads) ty4 Z (hG.a0 Z) Z Z Z Z)<|gp h λ_ h=>?_;refine go h λ_ h=>?_;rcases yh h with ⟨q12,h⟩ | ⟨q12,h⟩
    ·refine go h λ_ h=>?_;refine tgR Z q12 [0] Z (λG hG=>EvA.loadhp (eL (cL QH.c) v.p) Qh Z (hG.a0 Z) Z Z Z Z)<|go h λ_ h=>?_;refine tgR Z q12 [3] Z (λG hG=>EvA.loadhp (I<|(J v.events s4.1).Index) QS Z (hG.a0 Z) Z Z Z Z)<|gp h λ_ h=>?_;refine go h λ_ h=>?_
     cases h
     exact ⟨(),trivial,QU⟩
    refine gp h λ_ h=>?_;refine go h λ_ h=>?_
    cases h
    exact ⟨(),trivial,QU⟩
   refine gp h λ_ h=>?_;refine gp h λ_ h=>?_;refine go h λ_ h=>?_
   cases h
   exact ⟨(),trivial,QU⟩
  refine gp h λ_ h=>?_;refine gp h λ_ h=>?_;refine gp h λ_ h=>?_;refine go h λ_ h=>?_
  cases h
  exact ⟨(),trivial,QU⟩
 refine jM<|lX h λh=>?_
 cases h
 exact ⟨(),trivial,QU⟩
theorem uX:∀ (nf:Nat) (v:aA) (i:Int) (aJ:Nat) (mN:Nat) (mI:Nat) (gw1:Bool) (hgw1:gw1=QX->v.values=[]) {q} (h:bg nf v i=QZ q),fG Q4 104 [.hp 0 aJ 6 0 0,I i] [QZ ⟨aJ,6,140,[[eL (cL QH.c) v.p,eL cI v.x.From,eL (cL cI) v.x.Order,eL QJ.c v.events,hS gw1 1 mN 1 v.values.length,hS QY 2 mI 1 v.busy.length]]⟩,bE gw1 mN 1 3 (v.values.map cI),bE QY mI 1 4 (v.busy.map cB)] (NJ (.tup [I q.2.1,Bo q.2.2]) λver=>[QZ ⟨aJ,6,140,[[eL (cL QH.c) q.1.p,eL cI q.1.x.From,eL (cL cI) q.1.x.Order,eL QJ.c q.1.events,hS gw1 1 mN 1 v.values.length,hS QY 2 mI 1 q.1.busy.length]]⟩,bE gw1 mN 1 3 (v.values.map cI),bE QY mI 1 4 (q.1.busy.map cB)]):=by
 intro nf
 induction nf with
 | zero=>intros;rename_i h;cases h
 | succ nf ih=>
  intro v i aJ mN mI gw1 hgw1 q h;let d0:=v.events.getD i.toNat QW;replace h:eC (bg nf) v i=QZ q:=h;refine fG.mkS func104 Z (by kernel_rfl) Z (by kernel_rfl) (e0:=ai [(0,.hp 0 aJ 6 0 0),(1,I i)]) (QD Z<|QD Z wkN)<|go h λ_ h=>?_;refine QT h (λ_ q2 h=>?_) λ_ q2 h=>?_
  ·refine go h λ_ h=>?_;obtain rfl:=QG h
   repeat (first|refine jh ?_|refine ji ?_)
   exact ⟨ai [(4,I U),(5,Bo QX)],[QZ ⟨aJ,6,140,[[eL (cL QH.c) v.p,eL cI v.x.From,eL (cL cI) v.x.Order,eL QJ.c v.events,hS gw1 1 mN 1 v.values.length,hS QY 2 mI 1 v.busy.length]]⟩,bE gw1 mN 1 3 (v.values.map cI),bE QY mI 1 4 (v.busy.map cB)],n9 Z (.cons (.row<|.cons (.fz<|qC Z)<|.cons (.fz<|qC Z)<|.cons (.fz<|qC Z)<|.cons (.fz<|qC Z)<|.cons (.hS (g:=gw1) (b:=1) (ver:=mN) (s:=1) (n:=v.values.length) Z)<|.cons (.hS (g:=false) (b:=2) (ver:=mI) (s:=1) (n:=v.busy.length) Z) .nil)<|.cons (.list (g:=gw1) (ver:=mN) (l:=v.values) qD)<|.cons (.list (g:=false) (ver:=mI) (l:=v.busy) qD) .nil)<|aj (.fz<|qC Z)<|aj (.fz<|qC Z) aF,jQ (vs:=[I U,Bo QX]) (.cons (.tmp Z)<|.cons (.tmp Z) .nil) ⟨0,Z,Z⟩⟩
  refine jG<|jH<|T.reserve<|jP (dG [dF,dF,dF,([0],QY),dF,([3],QY),dF,dF,dF,([3],QY),dF,dF,([4],QX),([4],QX)]) (by kernel_rfl) (by kernel_rfl) ?_;refine go h λ_ h=>?_;refine fW 4 [] Z Z (λG hG=>EvA.alR 4 PO Z Z<|hG.a0 Z)<|go h λ_ h=>?_;refine QT h (λ_ q5 h=>?_) λ_ q5 h=>?_
  ·refine go h λ_ h=>?_;obtain rfl:=QG h
   repeat (first|refine jh ?_|refine ji ?_)
   exact ⟨ai [(4,I<|(J (J v.p<|d0.Thread)<|d0.Index).Val),(5,Bo QX)],[QZ ⟨aJ,6,140,[[eL (cL QH.c) v.p,eL cI v.x.From,eL (cL cI) v.x.Order,eL QJ.c v.events,hS gw1 1 mN 1 v.values.length,hS QY 2 mI 1 v.busy.length]]⟩,bE gw1 mN 1 3 (v.values.map cI),bE QY mI 1 4 (v.busy.map cB)],n9 Z (.cons (.row<|.cons (.fz<|qC Z)<|.cons (.fz<|qC Z)<|.cons (.fz<|qC Z)<|.cons (.fz<|qC Z)<|.cons (.hS (g:=gw1) (b:=1) (ver:=mN) (s:=1) (n:=v.values.length) Z)<|.cons (.hS (g:=false) (b:=2) (ver:=mI) (s:=1) (n:=v.busy.length) Z) .nil)<|.cons (.list (g:=gw1) (ver:=mN) (l:=v.values) qD)<|.cons (.list (g:=false) (ver:=mI) (l:=v.busy) qD) .nil)<|aj (.fz<|qC Z)<|aj (.fz<|qC Z) aF,jQ (vs:=[I ((J (J v.p<|d0.Thread)<|d0.Index).Val),Bo QX]) (.cons (.tmp Z)<|.cons (.tmp Z) .nil) ⟨0,Z,Z⟩⟩
  refine go h λ_ h=>?_;refine QT h (λ_ q7 h=>?_) λ_ q7 h=>?_
  ·refine go h λ_ h=>?_;obtain rfl:=QG h
   repeat (first|refine jh ?_|refine ji ?_)
   exact ⟨ai [(4,I U),(5,Bo QY)],[QZ ⟨aJ,6,140,[[eL (cL QH.c) v.p,eL cI v.x.From,eL (cL cI) v.x.Order,eL QJ.c v.events,hS gw1 1 mN 1 v.values.length,hS QY 2 mI 1 v.busy.length]]⟩,bE gw1 mN 1 3 (v.values.map cI),bE QY mI 1 4 (v.busy.map cB)],n9 Z (.cons (.row<|.cons (.fz<|qC Z)<|.cons (.fz<|qC Z)<|.cons (.fz<|qC Z)<|.cons (.fz<|qC Z)<|.cons (.hS (g:=gw1) (b:=1) (ver:=mN) (s:=1) (n:=v.values.length) Z)<|.cons (.hS (g:=false) (b:=2) (ver:=mI) (s:=1) (n:=v.busy.length) Z) .nil)<|.cons (.list (g:=gw1) (ver:=mN) (l:=v.values) qD)<|.cons (.list (g:=false) (ver:=mI) (l:=v.busy) qD) .nil)<|aj (.fz<|qC Z)<|aj (.fz<|qC Z) aF,jQ (vs:=[I U,Bo QY]) (.cons (.tmp Z)<|.cons (.tmp Z) .nil) ⟨0,Z,Z⟩⟩
  refine go h λ_ h=>?_;refine jB h λv8 cv8 h=>?_;refine oW Z Z Z (fG.outAt (tF (⟨v.p,(⟨v.x.From,v.x.Order⟩:QI),v.events,v.values,v.busy⟩:aA) (d0.Thread) (d0.Index) ((J (J v.p<|d0.Thread)<|d0.Index).Reg) aJ mN mI gw1 hgw1 cv8) [0,1,2] (by decide) (.cons Z (.rowL<|.cons (aO 9 _ Z)<|.cons (aO 9 _ Z)<|.cons (aO 9 _ Z)<|.cons (aO 9 _ Z)<|.cons (mQ Z)<|.cons (mQ Z) .nil)<|.bE Z qD<|.cons Z (RenK.bE' qD) .nil) (.cons (.hp Z)<|.cons (aO 9 _ Z)<|.cons (aO 9 _ Z)<|.cons (aO 9 _ Z) .nil) (G:=λv_=>[QZ ⟨aJ,6,140,[[eL (cL QH.c) v8.1.p,eL cI v8.1.x.From,eL (cL cI) v8.1.x.Order,eL QJ.c v8.1.events,hS gw1 1 mN 1 v.values.length,hS QY 2 mI 1 v8.1.busy.length]]⟩,bE gw1 mN 1 3 (v.values.map cI),bE QY mI 1 4 (v8.1.busy.map cB)]) (G':=λv_=>[QZ ⟨aJ,6,140,[[eL (cL QH.c) v8.1.p,eL cI v8.1.x.From,eL (cL cI) v8.1.x.Order,eL QJ.c v8.1.events,hS gw1 1 mN 1 v.values.length,hS QY 2 mI 1 v8.1.busy.length]]⟩,bE gw1 mN 1 3 (v.values.map cI),bE QY mI 1 4 (v8.1.busy.map cB),QZ ⟨0,5,60,[(QJ.c d0)]⟩,QZ ⟨0,4,79,[(QH.c<|J (J v.p<|d0.Thread)<|d0.Index)]⟩]) 5 Z (λv_ => .some (.rowL<|.cons (aO 9 _ Z)<|.cons (aO 9 _ Z)<|.cons (aO 9 _ Z)<|.cons (aO 9 _ Z)<|.cons (mQ<|.inl Z)<|.cons (mQ<|.inl Z) .nil)<|.bE qD<|.some (RenK.bE' qD) .nil) qD (r:=I v8.2) (aO 9 _ Z) qD) λu9=>?_;refine go h λ_ h=>?_;refine QT h (λ_ q10 h=>?_) λ_ q10 h=>?_
  ·refine go h λ_ h=>?_;obtain rfl:=QG h
   repeat (first|refine jh ?_|refine ji ?_)
   exact ⟨ai [(4,I U),(5,Bo QX)],[QZ ⟨aJ,6,140,[[eL (cL QH.c) v8.1.p,eL cI v8.1.x.From,eL (cL cI) v8.1.x.Order,eL QJ.c v8.1.events,hS gw1 1 mN 1 v.values.length,hS QY 2 mI 1 v8.1.busy.length]]⟩,bE gw1 mN 1 3 (v.values.map cI),bE QY mI 1 4 (v8.1.busy.map cB)],n9 Z (.cons (.row<|.cons (.fz<|qC Z)<|.cons (.fz<|qC Z)<|.cons (.fz<|qC Z)<|.cons (.fz<|qC Z)<|.cons (.hS (g:=gw1) (b:=1) (ver:=mN) (s:=1) (n:=v.values.length) Z)<|.cons (.hS (g:=false) (b:=2) (ver:=mI) (s:=1) (n:=v8.1.busy.length) Z) .nil)<|.cons (.list (g:=gw1) (ver:=mN) (l:=v.values) qD)<|.cons (.list (g:=false) (ver:=mI) (l:=v8.1.busy) qD) .nil)<|aj (.fz<|qC Z)<|aj (.fz<|qC Z) aF,jQ (vs:=[I U,Bo QX]) (.cons (.tmp Z)<|.cons (.tmp Z) .nil) ⟨0,Z,Z⟩⟩
  refine go h λf h=>?_;obtain ⟨g11,_⟩:=f;refine oV (EvA.stO (g:=false) (l:=v8.1.busy) (cs:=[Bo QX]) QX ty4 Z Z Z nofun (bA Z g11) Z Z Z)<|go h λ_ h=>?_;refine jB h λv13 cv13 h=>?_;refine oW Z Z Z (fG.outAt (ih (⟨v8.1.p,(⟨v8.1.x.From,v8.1.x.Order⟩:QI),v8.1.events,v.values,(v8.1.busy.set i.toNat QX)⟩:aA) (J v8.1.x.From v8.2) aJ mN mI gw1 hgw1 cv13) [0,1,2] (by decide) (.cons Z (.rowL<|.cons (aO 9 _ Z)<|.cons (aO 9 _ Z)<|.cons (aO 9 _ Z)<|.cons (aO 9 _ Z)<|.cons (mQ Z)<|.cons (KR Z<|(by simp)) .nil)<|.bE Z qD<|.cons Z (RenK.bE' qD) .nil) (.cons (.hp Z)<|.cons (aO 9 _ Z) .nil) (G:=λv_=>[QZ ⟨aJ,6,140,[[eL (cL QH.c) v13.1.p,eL cI v13.1.x.From,eL (cL cI) v13.1.x.Order,eL QJ.c v13.1.events,hS gw1 1 mN 1 v.values.length,hS QY 2 mI 1 v13.1.busy.length]]⟩,bE gw1 mN 1 3 (v.values.map cI),bE QY mI 1 4 (v13.1.busy.map cB)]) (G':=λv_=>[QZ ⟨aJ,6,140,[[eL (cL QH.c) v13.1.p,eL cI v13.1.x.From,eL (cL cI) v13.1.x.Order,eL QJ.c v13.1.events,hS gw1 1 mN 1 v.values.length,hS QY 2 mI 1 v13.1.busy.length]]⟩,bE gw1 mN 1 3 (v.values.map cI),bE QY mI 1 4 (v13.1.busy.map cB),QZ ⟨0,5,60,[(QJ.c d0)]⟩,QZ ⟨0,4,79,[(QH.c<|J (J v.p<|d0.Thread)<|d0.Index)]⟩]) 5 Z (λv_ => .some (.rowL<|.cons (aO 9 _ Z)<|.cons (aO 9 _ Z)<|.cons (aO 9 _ Z)<|.cons (aO 9 _ Z)<|.cons (mQ<|.inl Z)<|.cons (mQ<|.inl Z) .nil)<|.bE qD<|.some (RenK.bE' qD) .nil) qD (r:=.tup [I v13.2.1,Bo v13.2.2]) (aO 9 _ Z) qD) λu14=>?_;refine go h λf h=>?_;obtain ⟨g15,_⟩:=f;refine oV (EvA.stO (g:=false) (l:=v13.1.busy) (cs:=[Bo QY]) QY ty4 Z Z Z nofun (bA Z g15) Z Z Z)<|go h λ_ h=>?_;obtain rfl:=QG h
  repeat (first|refine jh ?_|refine ji ?_)
  exact ⟨ai [(4,I v13.2.1),(5,Bo v13.2.2)],[QZ ⟨aJ,6,140,[[eL (cL QH.c) v13.1.p,eL cI v13.1.x.From,eL (cL cI) v13.1.x.Order,eL QJ.c v13.1.events,hS gw1 1 mN 1 v.values.length,hS QY 2 mI 1 ((v13.1.busy.set i.toNat QY).length)]]⟩,bE gw1 mN 1 3 (v.values.map cI),bE QY mI 1 4 ((v13.1.busy.set i.toNat QY).map cB)],n9 Z (.cons (.row<|.cons (.fz<|qC Z)<|.cons (.fz<|qC Z)<|.cons (.fz<|qC Z)<|.cons (.fz<|qC Z)<|.cons (.hS (g:=gw1) (b:=1) (ver:=mN) (s:=1) (n:=v.values.length) Z)<|.cons (.eqv (congrArg (hS QY 2 mI 1) (by simp:v13.1.busy.length=(v13.1.busy.set i.toNat QY).length))<|.hS (g:=false) (b:=2) (ver:=mI) (s:=1) (n:=(v13.1.busy.set i.toNat QY).length) Z) .nil)<|.cons (.list (g:=gw1) (ver:=mN) (l:=v.values) qD)<|.cons (.list (g:=false) (ver:=mI) (l:=(v13.1.busy.set i.toNat QY)) qD) .nil)<|aj (.fz<|qC Z)<|aj (.fz<|qC Z) aF,jQ (vs:=[I v13.2.1,Bo v13.2.2]) (.cons (.tmp Z)<|.cons (.tmp Z) .nil) ⟨0,Z,Z⟩⟩
theorem vO (v:aA) (i:Int) (aJ:Nat) (mN:Nat) (mI:Nat) (gw1:Bool) (hgw1:gw1=QX->v.values=[]) {q} (h:kV v i=QZ q):fG Q4 104 [.hp 0 aJ 6 0 0,I i] [QZ ⟨aJ,6,140,[[eL (cL QH.c) v.p,eL cI v.x.From,eL (cL cI) v.x.Order,eL QJ.c v.events,hS gw1 1 mN 1 v.values.length,hS QY 2 mI 1 v.busy.length]]⟩,bE gw1 mN 1 3 (v.values.map cI),bE QY mI 1 4 (v.busy.map cB)] (NJ (.tup [I q.2.1,Bo q.2.2]) λver=>[QZ ⟨aJ,6,140,[[eL (cL QH.c) q.1.p,eL cI q.1.x.From,eL (cL cI) q.1.x.Order,eL QJ.c q.1.events,hS gw1 1 mN 1 v.values.length,hS QY 2 mI 1 q.1.busy.length]]⟩,bE gw1 mN 1 3 (v.values.map cI),bE QY mI 1 4 (q.1.busy.map cB)]):=by
 obtain ⟨nf,h⟩:=lG h;exact uX nf v i aJ mN mI gw1 hgw1 h
theorem tG (p:List<|List QH) (x:QI) {q} (h:cG p x=QZ q):ax Q4 46 [eL (cL QH.c) p,.agg (QI.c x)] (.tup [eL cI q.1,Bo q.2]):=by
 refine pM func46 Z (by kernel_rfl) Z<|go h λ_ h=>?_;refine eF Z Z Z<|gq h λ_ h=>?_;refine jH<|T.reserve<|T.reserve<|jP (dG [dF,dF,dF,dF,dF,([1],QX),dF]) (by kernel_rfl) (by kernel_rfl) ?_;refine go h λ_ h=>?_;refine fC h (λ_=>mh _) Z Z Z Z Z λv1 _ h=>(go h λ_ h=>?_);refine fW 1 [] Z Z (λG hG=>EvA.bxA (cs:=[eL (cL QH.c) p,eL cI x.From,eL (cL cI) x.Order,eL QJ.c v1,hS QX 0 0 1 (([]:LI).length),.nil]) 1 Z Z<|hG.a0 Z)<|go h λ_ h=>?_;refine jD h λg2 h=>oA (EvA.mkN (c:=cB) (QW:Bool) PR Z Z g2 Z Z Z)<|go h λ_ h=>?_;obtain ⟨Ks3,es3,ws3,h,ks3⟩:=tX h;refine T.join (S:=(LI)×(List<|List QH)×(LI)×(LL)×(List QJ)×(List Bool)) (G:=(Bool×Nat)×Nat) (λs3=>Ks3 s3=QZ q) (λs3 gh=>(gh.1.1=QX->s3.1=[])) (λs3 gh=>[(6,.hp 1 0 6 0 0)]) (λs3 gh=>[bE gh.1.1 gh.1.2 1 3 (s3.1.map cI),QZ ⟨0,6,140,[[eL (cL QH.c) s3.2.1,eL cI s3.2.2.1,eL (cL cI) s3.2.2.2.1,eL QJ.c s3.2.2.2.2.1,hS gh.1.1 0 gh.1.2 1 s3.1.length,hS QY 2 gh.2 1 s3.2.2.2.2.2.length]]⟩,bE QY gh.2 1 4 (s3.2.2.2.2.2.map cB)]) (λs3 gh h n28=>?_) ?_
 ·clear ks3;subst es3;obtain ⟨⟨b27,u26⟩,u29⟩:=gh;exact gf h
 refine go h λ_ h=>?_;refine tL h ((QX,0),0) (λs10 gh=>(gh.1.1=QX->s10.1=[])) (λs10 gh=>[(32,I s10.2.2.2.2.2.2),(31,I (v1.length:Int)),(30,eL QJ.c v1),(6,.hp 1 0 6 0 0)]) (λs10 gh=>[bE gh.1.1 gh.1.2 1 3 (s10.1.map cI),QZ ⟨0,6,140,[[eL (cL QH.c) s10.2.1,eL cI s10.2.2.1,eL (cL cI) s10.2.2.2.1,eL QJ.c s10.2.2.2.2.1,hS gh.1.1 0 gh.1.2 1 s10.1.length,hS QY 2 gh.2 1 s10.2.2.2.2.2.1.length]]⟩,bE QY gh.2 1 4 (s10.2.2.2.2.2.1.map cB)]) qD λs10 gh ws10 h n14=>?_;obtain ⟨⟨b13,u12⟩,u15⟩:=gh;refine go h λ_ h=>?_;refine jH ?_;refine jN Z h (λq16 h=>?_) λq16 h=>?_
 ·refine go h λ_ h=>?_;refine gs h λ_ h=>?_;obtain ⟨Ks18,es18,ws18,h,ks18⟩:=tX h;refine T.join (S:=(List<|List QH)×(LI)×(LL)×(List QJ)×(List Bool)×Int) (G:=Nat) (λs18=>Ks18 s18=QZ ws10) (λs18 gh=>True) (λs18 gh=>[(9,I s18.2.2.2.2.2),(32,I s10.2.2.2.2.2.2),(31,I (v1.length:Int)),(30,eL QJ.c v1),(6,.hp 1 0 6 0 0)]) (λs18 gh=>[bE b13 u12 1 3 (s10.1.map cI),QZ ⟨0,6,140,[[eL (cL QH.c) s18.1,eL cI s18.2.1,eL (cL cI) s18.2.2.1,eL QJ.c s18.2.2.2.1,hS b13 0 u12 1 s10.1.length,hS QY 2 gh 1 s18.2.2.2.2.1.length]]⟩,bE QY gh 1 4 (s18.2.2.2.2.1.map cB),QZ ⟨0,5,60,[(QJ.c<|J v1 s10.2.2.2.2.2.2)]⟩]) (λs18 u23 h hg=>?_) ?_
  ·clear ks18;subst es18;refine gk h λ_ _ h=>?_;obtain rfl:=QG h;exact ⟨((s10.1++[s18.2.2.2.2.2]),s18.1,s18.2.1,s18.2.2.1,s18.2.2.2.1,s18.2.2.2.2.1,(s10.2.2.2.2.2.2+V)),((QY,u12+1),u23),Z,nofun,QU⟩
  refine gi h (λ_ q19 h=>?_) λ_ q19 h=>?_
  ·refine go h λ_ h=>?_;refine jB h λv20 cv20 h=>?_;refine oW Z Z Z (fG.outAt (vO (⟨s10.2.1,(⟨s10.2.2.1,s10.2.2.2.1⟩:QI),s10.2.2.2.2.1,s10.1,s10.2.2.2.2.2.1⟩:aA) s10.2.2.2.2.2.2 0 u12 u15 b13 n14 cv20) [1,0,2] (by decide) (.cons Z (.rowL<|.cons (aO 9 _ Z)<|.cons (aO 9 _ Z)<|.cons (aO 9 _ Z)<|.cons (aO 9 _ Z)<|.cons (mQ Z)<|.cons (mQ Z) .nil)<|.bE Z qD<|.cons Z (RenK.bE' qD) .nil) (.cons (.hp Z)<|.cons (aO 9 _ Z) .nil) (G:=λv_=>[QZ ⟨0,6,140,[[eL (cL QH.c) v20.1.p,eL cI v20.1.x.From,eL (cL cI) v20.1.x.Order,eL QJ.c v20.1.events,hS b13 0 u12 1 s10.1.length,hS QY 2 u15 1 v20.1.busy.length]]⟩,bE b13 u12 1 3 (s10.1.map cI),bE QY u15 1 4 (v20.1.busy.map cB)]) (G':=λv_=>[bE b13 u12 1 3 (s10.1.map cI),QZ ⟨0,6,140,[[eL (cL QH.c) v20.1.p,eL cI v20.1.x.From,eL (cL cI) v20.1.x.Order,eL QJ.c v20.1.events,hS b13 0 u12 1 s10.1.length,hS QY 2 u15 1 v20.1.busy.length]]⟩,bE QY u15 1 4 (v20.1.busy.map cB),QZ ⟨0,5,60,[(QJ.c<|J v1 s10.2.2.2.2.2.2)]⟩]) 4 Z (λv_ => .some (.rowL<|.cons (aO 9 _ Z)<|.cons (aO 9 _ Z)<|.cons (aO 9 _ Z)<|.cons (aO 9 _ Z)<|.cons (mQ<|.inl Z)<|.cons (mQ<|.inl Z) .nil)<|.bE qD<|.some (RenK.bE' qD) .nil) qD (r:=.tup [I v20.2.1,Bo v20.2.2]) (aO 9 _ Z) qD) λu21=>?_;refine go h λ_ h=>?_;refine QT h (λ_ q22 h=>?_) λ_ q22 h=>?_
   ·refine go h λ_ h=>?_;obtain rfl:=QG h;replace h:=congrArg QZ (show _=_ from ks18);refine lX h λh=>?_;obtain rfl:=QG h;replace h:=congrArg QZ (show _=_ from ks3);exact gf h
   refine go h λ_ h=>?_;obtain rfl:=QG h;exact ⟨(v20.1.p,v20.1.x.From,v20.1.x.Order,v20.1.events,v20.1.busy,v20.2.1),u15,ks18,trivial,QU⟩
  refine go h λ_ h=>?_;obtain rfl:=QG h;exact ⟨(s10.2.1,s10.2.2.1,s10.2.2.2.1,s10.2.2.2.2.1,s10.2.2.2.2.2.1,(-1:Int)),u15,ks18,trivial,QU⟩
 refine jM<|lX h λh=>?_;obtain rfl:=QG h;exact ⟨(s10.1,s10.2.1,s10.2.2.1,s10.2.2.2.1,s10.2.2.2.2.1,s10.2.2.2.2.2.1),((b13,u12),u15),ks3,n14,QU⟩
theorem qW (i:Int) {q} (h:lq i=QZ q):ax Q4 269 [I i] (St q):=by
 refine pM func269 Z (by kernel_rfl) Z<|go h λ_ h=>?_;refine QT h (λ_ q1 h=>?_) λ_ q1 h=>?_
 ·exact gz h
 exact gz h
theorem nY (i:Int) (base:Int) {q} (h:iK i base=QZ q):ax Q4 234 [I i,I base] (St q):=by
 refine pM func234 Z (by kernel_rfl) Z<|go h λ_ h=>?_;refine QT h (λ_ q1 h=>?_) λ_ q1 h=>?_
 ·refine gs h λ_ h=>?_;refine TO.jB h 3 (λs2=>[(17,Bo s2),(0,I i)]) (λs2=>[]) (λs2 q3 h js2=>?_) (λs2 q3 h js2=>?_) λs2 h=>?_
  ·exact gj h js2
  ·exact gj h js2
  refine gi h (λ_ q4 h=>?_) λ_ q4 h=>?_
  ·refine go h λ_ h=>?_;refine oC h (λ_=>qW _) Z Z Z Z λv5 _ h=>?_;exact gz h
  cases h
 cases h
theorem sH (i:Int) {q} (h:lQ i=QZ q):ax Q4 168 [I i] (St q):=by
 refine pM func168 Z (by kernel_rfl) Z<|go h λ_ h=>?_;refine oC h (λ_=>nY _ _) Z Z Z Z λv1 _ h=>?_;exact gz h
theorem uN (i:Int) {q} (h:cE i=QZ q):ax Q4 100 [I i] (St q):=by
 refine pM func100 Z (by kernel_rfl) Z<|go h λ_ h=>?_;refine oC h (λ_=>sH _) Z Z Z Z λv1 _ h=>?_;exact gz h
theorem yE (r_:LI) (start:Int) {q} (h:kH r_ start=QZ q):ax Q4 170 [eL cI r_,I start] (nE cI q):=by
 refine pM func170 Z (by kernel_rfl) Z<|go h λ_ h=>?_;obtain ⟨Ks1,es1,ws1,h,ks1⟩:=tX h;refine T.join (S:=Unit) (G:=Unit) (λs1=>Ks1 s1=QZ q) (λs1 gh=>True) (λs1 gh=>[]) (λs1 gh=>[]) (λs1 gh h hg=>?_) ?_
 ·clear ks1;subst es1;refine go h λ_ h=>?_;obtain rfl:=QG h
  repeat (first|refine jh ?_|refine ji ?_)
  exact jQ (vs:=[.nil]) (.cons (.tmp Z) .nil) .nil
 refine gk h λ_ _ h=>?_;refine oA (EvA.mkO (c:=(cL cI)) ([([start]:LI)]:LL) [[eL cI ([start]:LI)]] wY Z Z Z qD Z Z)<|go h λ_ h=>?_;refine tT h 0 (λs5 gh=>[(6,hS QY 0 gh 1 s5.1.length),(5,I s5.2),(0,eL cI r_),(1,I start)]) (λs5 gh=>[bE QY gh 1 24 (s5.1.map<|cL cI)]) λs5 u7 ws5 h=>?_;refine QT h (λ_ q8 h=>?_) λ_ q8 h=>?_
 ·refine go h λ_ h=>?_;obtain ⟨Ks9,es9,ws9,h,ks9⟩:=tX h;refine T.join (S:=(LL)×Int) (G:=Nat) (λs9=>Ks9 s9=QZ ws5) (λs9 gh=>True) (λs9 gh=>[(6,hS QY 0 gh 1 s9.1.length),(5,I s9.2),(0,eL cI r_),(1,I start)]) (λs9 gh=>[bE QY gh 1 24 (s9.1.map<|cL cI)]) (λs9 u37 h hg=>?_) ?_
  ·clear ks9;subst es9;refine go h λ_ h=>?_;refine jD h λg38 h=>oA (EvA.cutO (l:=s9.1) (zl:=V) (zh:=(s9.1.length:Int)) (QE.slhs Tryz.underlying25 El (l:=V) (h:=(s9.1.length:Int)) Z (.yes Z) .no g38) Z Z g38)<|go h λ_ h=>?_;obtain rfl:=QG h;exact ⟨(((s9.1.drop V.toNat).take<|(s9.1.length:Int).toNat-V.toNat),s9.2),u37+1,Z,trivial,QU⟩
  refine go h λ_ h=>?_;refine gs h λ_ h=>?_;refine oC h (λ_=>dV _ _ _) Z Z Z Z λv13 _ h=>?_;refine gi h (λ_ q14 h=>?_) λ_ q14 h=>?_
  ·refine go h λ_ h=>?_;refine jD h λgE h=>?_;obtain rfl:=QG h;replace h:=congrArg QZ (show _=_ from ks9);refine lX h λh=>?_;obtain rfl:=QG h;replace h:=congrArg QZ (show _=_ from ks1);obtain rfl:=QG h
   repeat (first|refine jh ?_|refine ji ?_)
   exact jQ (vs:=[eL cI (s5.1.getD (U.toNat) QW)]) (.cons (.tmp Z) .nil)<|(PU gE).symm ▸ (qC Z)
  refine go h λ_ h=>?_;refine tT h u7 (λs18 gh=>[(34,I s18.2.1),(33,I (r_.length:Int)),(8,I<|J (s5.1.getD (U.toNat) QW)<|((s5.1.getD (U.toNat) QW).length:Int)-V),(7,eL cI<|s5.1.getD (U.toNat) QW),(6,hS QY 0 gh 1 s18.1.length),(5,I s18.2.2),(0,eL cI r_),(1,I start)]) (λs18 gh=>[bE QY gh 1 24 (s18.1.map<|cL cI)]) λs18 u20 ws18 h=>?_;refine go h λ_ h=>?_;refine jH ?_;refine jN Z h (λq21 h=>?_) λq21 h=>?_
  ·refine go h λ_ h=>?_;refine tJ h (λs22 gh=>[(6,hS QY 0 gh 1 s22.1.length),(5,I s22.2),(34,I s18.2.1),(33,I (r_.length:Int)),(8,I<|J (s5.1.getD (U.toNat) QW)<|((s5.1.getD (U.toNat) QW).length:Int)-V),(7,eL cI<|s5.1.getD (U.toNat) QW),(0,eL cI r_),(1,I start)]) (λs22 gh=>[bE QY gh 1 24 (s22.1.map<|cL cI)]) (λs22 u35 h=>?_) λs22 h=>?_
   ·refine go h λ_ h=>?_;obtain rfl:=QG h;exact ⟨(s22.1,(s18.2.1+V),s22.2),u35,Z,trivial,QU⟩
   refine go h λ_ h=>?_;refine oC h (λ_=>dV _ _ _) Z Z Z Z λv23 _ h=>(go h λ_ h=>?_);refine TO.jB h 6 (λs24=>[(47,Bo s24),(9,I s18.2.1),(34,I s18.2.1),(33,I (r_.length:Int)),(8,I<|J (s5.1.getD (U.toNat) QW)<|((s5.1.getD (U.toNat) QW).length:Int)-V),(7,eL cI<|s5.1.getD (U.toNat) QW),(6,hS QY 0 u20 1 s18.1.length),(5,I s18.2.2),(0,eL cI r_),(1,I start)]) (λs24=>[bE QY u20 1 24 (s18.1.map<|cL cI)]) (λs24 q25 h js24=>?_) (λs24 q25 h js24=>?_) λs24 h=>?_
   ·exact gj h js24
   ·exact gj h js24
   refine gi h (λ_ q27 h=>?_) λ_ q27 h=>?_
   ·refine go h λ_ h=>?_;refine jB h λv29 cv29 h=>?_;refine oG Z Z Z ((fw (s5.1.getD (U.toNat) QW) cv29).own Z (CJ qD) GN 1 Z) λg30 v31 n32=>?_;refine gk h λ_ _ h=>?_;refine oA (EvA.mkR [[hS QY 1 (v31+1) 1 ((v29++[s18.2.1]).length)]] wY Z Z Z Z)<|jL h λg34 h=>oA (EvA.appR (g:=false) (rows:=s18.1.map<|cL cI) (rows':=s18.1.map (cL cI)++[[hS QY 1 (v31+1) 1 ((v29++[s18.2.1]).length)]]) (n':=s18.1.length+1) wY (by kernel_rfl) Z Z (by simp) nofun (bh.raw (rows:=[[hS QY 1 (v31+1) 1 ((v29++[s18.2.1]).length)]]) Z Z Z) g34 Z Z) ?_;refine go h λ_ h=>?_;obtain rfl:=QG h;exact ⟨u20+1,trivial,n9 Z (.cons (.snoc qD<|.cons (.cons (.fz<|Fz.own (g:=false) (ver:=v31+1) (l:=(v29++[s18.2.1])) Z Z Z nofun qD) .nil) .nil) .nil)<|aj (.eqv (congrArg (hS QY 0 (u20+1) 1) (by simp:(s18.1.length+1)=(s18.1++[(v29++[s18.2.1])]).length))<|.hS (g:=false) (b:=0) (ver:=u20+1) (s:=1) (n:=(s18.1++[(v29++[s18.2.1])]).length) Z)<|aj (.fz<|qC Z)<|aj (.fz<|qC Z)<|aj (.fz<|qC Z)<|aj (.fz<|qC Z)<|aj (.fz<|qC Z)<|aj (.fz<|qC Z)<|aj (.fz<|qC Z) aF⟩
   refine go h λ_ h=>?_
   cases h
   exact ⟨u20,trivial,QU⟩
  refine jM<|lX h λh=>?_;obtain rfl:=QG h;exact ⟨(s18.1,s18.2.2),u20,ks9,trivial,QU⟩
 refine jM<|lX h λh=>?_
 cases h
 exact ⟨(),(),ks1,trivial,n9 Z .nil aF⟩
theorem yF (r_:LI) {q} (h:kI r_=QZ q):ax Q4 101 [eL cI r_] (eL cI q):=by
 refine pM func101 Z (by kernel_rfl) Z<|go h λ_ h=>?_;refine gs h λ_ h=>?_;refine oC h (λ_=>cu _) Z Z Z Z λv1 _ h=>?_;refine gi h (λ_ q2 h=>?_) λ_ q2 h=>?_
 ·refine go h λ_ h=>?_;obtain rfl:=QG h
  repeat (first|refine jh ?_|refine ji ?_)
  exact jQ (vs:=[.nil]) (.cons (.tmp Z) .nil) .nil0
 refine go h λ_ h=>?_;refine T.jU h (λs3=>[(3,nE cI s3)]) (λs3=>[]) (λs3 h=>?_) λs3 h=>?_
 ·refine go h λ_ h=>?_;obtain rfl:=QG h
  repeat (first|refine jh ?_|refine ji ?_)
  exact jQ (vs:=[nE cI s3]) (.cons (.tmp Z) .nil)<|Fz.eqv (.of_isF 9 _<|O8 s3)<|O9 s3
 refine go h λ_ h=>?_;refine tU h (λs6=>[(11,I s6.1),(10,I (r_.length:Int)),(3,nE cI s6.2),(0,eL cI r_)]) (λs6=>[]) λs6 ws6 h=>?_;refine go h λ_ h=>?_;refine jH ?_;refine jN Z h (λq8 h=>?_) λq8 h=>?_
 ·refine go h λ_ h=>?_;refine T.jU h (λs9=>[(3,nE cI s9),(11,I s6.1),(10,I (r_.length:Int)),(0,eL cI r_)]) (λs9=>[]) (λs9 h=>?_) λs9 h=>?_
  ·refine go h λ_ h=>?_;exact lE h QU
  refine go h λ_ h=>?_;refine oC h (λ_=>yE _ _) Z Z Z Z λv10 _ h=>(go h λ_ h=>?_);refine oN (QE.nilNe Tryz.underlying24 Z Z)<|go h λ_ h=>?_;refine TO.jB h 10 (λs11=>[(29,Bo s11),(5,nE cI v10),(11,I s6.1),(10,I (r_.length:Int)),(3,nE cI s6.2),(0,eL cI r_)]) (λs11=>[]) (λs11 q12 h js11=>?_) (λs11 q12 h js11=>?_) λs11 h=>?_
  ·refine go h λ_ h=>?_;refine gN Z q12 (QE.nilEq Tryz.underlying24 Z Z)<|go h λ_ h=>?_;refine TO.jB h 6 (λs13=>[(28,Bo s13),(22,Bo s6.2.isEmpty),(21,Bo s6.2.isEmpty),(20,nE cI s6.2),(19,Bo<|!v10.isEmpty),(5,nE cI v10),(11,I s6.1),(10,I (r_.length:Int)),(3,nE cI s6.2),(0,eL cI r_)]) (λs13=>[]) (λs13 q14 h js13=>?_) (λs13 q14 h js13=>?_) λs13 h=>?_
   ·refine go h λ_ h=>?_;refine gN Z q12 (QE.pickT Z q14 (Bo QX) Z) ?_
    cases h
    exact js13 _ _ QU
   ·refine go h λ_ h=>?_;refine gN Z q14 (QE.lenE je Z)<|go h λ_ h=>?_;refine gN Z q14 (QE.lenE je Z)<|go h λ_ h=>?_;refine gN Z q12 (QE.pickF Z q14 (Bo<|Q3<|(v10.length:Int)<(s6.2.length:Int)) Z) ?_
    cases h
    exact js13 _ _ QU
   exact gj h js11
  ·exact gj h js11
  refine gi h (λ_ q15 h=>?_) λ_ q15 h=>?_
  ·refine go h λ_ h=>?_
   cases h
   exact ⟨(),trivial,QU⟩
  refine go h λ_ h=>?_
  cases h
  exact ⟨(),trivial,QU⟩
 refine jM<|lX h λh=>?_
 cases h
 exact ⟨(),trivial,QU⟩
theorem yG (x:QH) {q} (h:ib x=QZ q):ax Q4 171 [.agg (QH.c x)] (St q):=by
 refine pM func171 Z (by kernel_rfl) Z<|jI<|oN (QE.bxF [I x.Op,I x.Loc,I x.Reg,I x.Val] Z Z Z)<|oN as'<|jA<|jH<|jP (λ_=>([],QY)) (by kernel_rfl) (by kernel_rfl)<|fN Z (fa Nt Z)<|fN Z (lf (I x.Loc) QS Z)<|fN Z (fa Nt Z)<|fN Z (lf (I x.Loc) QS Z)<|jW h λg1 h=>fN Z (QE.add Z Z g1)<|jD h λg2 h=>fN Z (QE.slst Tryz.underlying9 Z (.yes Z) (.yes Z) g2)<|fN Z (fa Nt Z) ?_;refine fN Z (lf (I x.Reg) QS Z)<|fN Z (fa Nt Z)<|fN Z (lf (I x.Reg) QS Z)<|jW h λg3 h=>fN Z (QE.add Z Z g3)<|jD h λg4 h=>fN Z (QE.slst Tryz.underlying9 Z (.yes Z) (.yes Z) g4)<|fN Z (fa Nt Z)<|fN Z (lf (I x.Val) QS Z)<|fN Z (fa Nt Z)<|fN Z (lf (I x.Val) QS Z)<|jW h λg5 h=>fN Z (QE.add Z Z g5)<|jD h λg6 h=>fN Z (QE.slst Tryz.underlying9 Z (.yes Z) (.yes Z) g6)<|fN Z as' ?_;refine fN Z as'<|fN Z as'<|jR<|jH<|jH<|T.clean (H0:=[]) (e0:=ai [(5,St<|(⟨#[48,49,50,51,52,53,54,55,56,57]⟩:BA).extract x.Val.toNat (x.Val+V).toNat),(4,St<|(⟨#[97,98,99]⟩:BA).extract x.Reg.toNat (x.Reg+V).toNat),(3,St<|(⟨#[120,121,122]⟩:BA).extract x.Loc.toNat (x.Loc+V).toNat),(1,.fp (QH.c x) 0)]) Z (QD Z<|QD Z<|QD Z<|QD Z wkN)<|jC<|oN (fa Nt Z)<|oN (lf (I x.Op) QS Z)<|jA<|jE<|jI<|oN (QE.ieq Z Z)<|oN as'<|jA ?_;refine jN Z h (λq7 h=>?_) λq7 h=>?_
 ·refine jI<|oN mv<|jD h λg8 h=>oN (QE.cat Z Z g8)<|oN mv<|jD h λg9 h=>oN (QE.cat Z Z g9)<|oN as'<|jA<|jK ?_
  cases h
  exact vq Z Z Z
 refine jI<|oN (QE.ieq Z Z)<|oN as'<|jA ?_;refine jN Z h (λq10 h=>?_) λq10 h=>?_
 ·refine jI<|oN mv<|jD h λg11 h=>oN (QE.cat Z Z g11)<|oN mv<|jD h λg12 h=>oN (QE.cat Z Z g12)<|oN as'<|jA<|jK ?_
  cases h
  exact vq Z Z Z
 refine jI<|oN (QE.ieq Z Z)<|oN as'<|jA ?_;refine jN Z h (λq13 h=>?_) λq13 h=>?_
 ·refine jI<|oN mv<|jD h λg14 h=>oN (QE.cat Z Z g14)<|oN mv<|jD h λg15 h=>oN (QE.cat Z Z g15)<|oN as'<|jA<|jK ?_
  cases h
  exact vq Z Z Z
 refine jI<|oN (QE.ieq Z Z)<|oN as'<|jA ?_;refine jN Z h (λq16 h=>?_) λq16 h=>?_
 ·refine jI<|oN mv<|jD h λg17 h=>oN (QE.cat Z Z g17)<|oN mv<|jD h λg18 h=>oN (QE.cat Z Z g18)<|jD h λg19 h=>oN (QE.cat Z Z g19)<|oN mv<|jD h λg20 h=>oN (QE.cat Z Z g20)<|oN as'<|jA<|jK ?_
  cases h
  exact vq Z Z Z
 refine jG<|jI<|oN as'<|jA<|jK ?_
 cases h
 exact vq Z Z Z
theorem yH (p:List<|List QH) (e_:QJ) {q} (h:dP p e_=QZ q):ax Q4 102 [eL (cL QH.c) p,.agg (QJ.c e_)] (St q):=by
 refine pM func102 Z (by kernel_rfl) Z<|go h λ_ h=>?_;refine eF Z Z Z<|go h λ_ h=>?_;refine QT h (λ_ q1 h=>?_) λ_ q1 h=>?_
 ·exact gz h
 refine go h λ_ h=>?_;refine jH<|T.drawP (by kernel_rfl) (by kernel_rfl) ?_;refine go h λ_ h=>?_;refine fC h (λ_=>uN _) Z Z Z Z Z λv5 _ h=>(go h λ_ h=>?_);refine fC h (λ_=>yG _) Z Z Z Z Z λv9 _ h=>?_;exact gz h
theorem Az (p:List<|List QH) (x:QI) (m:List ah) {q} (h:bC p x m=QZ q):ax Q4 45 [eL (cL QH.c) p,.agg (QI.c x),eL ah.c m] (St q):=by
 refine pM func45 Z (by kernel_rfl) Z<|go h λ_ h=>?_;refine eF Z Z Z<|go h λ_ h=>?_;refine gs h λ_ h=>?_;refine oC h (λ_=>tG _ _) Z Z Z Z λv1 _ h=>?_;refine gi h (λ_ q2 h=>?_) λ_ q2 h=>?_
 ·exact gz h
 refine go h λ_ h=>?_;refine oC h (λ_=>qO _ _ _) Z Z Z Z λv3 _ h=>(go h λ_ h=>?_);refine QT h (λ_ q4 h=>?_) λ_ q4 h=>?_
 ·exact gz h
 refine go h λ_ h=>?_;refine oC h (λ_=>uN _) Z Z Z Z λv5 _ h=>(go h λ_ h=>?_);refine QT h (λ_ q8 h=>?_) λ_ q8 h=>?_
 ·exact gz h
 refine go h λ_ h=>?_;refine oC h (λ_=>mh _) Z Z Z Z λv9 _ h=>(gq h λ_ h=>?_);refine jH<|T.reserve ?_;refine go h λ_ h=>?_;refine T.jF (G:=(Bool×Nat)) h (λs10 gh=>(gh.1=QX->s10=[])) (λs10 gh=>[(13,hS gh.1 0 gh.2 1 s10.length),(11,St<|(⟨#[114,117,108,101,32]⟩:BA)++v5)]) (λs10 gh=>[bE gh.1 gh.2 1 9 (s10.map cS)]) (λs10 gh h n30=>?_) λs10 h=>?_
 ·obtain ⟨b29,u28⟩:=gh;refine go h λ_ h=>?_;refine jB h λv32 cv32 h=>oA (EvA.callT Z Z (Am s10 (⟨#[44,32]⟩:BA) cv32) (.cons (Fz.own (g:=b29) (ver:=u28) (l:=s10) Z Z Z n30 qD)<|.cons (qC Z) .nil) Z) ?_;exact gz h
 refine go h λ_ h=>?_;refine oC h (λ_=>yF _) Z Z Z Z λv11 _ h=>(go h λ_ h=>?_);refine tL h (QX,0) (λs17 gh=>(gh.1=QX->s17.1=[])) (λs17 gh=>[(48,I s17.2),(47,I (v11.length:Int)),(46,eL cI v11),(13,hS gh.1 0 gh.2 1 s17.1.length),(12,eL QJ.c v9),(11,St<|(⟨#[114,117,108,101,32]⟩:BA)++v5),(0,eL (cL QH.c) p)]) (λs17 gh=>[bE gh.1 gh.2 1 9 (s17.1.map cS)]) qD λs17 gh ws17 h n21=>?_;obtain ⟨b20,u19⟩:=gh;refine go h λ_ h=>?_;refine jH ?_;refine jN Z h (λq22 h=>?_) λq22 h=>?_
 ·refine go h λ_ h=>?_;refine gs h λ_ h=>?_;refine oC h (λ_=>yH _ _) Z Z Z Z λv25 _ h=>(gk h λ_ _ h=>?_);obtain rfl:=QG h;exact ⟨((s17.1++[v25]),(s17.2+V)),(QY,u19+1),Z,nofun,QU⟩
 refine jM<|lX h λh=>?_
 cases h
 exact ⟨(b20,u19),n21,QU⟩
theorem wL (p:List<|List QH) (x:QI) (m:List ah) {q} (h:aN p x m=QZ q):ax Q4 16 [eL (cL QH.c) p,.agg (QI.c x),eL ah.c m] (St q):=by
 refine pM func16 Z (by kernel_rfl) Z<|go h λ_ h=>?_;refine eF Z Z Z<|go h λ_ h=>?_;refine gs h λ_ h=>?_;refine oC h (λ_=>mo _ _) Z Z Z Z λv1 _ h=>(go h λ_ h=>?_);refine TO.jB h 4 (λs2=>[(15,Bo s2),(4,.fp (QI.c x) 0),(0,eL (cL QH.c) p),(2,eL ah.c m)]) (λs2=>[]) (λs2 q3 h js2=>?_) (λs2 q3 h js2=>?_) λs2 h=>?_
 ·exact gj h js2
 ·refine go h λ_ h=>?_;refine jB h λv4 cv4 h=>gN Z q3 (QE.call Z Z Z (qM m cv4) Z) ?_;exact gj h js2
 refine gi h (λ_ q5 h=>?_) λ_ q5 h=>?_
 ·exact gz h
 refine go h λ_ h=>?_;refine oC h (λ_=>Az _ _ _) Z Z Z Z λv6 _ h=>?_;exact gz h
theorem vP (op:Int) {q} (h:eD op=QZ q):ax Q4 239 [I op] (I q):=by
 refine pM func239 Z (by kernel_rfl) Z<|go h λ_ h=>?_;refine QT h (λ_ q1 h=>?_) λ_ q1 h=>?_
 ·exact gz h
 refine T.jU h (λs2=>[(6,Bo s2),(3,I op)]) (λs2=>[]) (λs2 h=>?_) λs2 h=>?_
 ·refine jN Z h (λq6 h=>?_) λq6 h=>?_
  ·exact gz h
  refine T.jU h (λs7=>[(11,Bo s7)]) (λs7=>[]) (λs7 h=>?_) λs7 h=>?_
  ·refine jN Z h (λq9 h=>?_) λq9 h=>?_
   ·exact gz h
   exact gz h
  refine gi h (λ_ q8 h=>?_) λ_ q8 h=>?_
  ·refine go h λ_ h=>?_
   cases h
   exact ⟨(),trivial,QU⟩
  refine go h λ_ h=>?_
  cases h
  exact ⟨(),trivial,QU⟩
 refine gi h (λ_ q3 h=>?_) λ_ q3 h=>?_
 ·refine go h λ_ h=>?_
  cases h
  exact ⟨(),trivial,QU⟩
 refine gi h (λ_ q4 h=>?_) λ_ q4 h=>?_
 ·refine go h λ_ h=>?_
  cases h
  exact ⟨(),trivial,QU⟩
 refine gi h (λ_ q5 h=>?_) λ_ q5 h=>?_
 ·refine go h λ_ h=>?_
  cases h
  exact ⟨(),trivial,QU⟩
 refine go h λ_ h=>?_
 cases h
 exact ⟨(),trivial,QU⟩
theorem uO {q} (h:dm=QZ q):ax Q4 233 [] (eL cS q):=by
 refine ax.mkT func233 Z (by kernel_rfl) Z (by kernel_rfl) (e0:=ai []) wkN<|jI ?_;refine go h λ_ h=>?_;refine oN (QE.mkF (c:=cS) ([(⟨#[112,111]⟩:BA),(⟨#[108,111,99]⟩:BA),(⟨#[101,120,116]⟩:BA),(⟨#[114,102]⟩:BA),(⟨#[99,111]⟩:BA),(⟨#[102,114]⟩:BA),(⟨#[102,101,110,99,101]⟩:BA),(⟨#[119,114]⟩:BA),(⟨#[119,119]⟩:BA),(⟨#[105,100]⟩:BA)]:List BA) [[St (⟨#[112,111]⟩:BA)],[St (⟨#[108,111,99]⟩:BA)],[St (⟨#[101,120,116]⟩:BA)],[St (⟨#[114,102]⟩:BA)],[St (⟨#[99,111]⟩:BA)],[St (⟨#[102,114]⟩:BA)],[St (⟨#[102,101,110,99,101]⟩:BA)],[St (⟨#[119,114]⟩:BA)],[St (⟨#[119,119]⟩:BA)],[St (⟨#[105,100]⟩:BA)]] Bu Z Z Z qD qD Z) ?_;exact gz h
theorem AA (s:BA) {q} (h:fo s=QZ q):ax Q4 240 [St s] (Bo q):=by
 refine pM func240 Z (by kernel_rfl) Z<|go h λ_ h=>?_;refine oC h (λ_=>uO) Z Z Z Z λv1 _ h=>(go h λ_ h=>?_);obtain ⟨Ks2,es2,ws2,h,ks2⟩:=tX h;refine T.join (S:=Unit) (G:=Unit) (λs2=>Ks2 s2=QZ q) (λs2 gh=>True) (λs2 gh=>[]) (λs2 gh=>[]) (λs2 gh h hg=>?_) ?_
 ·clear ks2;subst es2;exact gz h
 refine go h λ_ h=>?_;refine tU h (λs5=>[(4,I s5),(3,eL cS v1),(0,St s)]) (λs5=>[]) λs5 ws5 h=>?_;refine QT h (λ_ q7 h=>?_) λ_ q7 h=>?_
 ·refine go h λ_ h=>?_;refine QT h (λ_ q9 h=>?_) λ_ q9 h=>?_
  ·refine go h λ_ h=>?_;refine lX h λh=>?_;obtain rfl:=QG h;replace h:=congrArg QZ (show _=_ from ks2);exact gz h
  refine go h λ_ h=>?_;exact lE h QU
 refine jM<|lX h λh=>?_
 cases h
 exact ⟨(),(),ks2,trivial,QU⟩
theorem zK:∀ (nf:Nat) (e_:aa) (depth:Int) {q} (h:cT nf e_ depth=QZ q),ax Q4 176 [.agg (aa.c e_),I depth] (Bo q):=by
 intro nf
 induction nf with
 | zero=>intros;rename_i h;cases h
 | succ nf ih=>
  intro e_ depth q h;replace h:dQ (cT nf) e_ depth=QZ q:=h;refine pM func176 Z (by kernel_rfl) Z<|go h λ_ h=>?_;refine eF Z Z Z<|go h λ_ h=>?_;obtain ⟨Ks1,es1,ws1,h,ks1⟩:=tX h;refine T.join (S:=Unit) (G:=Unit) (λs1=>Ks1 s1=QZ q) (λs1 gh=>True) (λs1 gh=>[(2,.fp (aa.c e_) 0),(1,I depth)]) (λs1 gh=>[]) (λs1 gh h hg=>?_) ?_
  ·clear ks1;subst es1;obtain ⟨Ks10,es10,ws10,h,ks10⟩:=tX h;refine T.join (S:=Unit) (G:=Unit) (λs10=>Ks10 s10=QZ q) (λs10 gh=>True) (λs10 gh=>[]) (λs10 gh=>[]) (λs10 gh h hg=>?_) ?_
   ·clear ks10;subst es10;exact gz h
   refine go h λ_ h=>?_;refine tU h (λs13=>[(5,I s13),(2,.fp (aa.c e_) 0),(1,I depth)]) (λs13=>[]) λs13 ws13 h=>?_;refine QT h (λ_ q15 h=>?_) λ_ q15 h=>?_
   ·refine go h λ_ h=>?_;refine gs h λ_ h=>?_;refine jD h λg16 h=>oN (QE.res (QE.ixL ut Z Z g16 ZTE.len) (r' := .fp (aa.c (J e_.Kids s13).out) 0) λ_ _ hr=>rM (ZTE.out_c _) hr)<|go h λ_ h=>?_;refine oC h (λ_=>ih _ _) Z Z Z Z λv18 _ h=>?_;refine gi h (λ_ q19 h=>?_) λ_ q19 h=>?_
    ·refine go h λ_ h=>?_;refine lX h λh=>?_;obtain rfl:=QG h;replace h:=congrArg QZ (show _=_ from ks10);exact gz h
    refine go h λ_ h=>?_;exact lE h QU
   refine jM<|lX h λh=>?_
   cases h
   exact ⟨(),(),ks10,trivial,QU⟩
  refine T.jU h (λs2=>[(35,Bo s2),(2,.fp (aa.c e_) 0),(1,I depth)]) (λs2=>[]) (λs2 h=>?_) λs2 h=>?_
  ·refine jN Z h (λq9 h=>?_) λq9 h=>?_
   ·refine go h λ_ h=>?_;obtain rfl:=QG h;replace h:=congrArg QZ (show _=_ from ks1);exact gz h
   refine go h λ_ h=>?_
   cases h
   exact ⟨(),(),ks1,trivial,QU⟩
  refine T.drawG (λ_=>([],QY)) (by kernel_rfl) (by kernel_rfl)<|go h λ_ h=>?_;rcases yh h with ⟨q3,h⟩ | ⟨q3,h⟩
  ·refine gp h λ_ h=>?_;refine gp h λ_ h=>?_;refine gp h λ_ h=>?_;refine go h λ_ h=>?_
   cases h
   exact ⟨(),trivial,QU⟩
  refine go h λ_ h=>?_;refine jB h λv4 cv4 h=>tgN Z q3 Z (QE.call Z Z Z (vP e_.Op cv4) Z)<|gp h λ_ h=>?_;refine go h λ_ h=>?_;rcases yh h with ⟨q5,h⟩ | ⟨q5,h⟩
  ·refine gp h λ_ h=>?_;refine gp h λ_ h=>?_;refine go h λ_ h=>?_
   cases h
   exact ⟨(),trivial,QU⟩
  refine go h λ_ h=>?_;refine jB h λv6 cv6 h=>tgN Z q5 Z (QE.call Z Z Z (AA e_.Name cv6) Z)<|tgN Z q5 Z (QE.bne bt4 Z Z) ?_;refine gp h λ_ h=>?_;refine go h λ_ h=>?_;rcases yh h with ⟨q7,h⟩ | ⟨q7,h⟩
  ·refine gp h λ_ h=>?_;refine go h λ_ h=>?_
   cases h
   exact ⟨(),trivial,QU⟩
  refine go h λ_ h=>?_;rcases yh h with ⟨q8,h⟩ | ⟨q8,h⟩
  ·refine go h λ_ h=>?_;refine tgN Z q7 Z (QE.pickT Z q8 (Bo<|!decide (e_.Name=(⟨#[]⟩:BA))) Z)<|gp h λ_ h=>?_;refine go h λ_ h=>?_
   cases h
   exact ⟨(),trivial,QU⟩
  refine go h λ_ h=>?_;refine tgN Z q7 Z (QE.pickF Z q8 (Bo QY) Z)<|gp h λ_ h=>?_;refine go h λ_ h=>?_
  cases h
  exact ⟨(),trivial,QU⟩
theorem AB (e_:aa) (depth:Int) {q} (h:rQ e_ depth=QZ q):ax Q4 176 [.agg (aa.c e_),I depth] (Bo q):=by
 obtain ⟨nf,h⟩:=lG h;exact zK nf e_ depth h
theorem zL:∀ (nf:Nat) (e_:aa) (most:Int) {q} (h:cV nf e_ most=QZ q),ax Q4 177 [.agg (aa.c e_),I most] (I q):=by
 intro nf
 induction nf with
 | zero=>intros;rename_i h;cases h
 | succ nf ih=>
  intro e_ most q h;replace h:dR (cV nf) e_ most=QZ q:=h;refine pM func177 Z (by kernel_rfl) Z<|go h λ_ h=>?_;refine eF Z Z Z<|go h λ_ h=>?_;refine T.jU h (λs1=>[(5,I s1)]) (λs1=>[]) (λs1 h=>?_) λs1 h=>?_
  ·exact gz h
  refine go h λ_ h=>?_;refine tU h (λs4=>[(6,I s4.1),(5,I s4.2),(2,.fp (aa.c e_) 0),(1,I most)]) (λs4=>[]) λs4 ws4 h=>?_;refine gs h λ_ h=>?_;refine TO.jB h 4 (λs6=>[(16,Bo s6),(6,I s4.1),(5,I s4.2),(2,.fp (aa.c e_) 0),(1,I most)]) (λs6=>[]) (λs6 q7 h js6=>?_) (λs6 q7 h js6=>?_) λs6 h=>?_
  ·exact gj h js6
  ·exact gj h js6
  refine gi h (λ_ q8 h=>?_) λ_ q8 h=>?_
  ·refine go h λ_ h=>?_;refine gs h λ_ h=>?_;refine jD h λg9 h=>oN (QE.res (QE.ixL ut Z Z g9 ZTE.len) (r' := .fp (aa.c (J e_.Kids s4.1).out) 0) λ_ _ hr=>rM (ZTE.out_c _) hr)<|go h λ_ h=>?_;refine oC h (λ_=>ih _ _) Z Z Z Z λv11 _ h=>(go h λ_ h=>?_);exact lE h QU
  refine jM<|lX h λh=>?_
  cases h
  exact ⟨(),trivial,QU⟩
theorem AC (e_:aa) (most:Int) {q} (h:rR e_ most=QZ q):ax Q4 177 [.agg (aa.c e_),I most] (I q):=by
 obtain ⟨nf,h⟩:=lG h;exact zL nf e_ most h
theorem nZ (e_:aa) {q} (h:bJ e_=QZ q):ax Q4 105 [.agg (aa.c e_)] (Bo q):=by
 refine pM func105 Z (by kernel_rfl) Z<|go h λ_ h=>?_;refine eF Z Z Z<|go h λ_ h=>?_;refine oC h (λ_=>AB _ _) Z Z Z Z λv1 _ h=>(go h λ_ h=>?_);refine TO.jB h 4 (λs2=>[(9,Bo s2)]) (λs2=>[]) (λs2 q3 h js2=>?_) (λs2 q3 h js2=>?_) λs2 h=>?_
 ·refine go h λ_ h=>?_;refine jB h λv4 cv4 h=>gN Z q3 (QE.call Z Z Z (AC e_ (40:Int) cv4) Z) ?_;exact gj h js2
 ·exact gj h js2
 exact gz h
theorem qP (m:List ah) {q} (h:cg m=QZ q):ax Q4 47 [eL ah.c m] (Bo q):=by
 refine pM func47 Z (by kernel_rfl) Z<|go h λ_ h=>?_;obtain ⟨Ks1,es1,ws1,h,ks1⟩:=tX h;refine T.join (S:=Unit) (G:=Unit) (λs1=>Ks1 s1=QZ q) (λs1 gh=>True) (λs1 gh=>[(0,eL ah.c m)]) (λs1 gh=>[]) (λs1 gh h hg=>?_) ?_
 ·clear ks1;subst es1;refine go h λ_ h=>?_;refine TO.jB h 4 (λs17=>[(44,Bo s17)]) (λs17=>[]) (λs17 q18 h js17=>?_) (λs17 q18 h js17=>?_) λs17 h=>?_
  ·exact gj h js17
  ·exact gj h js17
  exact gz h
 refine go h λ_ h=>?_;refine tU h (λs4=>[(3,I s4),(0,eL ah.c m)]) (λs4=>[]) λs4 ws4 h=>?_;refine gs h λ_ h=>?_;refine TO.jB h 3 (λs6=>[(11,Bo s6),(3,I s4),(0,eL ah.c m)]) (λs6=>[]) (λs6 q7 h js6=>?_) (λs6 q7 h js6=>?_) λs6 h=>?_
 ·exact gj h js6
 ·exact gj h js6
 refine gi h (λ_ q8 h=>?_) λ_ q8 h=>?_
 ·refine go h λ_ h=>?_;refine gs h λf h=>?_;obtain ⟨g9,_⟩:=f;refine TO.jB h 7 (λs10=>[(27,Bo s10),(3,I s4),(0,eL ah.c m)]) (λs10=>[]) (λs10 q11 h js10=>?_) (λs10 q11 h js10=>?_) λs10 h=>?_
  ·exact gj h js10
  ·exact gj h js10
  refine go h λ_ h=>?_;refine TO.jB h 8 (λs12=>[(36,Bo s12),(3,I s4),(0,eL ah.c m)]) (λs12=>[]) (λs12 q13 h js12=>?_) (λs12 q13 h js12=>?_) λs12 h=>?_
  ·exact gj h js12
  ·refine go h λ_ h=>?_;refine jB h λv14 cv14 h=>gN Z q13 (QE.call Z Z Z (nZ ((J m s4).Expr) cv14) Z) ?_;exact gj h js12
  refine gi h (λ_ q15 h=>?_) λ_ q15 h=>?_
  ·refine go h λ_ h=>?_;refine lX h λh=>?_;obtain rfl:=QG h;replace h:=congrArg QZ (show _=_ from ks1);exact gz h
  refine go h λ_ h=>?_;exact lE h QU
 refine jM<|lX h λh=>?_
 cases h
 exact ⟨(),(),ks1,trivial,QU⟩
theorem CQ (p:List<|List QH) (events:List QJ) (t:Int) (index:Int) (reg:Int) {q} (h:ru p events t index reg=QZ q):ax Q4 241 [eL (cL QH.c) p,eL QJ.c events,I t,I index,I reg] (I q):=by
 refine pM func241 Z (by kernel_rfl) Z<|go h λ_ h=>?_;refine T.jU h (λs1=>[(11,I s1)]) (λs1=>[]) (λs1 h=>?_) λs1 h=>?_
 ·exact gz h
 refine go h λ_ h=>?_;refine tU h (λs4=>[(12,I s4.1),(11,I s4.2),(0,eL (cL QH.c) p),(1,eL QJ.c events),(2,I t),(3,I index),(4,I reg)]) (λs4=>[]) λs4 ws4 h=>?_;refine QT h (λ_ q6 h=>?_) λ_ q6 h=>?_
 ·refine go h λ_ h=>?_;refine T.jU h (λs7=>[(11,I s7),(12,I s4.1),(0,eL (cL QH.c) p),(1,eL QJ.c events),(2,I t),(3,I index),(4,I reg)]) (λs7=>[]) (λs7 h=>?_) λs7 h=>?_
  ·refine go h λ_ h=>?_;exact lE h QU
  refine go h λ_ h=>?_;refine T.jU h (λs9=>[(50,Bo s9),(12,I s4.1),(11,I s4.2),(0,eL (cL QH.c) p),(1,eL QJ.c events),(2,I t),(3,I index),(4,I reg)]) (λs9=>[QZ ⟨0,5,60,[(QJ.c<|J events s4.1)]⟩]) (λs9 h=>?_) λs9 h=>?_
  ·refine jN Z h (λq15 h=>?_) λq15 h=>?_
   ·refine go h λ_ h=>?_
    cases h
    exact ⟨(),trivial,QU⟩
   refine go h λ_ h=>?_
   cases h
   exact ⟨(),trivial,QU⟩
  refine T.drawG (dG [dF,([0],QY),dF,dF,dF,dF,([0],QY),dF,dF,dF,dF,dF,([0],QY),dF,dF,dF,dF,dF,dF,dF,([0],QY),dF,dF,dF,dF,dF,dF]) (by kernel_rfl) (by kernel_rfl)<|go h λ_ h=>?_;rcases yh h with ⟨q10,h⟩ | ⟨q10,h⟩
  ·refine go h λ_ h=>?_;refine tgR Z q10 [0] Z (λG hG=>EvA.loadhp (I<|(J events s4.1).Index) QS Z (hG.a0 Z) Z Z Z Z)<|gp h λ_ h=>?_;refine go h λ_ h=>?_;rcases yh h with ⟨q11,h⟩ | ⟨q11,h⟩
   ·refine go h λ_ h=>?_;refine tgR Z q11 [0] Z (λG hG=>EvA.loadhp (Bo<|(J events s4.1).Reads) ty4 Z (hG.a0 Z) Z Z Z Z)<|gp h λ_ h=>?_;refine go h λ_ h=>?_;rcases yh h with ⟨q12,h⟩ | ⟨q12,h⟩
    ·refine go h λ_ h=>?_;refine tgR Z q12 [0] Z (λG hG=>EvA.loadhp (I<|(J events s4.1).Index) QS Z (hG.a0 Z) Z Z Z Z)<|gp h λ_ h=>?_;refine go h λ_ h=>?_
     cases h
     exact ⟨(),trivial,QU⟩
    refine gp h λ_ h=>?_;refine go h λ_ h=>?_
    cases h
    exact ⟨(),trivial,QU⟩
   refine gp h λ_ h=>?_;refine gp h λ_ h=>?_;refine go h λ_ h=>?_
   cases h
   exact ⟨(),trivial,QU⟩
  refine gp h λ_ h=>?_;refine gp h λ_ h=>?_;refine gp h λ_ h=>?_;refine go h λ_ h=>?_
  cases h
  exact ⟨(),trivial,QU⟩
 refine jM<|lX h λh=>?_
 cases h
 exact ⟨(),trivial,QU⟩
theorem AJ (p:List<|List QH) (events:List QJ) (x:QI) (i:Int) (known:LI) {q} (h:nH p events x i known=QZ q):ax Q4 178 [eL (cL QH.c) p,eL QJ.c events,.agg (QI.c x),I i,eL cI known] (I q):=by
 refine pM func178 Z (by kernel_rfl) Z<|go h λ_ h=>?_;refine eF Z Z Z<|go h λ_ h=>?_;refine QT h (λ_ q2 h=>?_) λ_ q2 h=>?_
 ·exact gz h
 refine jG<|jH<|T.reserve<|jP (dG [dF,dF,([0],QY),dF,dF,dF,([0],QY),dF,dF,([1],QX),([1],QX)]) (by kernel_rfl) (by kernel_rfl) ?_;refine go h λ_ h=>?_;refine fW 1 [] Z Z (λG hG=>EvA.alR 1 PO Z Z<|hG.a0 Z)<|go h λ_ h=>?_;refine QT h (λ_ q5 h=>?_) λ_ q5 h=>?_
 ·exact gz h
 refine go h λ_ h=>?_;refine oC h (λ_=>CQ _ _ _ _ _) Z Z Z Z λv6 _ h=>(go h λ_ h=>?_);refine QT h (λ_ q7 h=>?_) λ_ q7 h=>?_
 ·exact gz h
 exact gz h
theorem zM (p:List<|List QH) (x:QI) {q} (h:iT p x=QZ q):ax Q4 106 [eL (cL QH.c) p,.agg (QI.c x)] (.tup [eL cI q.1,Bo q.2]):=by
 refine pM func106 Z (by kernel_rfl) Z<|go h λ_ h=>?_;refine eF Z Z Z<|go h λ_ h=>?_;refine oC h (λ_=>gD _) Z Z Z Z λv1 _ h=>(go h λ_ h=>?_);refine oA (EvA.mkO (c:=cI) ([]:LI) [] je Z Z Z qD Z Z)<|go h λ_ h=>?_;refine tJ h (λs2 gh=>[(7,hS QY 0 gh 1 s2.length),(6,eL QJ.c v1),(3,.fp (QI.c x) 0),(0,eL (cL QH.c) p)]) (λs2 gh=>[bE QY gh 1 3 (s2.map cI)]) (λs2 u12 h=>?_) λs2 h=>?_
 ·refine tJ h (λs13 gh=>[(7,hS QY 0 gh 1 s13.length),(6,eL QJ.c v1)]) (λs13 gh=>[bE QY gh 1 3 (s13.map cI)]) (λs13 u38 h=>?_) λs13 h=>?_
  ·obtain ⟨Ks39,es39,ws39,h,ks39⟩:=tX h;refine T.join (S:=Unit) (G:=Unit) (λs39=>Ks39 s39=QZ q) (λs39 gh=>True) (λs39 gh=>[(7,hS QY 0 u38 1 s13.length)]) (λs39 gh=>[bE QY u38 1 3 (s13.map cI)]) (λs39 gh h hg=>?_) ?_
   ·clear ks39;subst es39;exact gf h
   refine go h λ_ h=>?_;refine tU h (λs42=>[(11,I s42),(7,hS QY 0 u38 1 s13.length),(6,eL QJ.c v1)]) (λs42=>[bE QY u38 1 3 (s13.map cI)]) λs42 ws42 h=>?_;refine QT h (λ_ q44 h=>?_) λ_ q44 h=>?_
   ·refine go h λ_ h=>?_;refine gs h λ_ h=>?_;refine TO.jB h 6 (λs46=>[(67,Bo s46),(11,I s42),(7,hS QY 0 u38 1 s13.length),(6,eL QJ.c v1)]) (λs46=>[bE QY u38 1 3 (s13.map cI)]) (λs46 q47 h js46=>?_) (λs46 q47 h js46=>?_) λs46 h=>?_
    ·refine go h λf h=>?_;obtain ⟨g48,_⟩:=f;refine gA Z q47 (EvA.ldO (g:=false) (l:=s13) (I<|J s13 s42) QS Z Z nofun (bA Z g48) Z) ?_;exact gj h js46
    ·exact gj h js46
    refine gi h (λ_ q49 h=>?_) λ_ q49 h=>?_
    ·refine go h λ_ h=>?_;refine lX h λh=>?_;obtain rfl:=QG h;replace h:=congrArg QZ (show _=_ from ks39);exact gf h
    refine go h λ_ h=>?_;exact lE h QU
   refine jM<|lX h λh=>?_
   cases h
   exact ⟨(),(),ks39,trivial,QU⟩
  refine go h λ_ h=>?_;refine tT h u12 (λs17 gh=>[(9,I s17.2),(7,hS QY 0 gh 1 s17.1.length),(6,eL QJ.c v1),(3,.fp (QI.c x) 0),(0,eL (cL QH.c) p)]) (λs17 gh=>[bE QY gh 1 3 (s17.1.map cI)]) λs17 u19 ws17 h=>?_;refine QT h (λ_ q20 h=>?_) λ_ q20 h=>?_
  ·refine go h λ_ h=>?_;refine tJ h (λs21 gh=>[(9,I s17.2),(7,hS QY 0 gh 1 s21.length),(6,eL QJ.c v1),(3,.fp (QI.c x) 0),(0,eL (cL QH.c) p)]) (λs21 gh=>[bE QY gh 1 3 (s21.map cI)]) (λs21 u36 h=>?_) λs21 h=>?_
   ·refine go h λ_ h=>?_;obtain rfl:=QG h;exact ⟨(s21,(s17.2+V)),u36,Z,trivial,QU⟩
   refine go h λ_ h=>?_;refine tT h u19 (λs25 gh=>[(10,I s25.2),(9,I s17.2),(7,hS QY 0 gh 1 s25.1.length),(6,eL QJ.c v1),(3,.fp (QI.c x) 0),(0,eL (cL QH.c) p)]) (λs25 gh=>[bE QY gh 1 3 (s25.1.map cI)]) λs25 u27 ws25 h=>?_;refine QT h (λ_ q28 h=>?_) λ_ q28 h=>?_
   ·refine go h λ_ h=>?_;refine tJ h (λs29 gh=>[(10,I s25.2),(9,I s17.2),(7,hS QY 0 gh 1 s29.length),(6,eL QJ.c v1),(3,.fp (QI.c x) 0),(0,eL (cL QH.c) p)]) (λs29 gh=>[bE QY gh 1 3 (s29.map cI)]) (λs29 u34 h=>?_) λs29 h=>?_
    ·refine go h λ_ h=>?_;obtain rfl:=QG h;exact ⟨(s29,(s25.2+V)),u34,Z,trivial,QU⟩
    refine gi h (λ_ q31 h=>?_) λ_ q31 h=>?_
    ·refine go h λ_ h=>?_;refine jB h λv32 cv32 h=>oA (EvA.callT Z Z (AJ p v1 x s25.2 s25.1 cv32) (.cons (qC Z)<|.cons (qC Z)<|.cons (qC Z)<|.cons (qC Z)<|.cons (Fz.own (g:=false) (ver:=u27) (l:=s25.1) Z Z Z nofun qD) .nil) Z)<|go h λf h=>?_;obtain ⟨g33,_⟩:=f;refine oV (EvA.stO (g:=false) (l:=s25.1) (cs:=[I v32]) v32 QS Z Z Z nofun (bA Z g33) Z Z Z)<|go h λ_ h=>?_;obtain rfl:=QG h;exact ⟨u27,trivial,Iz Z<|QD Z<|QD Z<|QD (congrArg (hS QY 0 u27 1) (by simp:s25.1.length=(s25.1.set s25.2.toNat v32).length))<|QD Z<|QD Z<|QD Z wkN⟩
    refine go h λ_ h=>?_
    cases h
    exact ⟨u27,trivial,QU⟩
   refine jM<|lX h λh=>?_
   cases h
   exact ⟨u27,trivial,QU⟩
  refine jM<|lX h λh=>?_
  cases h
  exact ⟨u19,trivial,QU⟩
 refine go h λ_ h=>?_;refine tT h 0 (λs6 gh=>[(8,I s6.2),(7,hS QY 0 gh 1 s6.1.length),(6,eL QJ.c v1),(3,.fp (QI.c x) 0),(0,eL (cL QH.c) p)]) (λs6 gh=>[bE QY gh 1 3 (s6.1.map cI)]) λs6 u8 ws6 h=>?_;refine QT h (λ_ q9 h=>?_) λ_ q9 h=>?_
 ·refine go h λ_ h=>?_;refine gs h λ_ h=>?_;refine gk h λ_ _ h=>?_;obtain rfl:=QG h;exact ⟨((s6.1++[(-1:Int)]),(s6.2+V)),u8+1,Z,trivial,QU⟩
 refine jM<|lX h λh=>?_
 cases h
 exact ⟨u8,trivial,QU⟩
theorem yI (r_:LI) {q} (h:kJ r_=QZ q):ax Q4 182 [eL cI r_] (eL cI q):=by
 refine pM func182 Z (by kernel_rfl) Z<|go h λ_ h=>?_;refine jD h λg1 h=>oA (EvA.mkN (c:=cI) (QW:Int) je Z Z g1 Z Z Z)<|go h λ_ h=>?_;refine tJ h (λs2 gh=>[(3,hS QY 0 gh 1 s2.length)]) (λs2 gh=>[bE QY gh 1 3 (s2.map cI)]) (λs2 u27 h=>?_) λs2 h=>?_
 ·exact gf h
 refine go h λ_ h=>?_;refine tT h 0 (λs6 gh=>[(4,I s6.2),(3,hS QY 0 gh 1 s6.1.length),(0,eL cI r_)]) (λs6 gh=>[bE QY gh 1 3 (s6.1.map cI)]) λs6 u8 ws6 h=>?_;refine QT h (λ_ q9 h=>?_) λ_ q9 h=>?_
 ·refine go h λ_ h=>?_;refine tJ h (λs10 gh=>[(4,I s6.2),(3,hS QY 0 gh 1 s10.length),(0,eL cI r_)]) (λs10 gh=>[bE QY gh 1 3 (s10.map cI)]) (λs10 u25 h=>?_) λs10 h=>?_
  ·refine go h λ_ h=>?_;obtain rfl:=QG h;exact ⟨(s10,(s6.2+V)),u25,Z,trivial,QU⟩
  refine go h λ_ h=>?_;refine tT h u8 (λs14 gh=>[(5,I s14.2),(4,I s6.2),(3,hS QY 0 gh 1 s14.1.length),(0,eL cI r_)]) (λs14 gh=>[bE QY gh 1 3 (s14.1.map cI)]) λs14 u16 ws14 h=>?_;refine QT h (λ_ q17 h=>?_) λ_ q17 h=>?_
  ·refine go h λ_ h=>?_;refine tJ h (λs18 gh=>[(5,I s14.2),(4,I s6.2),(3,hS QY 0 gh 1 s18.length),(0,eL cI r_)]) (λs18 gh=>[bE QY gh 1 3 (s18.map cI)]) (λs18 u23 h=>?_) λs18 h=>?_
   ·refine go h λ_ h=>?_;obtain rfl:=QG h;exact ⟨(s18,(s14.2+V)),u23,Z,trivial,QU⟩
   refine go h λ_ h=>?_;refine oC h (λ_=>fB _ _ _) Z Z Z Z λv19 _ h=>?_;refine gi h (λ_ q20 h=>?_) λ_ q20 h=>?_
   ·refine jP (dG [dF,dF,dF,dF,dF,([0],QY),dF,dF,dF,dF,([0],QX)]) (by kernel_rfl) (by kernel_rfl)<|go h λf h=>?_;obtain ⟨_,g21,_⟩:=f;refine fV 0 [] Z Z (λG hG=>EvA.stO (g:=false) (l:=s14.1) (cs:=[I (bOr .i64 (J s14.1 s14.2)<|De .i64 V s6.2)]) (bOr .i64 (J s14.1 s14.2)<|De .i64 V s6.2) QS Z Z (hG.a0 Z) nofun (bA Z g21) Z Z Z)<|go h λ_ h=>?_;obtain rfl:=QG h;exact ⟨u16,trivial,Iz Z<|QD Z<|QD Z<|QD (congrArg (hS QY 0 u16 1) (by simp:s14.1.length=(s14.1.set s14.2.toNat<|bOr .i64 (J s14.1 s14.2)<|De .i64 (1:Int) s6.2).length))<|QD Z wkN⟩
   refine go h λ_ h=>?_
   cases h
   exact ⟨u16,trivial,QU⟩
  refine jM<|lX h λh=>?_
  cases h
  exact ⟨u16,trivial,QU⟩
 refine jM<|lX h λh=>?_
 cases h
 exact ⟨u8,trivial,QU⟩
end
end Go.Proofs.YtabfkkjdfhbngaaGreatDoor
