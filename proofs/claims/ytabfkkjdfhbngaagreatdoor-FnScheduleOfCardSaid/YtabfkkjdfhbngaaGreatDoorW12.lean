/- Texts joined. No conditions. -/
import Derived.Test.YtabfkkjdfhbngaaGreatDoorW11
namespace Go.Proofs.YtabfkkjdfhbngaaGreatDoor
noncomputable section
open _root_.Inhabited renaming default -> Rh
open _root_.Bool renaming true -> Ri
open _root_.Bool renaming false -> Rj
open _root_.Option renaming some -> Rk
open _root_.Option renaming none -> Rl
open _root_.Go.Proofs.Tryz
open _root_.Go.Proofs.Tryz renaming prog -> Rn
open _root_.List renaming replicate -> Xp, eq_nil_of_length_eq_zero -> Xq
set_option maxHeartbeats 4000000
open Go.RowKit
set_option maxRecDepth 100000
attribute [local irreducible] T TO TF TG TX QR EvA
theorem gD (x:QV) {q} (h:cm x=Rk q):ax Rn 80 [.agg (QV.c x)] (Bo q):=by
 refine pM func80 Z (by kernel_rfl) Z<|go h λ_ h=>?_;refine eF Z Z Z<|go h λ_ h=>?_;refine TO.jB h 4 (λs1=>[(10,Bo s1)]) (λs1=>[]) (λs1 q2 h js1=>?_) (λs1 q2 h js1=>?_) λs1 h=>?_
 ·exact gj h js1
 ·exact gj h js1
 exact gz h
theorem bW (x:QV) {q} (h:bg x=Rk q):ax Rn 81 [.agg (QV.c x)] (Bo q):=by
 refine pM func81 Z (by kernel_rfl) Z<|go h λ_ h=>?_;refine eF Z Z Z<|go h λ_ h=>?_;refine TO.jB h 4 (λs1=>[(10,Bo s1),(1,.fp (QV.c x) 0)]) (λs1=>[]) (λs1 q2 h js1=>?_) (λs1 q2 h js1=>?_) λs1 h=>?_
 ·exact gj h js1
 ·exact gj h js1
 refine go h λ_ h=>?_;refine TO.jB h 4 (λs3=>[(15,Bo s3)]) (λs3=>[]) (λs3 q4 h js3=>?_) (λs3 q4 h js3=>?_) λs3 h=>?_
 ·exact gj h js3
 ·exact gj h js3
 exact gz h
theorem rf (p:List<|List QV) {q} (h:kx p=Rk q):ax Rn 30 [eL (cL QV.c) p] (eL QX.c q):=by
 refine pM func30 Z (by kernel_rfl) Z<|jI ?_;refine gq h λ_ h=>?_;refine jH<|T.reserve ?_;refine go h λ_ h=>?_;refine T.jF (G:=(Bool×Nat)) h (λs1 gh=>(gh.1=Ri->s1=[])) (λs1 gh=>[(3,hS gh.1 0 gh.2 5 s1.length),(0,eL (cL QV.c) p)]) (λs1 gh=>[bE gh.1 gh.2 5 60 (s1.map QX.c)]) (λs1 gh h n17=>?_) λs1 h=>?_
 ·obtain ⟨b16,u15⟩:=gh;refine T.jF (G:=(Bool×Nat)) h (λs18 gh=>(gh.1=Ri->s18=[])) (λs18 gh=>[(3,hS gh.1 0 gh.2 5 s18.length)]) (λs18 gh=>[bE gh.1 gh.2 5 60 (s18.map QX.c)]) (λs18 gh h n59=>?_) λs18 h=>?_
  ·obtain ⟨b58,u57⟩:=gh;exact gf h
  refine go h λ_ h=>?_;refine tL h (b16,u15) (λs24 gh=>(gh.1=Ri->s24.1=[])) (λs24 gh=>[(21,I s24.2),(20,I (p.length:Int)),(19,eL (cL QV.c) p),(3,hS gh.1 0 gh.2 5 s24.1.length)]) (λs24 gh=>[bE gh.1 gh.2 5 60 (s24.1.map QX.c)]) n17 λs24 gh ws24 h n28=>?_;obtain ⟨b27,u26⟩:=gh;refine go h λ_ h=>?_;refine jH ?_;refine jN Z h (λq29 h=>?_) λq29 h=>?_
  ·refine go h λ_ h=>?_;refine T.jF (G:=(Bool×Nat)) h (λs30 gh=>(gh.1=Ri->s30=[])) (λs30 gh=>[(21,I s24.2),(20,I (p.length:Int)),(19,eL (cL QV.c) p),(3,hS gh.1 0 gh.2 5 s30.length)]) (λs30 gh=>[bE gh.1 gh.2 5 60 (s30.map QX.c)]) (λs30 gh h n55=>?_) λs30 h=>?_
   ·obtain ⟨b54,u53⟩:=gh;refine go h λ_ h=>?_;obtain rfl:=QU h;exact ⟨(s30,(s24.2+V)),(b54,u53),Z,n55,Re⟩
   refine go h λ_ h=>?_;refine tL h (b27,u26) (λs37 gh=>(gh.1=Ri->s37.1=[])) (λs37 gh=>[(28,I s37.2),(27,I ((J p s24.2).length:Int)),(26,eL QV.c<|J p s24.2),(5,I s24.2),(21,I s24.2),(20,I (p.length:Int)),(19,eL (cL QV.c) p),(3,hS gh.1 0 gh.2 5 s37.1.length)]) (λs37 gh=>[bE gh.1 gh.2 5 60 (s37.1.map QX.c)]) n28 λs37 gh ws37 h n41=>?_;obtain ⟨b40,u39⟩:=gh;refine go h λ_ h=>?_;refine jH ?_;refine jN Z h (λq42 h=>?_) λq42 h=>?_
   ·refine go h λ_ h=>?_;refine T.jF (G:=(Bool×Nat)) h (λs43 gh=>(gh.1=Ri->s43=[])) (λs43 gh=>[(3,hS gh.1 0 gh.2 5 s43.length),(28,I s37.2),(27,I ((J p s24.2).length:Int)),(26,eL QV.c<|J p s24.2),(5,I s24.2),(21,I s24.2),(20,I (p.length:Int)),(19,eL (cL QV.c) p)]) (λs43 gh=>[bE gh.1 gh.2 5 60 (s43.map QX.c)]) (λs43 gh h n51=>?_) λs43 h=>?_
    ·obtain ⟨b50,u49⟩:=gh;refine go h λ_ h=>?_;obtain rfl:=QU h;exact ⟨(s43,(s37.2+V)),(b50,u49),Z,n51,Re⟩
    refine gi h (λ_ q45 h=>?_) λ_ q45 h=>?_
    ·refine jP (dG [dF,dF,dF,dF,([1],Rj),([1],Rj),dF,([1],Rj),dF,dF,dF,([0],Ri),dF]) (by kernel_rfl) (by kernel_rfl)<|go h λ_ h=>?_;refine fC h (λ_=>gD _) Z Z Z Z Z λv46 _ h=>(go h λ_ h=>?_);refine fC h (λ_=>bW _) Z Z Z Z Z λv47 _ h=>(go h λ_ h=>?_);refine fN Z (QR.mkF (c:=QX.c) ([(⟨s24.2,s37.2,(J (J p s24.2) s37.2).Loc,v46,v47⟩:QX)]:List QX) [[I s24.2,I s37.2,I ((J (J p s24.2) s37.2).Loc),Bo v46,Bo v47]] Md Z Z Z qD QX.isF Z)<|jL h λg48 h=>fW 0 [] Z Z (λG hG=>EvA.app1 (g:=b40) (l:=s37.1) (⟨s24.2,s37.2,(J (J p s24.2) s37.2).Loc,v46,v47⟩:QX) Md (by kernel_rfl) Z Z (hG.a0 Z) n41 (bL.fz (l:=([(⟨s24.2,s37.2,(J (J p s24.2) s37.2).Loc,v46,v47⟩:QX)]:List QX)) Z qD) g48) ?_;refine go h λ_ h=>?_
     cases h
     exact ⟨(Rj,u39+1),nofun,Re⟩
    refine go h λ_ h=>?_
    cases h
    exact ⟨(b40,u39),n41,Re⟩
   refine jM<|lX h λh=>?_
   cases h
   exact ⟨(b40,u39),n41,Re⟩
  refine jM<|lX h λh=>?_
  cases h
  exact ⟨(b27,u26),n28,Re⟩
 refine go h λ_ h=>?_;refine tL h (Ri,0) (λs7 gh=>(gh.1=Ri->s7.1=[])) (λs7 gh=>[(9,I s7.2),(3,hS gh.1 0 gh.2 5 s7.1.length),(0,eL (cL QV.c) p)]) (λs7 gh=>[bE gh.1 gh.2 5 60 (s7.1.map QX.c)]) qD λs7 gh ws7 h n11=>?_;obtain ⟨b10,u9⟩:=gh;refine go h λ_ h=>?_;refine jH ?_;refine jN Z h (λq12 h=>?_) λq12 h=>?_
 ·refine go h λ_ h=>?_;refine gs h λ_ h=>?_;refine oN (QR.mkF (c:=QX.c) ([(⟨(-1:Int),s7.2,s7.2,Rj,Ri⟩:QX)]:List QX) [[I (-1:Int),I s7.2,I s7.2,Bo Rj,Bo Ri]] Md Z Z Z qD QX.isF Z)<|go h λ_ h=>?_;obtain rfl:=QU h;exact ⟨((s7.1++[(⟨(-1:Int),s7.2,s7.2,Rj,Ri⟩:QX)]),(s7.2+V)),(Rj,u9+1),Z,nofun,Re⟩
 refine jM<|lX h λh=>?_
 cases h
 exact ⟨(b10,u9),n11,Re⟩
theorem rU (list:List QX) (loc:Int) {q} (h:iL list loc=Rk q):ax Rn 32 [eL QX.c list,I loc] (eL cI q):=by
 refine pM func32 Z (by kernel_rfl) Z<|jI ?_;refine gq h λ_ h=>?_;refine jH<|T.reserve ?_;refine go h λ_ h=>?_;refine T.jF (G:=(Bool×Nat)) h (λs1 gh=>(gh.1=Ri->s1=[])) (λs1 gh=>[(5,hS gh.1 0 gh.2 1 s1.length)]) (λs1 gh=>[bE gh.1 gh.2 1 3 (s1.map cI)]) (λs1 gh h n25=>?_) λs1 h=>?_
 ·obtain ⟨b24,u23⟩:=gh;exact gf h
 refine go h λ_ h=>?_;refine tL h (Ri,0) (λs7 gh=>(gh.1=Ri->s7.1=[])) (λs7 gh=>[(10,I s7.2),(9,I (list.length:Int)),(8,eL QX.c list),(5,hS gh.1 0 gh.2 1 s7.1.length),(1,I loc)]) (λs7 gh=>[bE gh.1 gh.2 1 3 (s7.1.map cI)]) qD λs7 gh ws7 h n11=>?_;obtain ⟨b10,u9⟩:=gh;refine go h λ_ h=>?_;refine jH ?_;refine jN Z h (λq12 h=>?_) λq12 h=>?_
 ·refine go h λ_ h=>?_;refine T.jF (G:=(Bool×Nat)) h (λs13 gh=>(gh.1=Ri->s13=[])) (λs13 gh=>[(5,hS gh.1 0 gh.2 1 s13.length),(10,I s7.2),(9,I (list.length:Int)),(8,eL QX.c list),(1,I loc)]) (λs13 gh=>[bE gh.1 gh.2 1 3 (s13.map cI)]) (λs13 gh h n21=>?_) λs13 h=>?_
  ·obtain ⟨b20,u19⟩:=gh;refine go h λ_ h=>?_;obtain rfl:=QU h;exact ⟨(s13,(s7.2+V)),(b20,u19),Z,n21,Re⟩
  refine go h λ_ h=>?_;refine TO.jB h 5 (λs15=>[(22,Bo s15),(6,I s7.2),(10,I s7.2),(9,I (list.length:Int)),(8,eL QX.c list),(5,hS b10 0 u9 1 s7.1.length),(1,I loc)]) (λs15=>[bE b10 u9 1 3 (s7.1.map cI),Rk ⟨0,5,60,[(QX.c<|J list s7.2)]⟩]) (λs15 q16 h js15=>?_) (λs15 q16 h js15=>?_) λs15 h=>?_
  ·refine go h λ_ h=>?_;refine gA Z q16 (lh (I<|(J list s7.2).Loc) Ra Z Z Z) ?_;exact gj h js15
  ·exact gj h js15
  refine gi h (λ_ q17 h=>?_) λ_ q17 h=>?_
  ·refine gk h λ_ _ h=>?_
   cases h
   exact ⟨(Rj,u9+1),nofun,Re⟩
  refine go h λ_ h=>?_
  cases h
  exact ⟨(b10,u9),n11,Re⟩
 refine jM<|lX h λh=>?_
 cases h
 exact ⟨(b10,u9),n11,Re⟩
theorem gY (s:LI) (v:Int) {q} (h:bv s v=Rk q):ax Rn 82 [eL cI s,I v] (I q):=by
 refine pM func82 Z (by kernel_rfl) Z<|go h λ_ h=>?_;obtain ⟨Ks1,es1,ws1,h,ks1⟩:=sumL h;refine T.join (S:=Unit) (G:=Unit) (λs1=>Ks1 s1=Rk q) (λs1 gh=>True) (λs1 gh=>[]) (λs1 gh=>[]) (λs1 gh h hg=>?_) ?_
 ·clear ks1;subst es1;exact gz h
 refine go h λ_ h=>?_;refine tU h (λs4=>[(8,I s4),(7,I (s.length:Int)),(0,eL cI s),(1,I v)]) (λs4=>[]) λs4 ws4 h=>?_;refine go h λ_ h=>?_;refine jH ?_;refine jN Z h (λq6 h=>?_) λq6 h=>?_
 ·refine go h λ_ h=>?_;refine Rb h (λ_ q8 h=>?_) λ_ q8 h=>?_
  ·refine go h λ_ h=>?_;refine lX h λh=>?_;obtain rfl:=QU h;replace h:=congrArg Rk (show _=_ from ks1);exact gz h
  refine go h λ_ h=>?_;exact lE h Re
 refine jM<|lX h λh=>?_
 cases h
 exact ⟨(),(),ks1,trivial,Re⟩
theorem kr (s:LI) (v:Int) {q} (h:bN s v=Rk q):ax Rn 31 [eL cI s,I v] (Bo q):=by
 refine pM func31 Z (by kernel_rfl) Z<|go h λ_ h=>?_;refine oC h (λ_=>gY _ _) Z Z Z Z λv1 _ h=>?_;exact gz h
theorem kY (s:LI) {q} (h:cV s=Rk q):dN Rn 33 [eL cI s] [] (Oi 1 3 (λx=>x) q.length (q.map cI) 0 []):=by
 refine dN.mkO func33 Z (by kernel_rfl) Z (by kernel_rfl) (e0:=ai [(0,eL cI s)]) (QQ Z QP) BH (BG qD)<|go h λ_ h=>?_;refine gs h λ_ h=>?_;refine QA Rj Tryz.underlying24 Z Z (λz1=>?_) ?_
 ·replace h:=(Je h).1 (by rw [z1];rfl);refine go h λ_ h=>?_;refine T.cond Z (λ_=>?_) λq=>absurd (q.symm.trans Z) (by decide);refine go h λ_ h=>?_;obtain rfl:=QU h
  repeat (first|refine n9 ?_|refine og ?_)
  exact jQ (vs:=[.nil]) (.cons (.tmp Z) .nil) ⟨0,Ri,0,λ_=>Z,Z,nofun⟩
 replace h:=(Je h).2;refine go h λ_ h=>?_;refine T.cond Z (λq=>absurd (q.symm.trans Z)<|by decide) λ_=>?_;refine go h λ_ h=>?_;refine oA (EvA.mkO (c:=cI) ([]:LI) [] iI Z Z Z qD Z Z)<|go h λ_ h=>?_;obtain rfl:=QU h
 repeat (first|refine n9 ?_|refine og ?_)
 exact jQ (vs:=[hS Rj 0 (0+1) 1 ((([]:LI)++s).length)]) (.cons (.tmp Z) .nil) ⟨0,Rj,0+1,nofun,Z,ownB Z⟩
theorem gZ (s1_:LI) (s2_:LI) {q} (h:bM s1_ s2_=Rk q):ax Rn 35 [eL cI s1_,eL cI s2_] (Bo q):=by
 refine pM func35 Z (by kernel_rfl) Z<|go h λ_ h=>?_;refine Rb h (λ_ q1 h=>?_) λ_ q1 h=>?_
 ·exact gz h
 refine go h λ_ h=>?_;obtain ⟨Ks2,es2,ws2,h,ks2⟩:=sumL h;refine T.join (S:=Unit) (G:=Unit) (λs2=>Ks2 s2=Rk q) (λs2 gh=>True) (λs2 gh=>[]) (λs2 gh=>[]) (λs2 gh h hg=>?_) ?_
 ·clear ks2;subst es2;exact gz h
 refine go h λ_ h=>?_;refine tU h (λs5=>[(13,I s5),(12,I (s1_.length:Int)),(0,eL cI s1_),(1,eL cI s2_)]) (λs5=>[]) λs5 ws5 h=>?_;refine go h λ_ h=>?_;refine jH ?_;refine jN Z h (λq7 h=>?_) λq7 h=>?_
 ·refine go h λ_ h=>?_;refine gs h λ_ h=>?_;refine jH<|T.drawP (by kernel_rfl) (by kernel_rfl) ?_;refine gi h (λ_ q10 h=>?_) λ_ q10 h=>?_
  ·refine go h λ_ h=>?_;refine lX h λh=>?_;obtain rfl:=QU h;replace h:=congrArg Rk (show _=_ from ks2);exact gz h
  refine go h λ_ h=>?_;exact lE h Re
 refine jM<|lX h λh=>?_
 cases h
 exact ⟨(),(),ks2,trivial,Re⟩
theorem m6 (p:List<|List QV) (x:QW) {q} (h:bQ p x=Rk q):ax Rn 10 [eL (cL QV.c) p,.agg (QW.c x)] (Bo q):=by
 refine pM func10 Z (by kernel_rfl) Z<|go h λ_ h=>?_;refine eF Z Z Z<|go h λ_ h=>?_;refine gs h λ_ h=>?_;refine oC h (λ_=>oH _) Z Z Z Z λv1 _ h=>?_;refine gi h (λ_ q2 h=>?_) λ_ q2 h=>?_
 ·exact gz h
 refine go h λ_ h=>?_;refine oC h (λ_=>rf _) Z Z Z Z λv3 _ h=>(go h λ_ h=>?_);refine gs h λ_ h=>?_;refine TO.jB h 5 (λs4=>[(28,Bo s4),(5,eL QX.c v3),(3,.fp (QW.c x) 0)]) (λs4=>[]) (λs4 q5 h js4=>?_) (λs4 q5 h js4=>?_) λs4 h=>?_
 ·exact gj h js4
 ·exact gj h js4
 refine gi h (λ_ q6 h=>?_) λ_ q6 h=>?_
 ·exact gz h
 refine go h λ_ h=>?_;obtain ⟨Ks7,es7,ws7,h,ks7⟩:=sumL h;refine T.join (S:=Unit) (G:=Unit) (λs7=>Ks7 s7=Rk q) (λs7 gh=>True) (λs7 gh=>[(5,eL QX.c v3),(3,.fp (QW.c x) 0)]) (λs7 gh=>[]) (λs7 gh h hg=>?_) ?_
 ·clear ks7;subst es7;obtain ⟨Ks27,es27,ws27,h,ks27⟩:=sumL h;refine T.join (S:=Unit) (G:=Unit) (λs27=>Ks27 s27=Rk q) (λs27 gh=>True) (λs27 gh=>[]) (λs27 gh=>[]) (λs27 gh h hg=>?_) ?_
  ·clear ks27;subst es27;exact gz h
  refine go h λ_ h=>?_;refine tU h (λs30=>[(70,I s30),(69,I (x.Order.length:Int)),(68,eL (cL cI) x.Order),(5,eL QX.c v3)]) (λs30=>[]) λs30 ws30 h=>?_;refine go h λ_ h=>?_;refine jH ?_;refine jN Z h (λq32 h=>?_) λq32 h=>?_
  ·refine go h λ_ h=>?_;refine gs h λ_ h=>?_;refine jB h λv34 cv34 h=>?_;refine oG Z Z Z ((kY (J x.Order s30) cv34).own Z (BG qD) BH 0 Z) λg35 v36 n37=>?_;refine go h λ_ h=>?_;refine jB h λv38 cv38 h=>oA (EvA.call Z Z Z<|(Cm v34 g35 v36 (λx=>Xq<|n37 x) cv38).oneE Z (.cons (dz Z) .nil) (BG qD) (BG qD) Z)<|go h λ_ h=>?_;refine oC h (λ_=>rU _ _) Z Z Z Z λv39 _ h=>jB h λv40 cv40 h=>oA (EvA.callT Z Z (gZ v38 v39 cv40) (.cons (Fz.own (g:=g35) (ver:=v36) (l:=v38) Z Z (zm cv38).symm (λx=>zk ((λx=>Xq<|n37 x) x) cv38) qD)<|.cons (qC Z) .nil) Z)<|go h λ_ h=>?_;refine TO.jB h 6 (λs41=>[(91,Bo s41),(70,I s30),(69,I (x.Order.length:Int)),(68,eL (cL cI) x.Order),(5,eL QX.c v3)]) (λs41=>[bE g35 v36 1 3 (v38.map cI)]) (λs41 q42 h js41=>?_) (λs41 q42 h js41=>?_) λs41 h=>?_
   ·exact gj h js41
   ·exact gj h js41
   refine gi h (λ_ q44 h=>?_) λ_ q44 h=>?_
   ·refine go h λ_ h=>?_;refine lX h λh=>?_;obtain rfl:=QU h;replace h:=congrArg Rk (show _=_ from ks27);exact gz h
   refine go h λ_ h=>?_;exact lE h Re
  refine jM<|lX h λh=>?_
  cases h
  exact ⟨(),(),ks27,trivial,Re⟩
 refine go h λ_ h=>?_;refine tU h (λs10=>[(31,I s10),(30,I (v3.length:Int)),(29,eL QX.c v3),(5,eL QX.c v3),(3,.fp (QW.c x) 0)]) (λs10=>[]) λs10 ws10 h=>?_;refine go h λ_ h=>?_;refine jH ?_;refine jN Z h (λq12 h=>?_) λq12 h=>?_
 ·refine go h λ_ h=>?_;refine gs h λ_ h=>?_;refine TO.jB h 3 (λs15=>[(47,Bo s15),(8,I<|J x.From s10),(6,I s10),(7,.hp 0 0 5 0 0),(31,I s10),(30,I (v3.length:Int)),(29,eL QX.c v3),(5,eL QX.c v3),(3,.fp (QW.c x) 0)]) (λs15=>[Rk ⟨0,5,60,[(QX.c<|J v3 s10)]⟩]) (λs15 q16 h js15=>?_) (λs15 q16 h js15=>?_) λs15 h=>?_
  ·exact gj h js15
  ·exact gj h js15
  refine go h λ_ h=>?_;refine TO.jB h 17 (λs17=>[(65,Bo s17),(31,I s10),(30,I (v3.length:Int)),(29,eL QX.c v3),(5,eL QX.c v3),(3,.fp (QW.c x) 0)]) (λs17=>[Rk ⟨0,5,60,[(QX.c<|J v3 s10)]⟩]) (λs17 q18 h js17=>?_) (λs17 q18 h js17=>?_) λs17 h=>?_
  ·exact gj h js17
  ·refine go h λ_ h=>?_;refine gA Z q18 (lh (Bo<|(J v3 s10).Reads) ty4 Z Z Z)<|go h λ_ h=>?_;refine TO.jB h 13 (λs19=>[(64,Bo s19),(51,Bo<|(J v3 s10).Reads),(50,Bo<|(J v3 s10).Reads),(49,.hp 0 0 5 0 3),(48,Bo s15),(31,I s10),(30,I (v3.length:Int)),(29,eL QX.c v3),(5,eL QX.c v3),(3,.fp (QW.c x) 0)]) (λs19=>[Rk ⟨0,5,60,[(QX.c<|J v3 s10)]⟩]) (λs19 q20 h js19=>?_) (λs19 q20 h js19=>?_) λs19 h=>?_
   ·refine go h λ_ h=>?_;refine TO.jB h 8 (λs21=>[(63,Bo s21),(55,Bo<|(J x.From s10)==s10),(54,Bo<|(J x.From s10)==s10),(53,I s10),(52,I<|J x.From s10),(51,Bo<|(J v3 s10).Reads),(50,Bo<|(J v3 s10).Reads),(49,.hp 0 0 5 0 3),(48,Bo s15),(31,I s10),(30,I (v3.length:Int)),(29,eL QX.c v3),(5,eL QX.c v3),(3,.fp (QW.c x) 0)]) (λs21=>[Rk ⟨0,5,60,[(QX.c<|J v3 s10)]⟩]) (λs21 q22 h js21=>?_) (λs21 q22 h js21=>?_) λs21 h=>?_
    ·refine go h λ_ h=>?_;refine gN Z q20 (QR.pickT Z q22 (Bo Ri) Z) ?_
     cases h
     exact js21 _ _ Re
    ·refine go h λ_ h=>?_;refine gA Z q22 (lh (I<|(J v3 s10).Loc) Ra Z Z Z)<|jB h λv23 cv23 h=>gN Z q22 (QR.call Z Z Z (rU v3 ((J v3 s10).Loc) cv23) Z) ?_;refine go h λ_ h=>?_;refine jB h λv24 cv24 h=>gN Z q22 (QR.call Z Z Z (kr v23 (J x.From s10) cv24) Z)<|go h λ_ h=>?_;refine gN Z q20 (QR.pickF Z q22 (Bo<|!v24) Z) ?_
     cases h
     exact js21 _ _ Re
    refine gN Z q18 (QR.pickT Z q20 (Bo s21) Z) ?_
    cases h
    exact js19 _ _ Re
   ·refine go h λ_ h=>?_;refine gN Z q18 (QR.pickF Z q20 (Bo Rj) Z) ?_
    cases h
    exact js19 _ _ Re
   exact gj h js17
  refine gi h (λ_ q25 h=>?_) λ_ q25 h=>?_
  ·refine go h λ_ h=>?_;refine lX h λh=>?_;obtain rfl:=QU h;replace h:=congrArg Rk (show _=_ from ks7);exact gz h
  refine go h λ_ h=>?_;exact lE h Re
 refine jM<|lX h λh=>?_
 cases h
 exact ⟨(),(),ks7,trivial,Re⟩
theorem uO (p:List<|List QV) {q} (h:kS p=Rk q):ax Rn 66 [eL (cL QV.c) p] (eL (cL cI) q):=by
 refine pM func66 Z (by kernel_rfl) Z<|go h λ_ h=>?_;refine jD h λg1 h=>oA (EvA.mkZ xg Z Z g1 Z Z)<|TO.reserveN (p.length:Int).toNat<|TO.clean (H0:=(bE Rj 0 1 24 (QT 1 (λi=>(Ri,i,0)) 1<|Xp (p.length:Int).toNat ([]:LI))::(Xp (p.length:Int).toNat Rl))) (e0:=ai [(11,hS Rj 0 0 1<|(p.length:Int).toNat),(0,eL (cL QV.c) p)]) (congrArg (λr=>[bE Rj 0 1 24 r]++Xp (p.length:Int).toNat Rl) (M8 (α:=Int) 1 1 (p.length:Int).toNat).symm) (QQ Z<|QQ Z QP)<|oN (QR.asg (hS Rj 0 0 1<|(p.length:Int).toNat) Z)<|jA<|jI<|oN as'<|jA ?_;refine T.jF (G:=(NG×AH×Nat)) h (λs2 gh=>NN gh.2.1 gh.1 1 3 cI s2) (λs2 gh=>[(3,hS Rj 0 gh.2.2 1 s2.length)]) (λs2 gh=>(bE Rj gh.2.2 1 24 (QT 1 gh.1 1 s2)::gh.2.1)) (λs2 gh h hN70=>?_) λs2 h=>?_
 ·obtain ⟨y68,kk69,u67⟩:=gh;refine go h λ_ h=>?_;obtain rfl:=QU h
  repeat (first|refine n9 ?_|refine og ?_)
  exact jQ (vs:=[hS Rj 0 u67 1 s2.length]) (.cons (.tmp Z) .nil)<|NN.fz hN70 (S:=[bE Rj u67 1 24 (QT 1 y68 1 s2)]) (ver:=u67) Z Z qD
 refine go h λ_ h=>?_;refine jO (S:=(LL)×Int×Int) (G:=(NG×AH×Nat)) (mb p) (λs13 gh=>NN gh.2.1 gh.1 1 3 cI s13.1) (λs13 gh=>[(14,I s13.2.1),(13,I (p.length:Int)),(12,eL (cL QV.c) p),(4,I s13.2.2),(3,hS Rj 0 gh.2.2 1 s13.1.length)]) (λs13 gh=>(bE Rj gh.2.2 1 24 (QT 1 gh.1 1 s13.1)::gh.2.1)) (s0:=((Xp (p.length:Int).toNat ([]:LI)),(0:Int),(3:Int))) ((λi=>(Ri,i,0)),(Xp (p.length:Int).toNat Rl),0) h (NN.rep (p.length:Int).toNat) (Ap Z<|QQ Z<|QQ Z<|QQ Z<|QQ Z<|QQ (congrArg (hS Rj 0 0 1) (by simp:(p.length:Int).toNat=(Xp (p.length:Int).toNat ([]:LI)).length)) QP) λs13 gh ws13 h hN18=>?_;let d0:=p.getD s13.2.1.toNat Rh;obtain ⟨y16,kk17,u15⟩:=gh;refine go h λ_ h=>?_;refine jH ?_;refine jN Z h (λq19 h=>?_) λq19 h=>?_
 ·refine go h λ_ h=>?_;refine T.jF (G:=(NG×AH×Nat)) h (λs20 gh=>NN gh.2.1 gh.1 1 3 cI s20.1) (λs20 gh=>[(14,I s13.2.1),(13,I (p.length:Int)),(12,eL (cL QV.c) p),(4,I s20.2),(3,hS Rj 0 gh.2.2 1 s20.1.length)]) (λs20 gh=>(bE Rj gh.2.2 1 24 (QT 1 gh.1 1 s20.1)::gh.2.1)) (λs20 gh h hN65=>?_) λs20 h=>?_
  ·obtain ⟨y63,kk64,u62⟩:=gh;refine go h λ_ h=>?_;obtain rfl:=QU h;exact ⟨(s20.1,(s13.2.1+V),s20.2),(y63,kk64,u62),Z,hN65,Re⟩
  refine go h λ_ h=>?_;refine tL h (y16,kk17,u15) (λs32 gh=>NN gh.2.1 gh.1 1 3 cI s32.1) (λs32 gh=>[(21,I s32.2.1),(20,I (d0.length:Int)),(19,eL QV.c d0),(5,I s13.2.1),(14,I s13.2.1),(13,I (p.length:Int)),(12,eL (cL QV.c) p),(4,I s32.2.2),(3,hS Rj 0 gh.2.2 1 s32.1.length)]) (λs32 gh=>(bE Rj gh.2.2 1 24 (QT 1 gh.1 1 s32.1)::gh.2.1)) hN18 λs32 gh ws32 h hN37=>?_;obtain ⟨y35,kk36,u34⟩:=gh;refine go h λ_ h=>?_;refine jH ?_;refine jN Z h (λq38 h=>?_) λq38 h=>?_
  ·refine go h λ_ h=>?_;refine T.jF (G:=(NG×AH×Nat)) h (λs39 gh=>NN gh.2.1 gh.1 1 3 cI s39.1) (λs39 gh=>[(21,I s32.2.1),(20,I (d0.length:Int)),(19,eL QV.c d0),(5,I s13.2.1),(14,I s13.2.1),(13,I (p.length:Int)),(12,eL (cL QV.c) p),(4,I s39.2),(3,hS Rj 0 gh.2.2 1 s39.1.length)]) (λs39 gh=>(bE Rj gh.2.2 1 24 (QT 1 gh.1 1 s39.1)::gh.2.1)) (λs39 gh h hN60=>?_) λs39 h=>?_
   ·obtain ⟨y58,kk59,u57⟩:=gh;refine go h λ_ h=>?_;obtain rfl:=QU h;exact ⟨(s39.1,(s32.2.1+V),s39.2),(y58,kk59,u57),Z,hN60,Re⟩
   refine jE<|jI<|jD h λg40 h=>oN (QR.ixL Ek Z Z g40 qD)<|oN (lf (.agg<|QV.c<|J d0 s32.2.1) Hu Z)<|oA (EvA.al NZ Z Z)<|TO.reid (e0:=ai [(8,.hp 1 0 4 0 0),(24,.agg<|QV.c<|J d0 s32.2.1),(21,I s32.2.1),(20,I (d0.length:Int)),(19,eL QV.c d0),(5,I s13.2.1),(14,I s13.2.1),(13,I (p.length:Int)),(12,eL (cL QV.c) p),(4,I s32.2.2),(3,hS Rj 0 u34 1 s32.1.length)]) (Reid.rot (m:=1) (S:=[bE Rj u34 1 24 (QT 1 y35 1 s32.1)]) (S':=[bE Rj u34 1 24 (QT 2 y35 1 s32.1)]) (K:=kk36) (x:=some ⟨0,4,79,[[I U,I U,I U,I U]]⟩) (x':=Rk ⟨0,4,79,[[I U,I U,I U,I U]]⟩) Z Z Z (.nest (hN37.renK Z) .nil) hN37.kf<|.some (.rowL<|.cons (aF 9 _ Z)<|.cons (aF 9 _ Z)<|.cons (aF 9 _ Z)<|.cons (aF 9 _ Z) .nil) .nil) (aX (a0:=.hp (kk36.length+1) 0 4 0 0) Z (.hp Rot.new)<|bw Z Z<|bw Z Z<|bw Z Z<|bw Z Z<|bw Z Z<|bw Z Z<|bw Z Z<|bw Z Z<|bw Z Z<|aX (a0:=hS Rj 0 u34 1 s32.1.length) Z (dz<|Rot.low Z) rE)<|oV (sr (QV.c<|J d0 s32.2.1) Hu Z Z Z Z)<|jA<|jI<|oN (fa N7 Z)<|oA (lh (I<|(J d0 s32.2.1).Op) Ra Z Z Z)<|oN (QR.ieq Z Z)<|jA ?_;refine jN Z h (λq41 h=>?_) λq41 h=>?_
   ·refine go h λf h=>?_;obtain ⟨g42,_⟩:=f;have n47:=hN37.nil_<|aQ rfl g42;have hX46:=hN37.opened<|aQ rfl g42;refine TO.reid (e0:=ai [(32,.hp 0 u34 1 s13.2.1.toNat 0),(29,I s13.2.1),(28,hS Rj 0 u34 1 s32.1.length),(21,I s32.2.1),(20,I (d0.length:Int)),(19,eL QV.c d0),(5,I s13.2.1),(14,I s13.2.1),(13,I (p.length:Int)),(12,eL (cL QV.c) p),(4,I s32.2.2),(3,hS Rj 0 u34 1 s32.1.length)]) (Reid.open (m:=2) (S:=[bE Rj u34 1 24 (QT 2 y35 1 s32.1),Rk ⟨0,4,79,[(QV.c<|J d0 s32.2.1)]⟩]) (S':=[bE Rj u34 1 24 (nxs 3 y35 1 s32.1 s13.2.1.toNat (y35 s13.2.1.toNat).1 2 ((y35 s13.2.1.toNat).2.2)<|(s32.1.getD s13.2.1.toNat []).length),Rk ⟨0,4,79,[(QV.c<|J d0 s32.2.1)]⟩]) (K:=kk36) (x:=bE (y35 s13.2.1.toNat).1 (y35 s13.2.1.toNat).2.2 1 3<|(s32.1.getD s13.2.1.toNat []).map cI) Z (hN37.at_<|aQ Z g42) Z (.nest (hN37.renOpn<|aQ Z g42)<|.some (.rowL<|.cons (aF 9 _ Z)<|.cons (aF 9 _ Z)<|.cons (aF 9 _ Z)<|.cons (aF 9 _ Z) .nil) .nil) hN37.kf) (aX (a0:=.hp 0 u34 1 s13.2.1.toNat 0) Z (.hp<|Opn.low Z)<|bw Z Z<|aX (a0:=hS Rj 0 u34 1 s32.1.length) Z (dz<|Opn.low Z)<|bw Z Z<|bw Z Z<|bw Z Z<|bw Z Z<|bw Z Z<|bw Z Z<|bw Z Z<|bw Z Z<|aX (a0:=hS Rj 0 u34 1 s32.1.length) Z (dz<|Opn.low Z) rE) ?_;generalize (y35 s13.2.1.toNat).1=b43 at n47 ⊢;generalize (y35 s13.2.1.toNat).2.2=u44;generalize kk36.set (y35 s13.2.1.toNat).2.1 Rl=kk45 at hX46 ⊢;refine oA (EvA.loadhp (hS b43 2 u44 1<|(s32.1.getD s13.2.1.toNat []).length) Ag Z Z Z Z (wP<|aQ Z g42) Z)<|gk h λ_ _ h=>?_;refine oV (EvA.st (cs:=[hS Rj 2 (u44+1) 1 (((s32.1.getD s13.2.1.toNat [])++[(-1:Int)]).length)]) ⟨u34,1,24,(nxs 3 y35 1 s32.1 s13.2.1.toNat Rj 2 (u44+1)<|((s32.1.getD s13.2.1.toNat [])++[(-1:Int)]).length)⟩ Ag Z Z Z Z Z (wP hX46.hi) Z Z<|congrArg (ABlk.mk u34 1 24) FW)<|go h λ_ h=>?_;obtain rfl:=QU h;exact ⟨((up 1<|(up 1 y35).put s13.2.1.toNat (Rj,0,u44+1)),(Rk ⟨0,4,79,[(QV.c<|J d0 s32.2.1)]⟩::(bE Rj (u44+1) 1 3 (((s32.1.getD s13.2.1.toNat [])++[(-1:Int)]).map cI)::kk45)),u34),((hX46.close (g:=false) (v:=u44+1) (r:=((s32.1.getD s13.2.1.toNat [])++[(-1:Int)])) nofun qD).push λ_ hb=>osi hb ▸ ak Z),Ap (congrArg (λr_:List (List AV)=>(bE Rj u34 1 24 r_::Rk ⟨0,4,79,[(QV.c<|J d0 s32.2.1)]⟩::bE Rj (u44+1) 1 3 (((s32.1.getD s13.2.1.toNat [])++[(-1:Int)]).map cI)::kk45:AH)) (show (nxs 3 y35 1 s32.1 s13.2.1.toNat Rj 2 (u44+1)<|((s32.1.getD s13.2.1.toNat [])++[(-1:Int)]).length)=QT 1 (up 1<|(up 1 y35).put s13.2.1.toNat (Rj,0,u44+1)) 1 (s32.1.set s13.2.1.toNat<|(s32.1.getD s13.2.1.toNat [])++[(-1:Int)]) from yf (m:=2) (gh:=y35) (r:=((s32.1.getD s13.2.1.toNat [])++[(-1:Int)])) hX46.hi).symm)<|QQ Z<|QQ Z<|QQ Z<|QQ Z<|QQ Z<|QQ Z<|QQ Z<|QQ Z<|QQ (congrArg (hS Rj 0 u34 1) (by simp:s32.1.length=(s32.1.set s13.2.1.toNat<|(s32.1.getD s13.2.1.toNat [])++[(-1:Int)]).length)) QP⟩
   refine go h λf h=>?_;obtain ⟨g49,_⟩:=f;have n54:=hN37.nil_<|aQ rfl g49;have hX53:=hN37.opened<|aQ rfl g49;refine TO.reid (e0:=ai [(41,.hp 0 u34 1 s13.2.1.toNat 0),(38,I s13.2.1),(37,hS Rj 0 u34 1 s32.1.length),(21,I s32.2.1),(20,I (d0.length:Int)),(19,eL QV.c d0),(5,I s13.2.1),(14,I s13.2.1),(13,I (p.length:Int)),(12,eL (cL QV.c) p),(4,I s32.2.2),(3,hS Rj 0 u34 1 s32.1.length)]) (Reid.open (m:=2) (S:=[bE Rj u34 1 24 (QT 2 y35 1 s32.1),Rk ⟨0,4,79,[(QV.c<|J d0 s32.2.1)]⟩]) (S':=[bE Rj u34 1 24 (nxs 3 y35 1 s32.1 s13.2.1.toNat (y35 s13.2.1.toNat).1 2 ((y35 s13.2.1.toNat).2.2)<|(s32.1.getD s13.2.1.toNat []).length),Rk ⟨0,4,79,[(QV.c<|J d0 s32.2.1)]⟩]) (K:=kk36) (x:=bE (y35 s13.2.1.toNat).1 (y35 s13.2.1.toNat).2.2 1 3<|(s32.1.getD s13.2.1.toNat []).map cI) Z (hN37.at_<|aQ Z g49) Z (.nest (hN37.renOpn<|aQ Z g49)<|.some (.rowL<|.cons (aF 9 _ Z)<|.cons (aF 9 _ Z)<|.cons (aF 9 _ Z)<|.cons (aF 9 _ Z) .nil) .nil) hN37.kf) (aX (a0:=.hp 0 u34 1 s13.2.1.toNat 0) Z (.hp<|Opn.low Z)<|bw Z Z<|aX (a0:=hS Rj 0 u34 1 s32.1.length) Z (dz<|Opn.low Z)<|bw Z Z<|bw Z Z<|bw Z Z<|bw Z Z<|bw Z Z<|bw Z Z<|bw Z Z<|bw Z Z<|aX (a0:=hS Rj 0 u34 1 s32.1.length) Z (dz<|Opn.low Z) rE) ?_;generalize (y35 s13.2.1.toNat).1=b50 at n54 ⊢;generalize (y35 s13.2.1.toNat).2.2=u51;generalize kk36.set (y35 s13.2.1.toNat).2.1 Rl=kk52 at hX53 ⊢;refine oA (EvA.loadhp (hS b50 2 u51 1<|(s32.1.getD s13.2.1.toNat []).length) Ag Z Z Z Z (wP<|aQ Z g49) Z)<|gk h λ_ _ h=>?_;refine oV (EvA.st (cs:=[hS Rj 2 (u51+1) 1 (((s32.1.getD s13.2.1.toNat [])++[s32.2.2]).length)]) ⟨u34,1,24,(nxs 3 y35 1 s32.1 s13.2.1.toNat Rj 2 (u51+1)<|((s32.1.getD s13.2.1.toNat [])++[s32.2.2]).length)⟩ Ag Z Z Z Z Z (wP hX53.hi) Z Z<|congrArg (ABlk.mk u34 1 24) FW)<|go h λ_ h=>?_;obtain rfl:=QU h;exact ⟨((up 1<|(up 1 y35).put s13.2.1.toNat (Rj,0,u51+1)),(Rk ⟨0,4,79,[(QV.c<|J d0 s32.2.1)]⟩::(bE Rj (u51+1) 1 3 (((s32.1.getD s13.2.1.toNat [])++[s32.2.2]).map cI)::kk52)),u34),((hX53.close (g:=false) (v:=u51+1) (r:=((s32.1.getD s13.2.1.toNat [])++[s32.2.2])) nofun qD).push λ_ hb=>osi hb ▸ ak Z),Ap (congrArg (λr_:List (List AV)=>(bE Rj u34 1 24 r_::Rk ⟨0,4,79,[(QV.c<|J d0 s32.2.1)]⟩::bE Rj (u51+1) 1 3 (((s32.1.getD s13.2.1.toNat [])++[s32.2.2]).map cI)::kk52:AH)) (show (nxs 3 y35 1 s32.1 s13.2.1.toNat Rj 2 (u51+1)<|((s32.1.getD s13.2.1.toNat [])++[s32.2.2]).length)=QT 1 (up 1<|(up 1 y35).put s13.2.1.toNat (Rj,0,u51+1)) 1 (s32.1.set s13.2.1.toNat<|(s32.1.getD s13.2.1.toNat [])++[s32.2.2]) from yf (m:=2) (gh:=y35) (r:=((s32.1.getD s13.2.1.toNat [])++[s32.2.2])) hX53.hi).symm)<|QQ Z<|QQ Z<|QQ Z<|QQ Z<|QQ Z<|QQ Z<|QQ Z<|QQ Z<|QQ (congrArg (hS Rj 0 u34 1) (by simp:s32.1.length=(s32.1.set s13.2.1.toNat<|(s32.1.getD s13.2.1.toNat [])++[s32.2.2]).length)) QP⟩
  refine jM<|lX h λh=>?_
  cases h
  exact ⟨(y35,kk36,u34),hN37,Re⟩
 refine jM<|lX h λh=>?_
 cases h
 exact ⟨(y16,kk17,u15),hN18,Re⟩
theorem wy (s:ZTv) (pc:Z3i) (loc:Int) {q} (h:jb s pc loc=Rk q):ax Rn 197 [.fp (ZTv.c s) 0,.agg (Z3i.c pc),I loc] (I q):=by
 refine pM func197 Z (by kernel_rfl) Z<|go h λ_ h=>?_;refine eF Z Z Z<|go h λ_ h=>?_;refine T.jU h (λs1=>[(7,I s1)]) (λs1=>[]) (λs1 h=>?_) λs1 h=>?_
 ·exact gz h
 refine go h λ_ h=>?_;refine tU h (λs4=>[(16,I s4.1),(15,I (s.p.length:Int)),(7,I s4.2),(4,.fp (Z3i.c pc) 0),(0,.fp (ZTv.c s) 0),(2,I loc)]) (λs4=>[]) λs4 ws4 h=>?_;let d0:=s.p.getD s4.1.toNat Rh;refine go h λ_ h=>?_;refine jH ?_;refine jN Z h (λq6 h=>?_) λq6 h=>?_
 ·refine go h λ_ h=>?_;refine T.jU h (λs7=>[(16,I s4.1),(15,I (s.p.length:Int)),(7,I s7),(4,.fp (Z3i.c pc) 0),(0,.fp (ZTv.c s) 0),(2,I loc)]) (λs7=>[]) (λs7 h=>?_) λs7 h=>?_
  ·refine go h λ_ h=>?_;exact lE h Re
  refine go h λ_ h=>?_;refine jH<|T.drawP (by kernel_rfl) (by kernel_rfl) ?_;refine go h λf h=>?_;obtain ⟨g9,_⟩:=f;refine fN Z (lf1 (λz0=>I<|Z3i.get pc z0) g9 Ra Z Z Z Z)<|jD h λg10 h=>fN Z (QR.slL Ek Z .no (.yes Z) g10 qD) ?_;refine go h λ_ h=>?_;refine tU h (λs13=>[(31,I s13.1),(30,I (((d0.drop U.toNat).take<|(Z3i.get pc s4.1).toNat-U.toNat).length:Int)),(29,eL QV.c<|(d0.drop U.toNat).take<|(Z3i.get pc s4.1).toNat-U.toNat),(16,I s4.1),(15,I (s.p.length:Int)),(7,I s13.2),(4,.fp (Z3i.c pc) 0),(0,.fp (ZTv.c s) 0),(2,I loc)]) (λs13=>[]) λs13 ws13 h=>?_;refine go h λ_ h=>?_;refine jH ?_;refine jN Z h (λq15 h=>?_) λq15 h=>?_
  ·refine go h λ_ h=>?_;refine T.jU h (λs16=>[(7,I s16),(31,I s13.1),(30,I (((d0.drop U.toNat).take<|(Z3i.get pc s4.1).toNat-U.toNat).length:Int)),(29,eL QV.c<|(d0.drop U.toNat).take<|(Z3i.get pc s4.1).toNat-U.toNat),(16,I s4.1),(15,I (s.p.length:Int)),(4,.fp (Z3i.c pc) 0),(0,.fp (ZTv.c s) 0),(2,I loc)]) (λs16=>[]) (λs16 h=>?_) λs16 h=>?_
   ·refine go h λ_ h=>?_;exact lE h Re
   refine go h λ_ h=>?_;refine oC h (λ_=>bW _) Z Z Z Z λv18 _ h=>(go h λ_ h=>?_);refine TO.jB h 5 (λs19=>[(42,Bo s19),(31,I s13.1),(30,I (((d0.drop U.toNat).take<|(Z3i.get pc s4.1).toNat-U.toNat).length:Int)),(29,eL QV.c<|(d0.drop U.toNat).take<|(Z3i.get pc s4.1).toNat-U.toNat),(16,I s4.1),(15,I (s.p.length:Int)),(7,I s13.2),(4,.fp (Z3i.c pc) 0),(0,.fp (ZTv.c s) 0),(2,I loc)]) (λs19=>[Rk ⟨0,4,79,[(QV.c<|J ((d0.drop U.toNat).take<|(Z3i.get pc s4.1).toNat-U.toNat) s13.1)]⟩]) (λs19 q20 h js19=>?_) (λs19 q20 h js19=>?_) λs19 h=>?_
   ·refine go h λ_ h=>?_;refine gA Z q20 (lh (I<|(J ((d0.drop U.toNat).take<|(Z3i.get pc s4.1).toNat-U.toNat) s13.1).Loc) Ra Z Z Z) ?_;exact gj h js19
   ·exact gj h js19
   refine gi h (λ_ q21 h=>?_) λ_ q21 h=>?_
   ·refine go h λ_ h=>?_
    cases h
    exact ⟨(),trivial,Re⟩
   refine go h λ_ h=>?_
   cases h
   exact ⟨(),trivial,Re⟩
  refine jM<|lX h λh=>?_
  cases h
  exact ⟨(),trivial,Re⟩
 refine jM<|lX h λh=>?_
 cases h
 exact ⟨(),trivial,Re⟩
theorem xj (s:ZTv) (pc:Z3i) (t:Int) {q} (h:ky s pc t=Rk q):ax Rn 129 [.fp (ZTv.c s) 0,.agg (Z3i.c pc),I t] (Bo q):=by
 refine pM func129 Z (by kernel_rfl) Z<|go h λ_ h=>?_;refine eF Z Z Z<|go h λ_ h=>?_;refine jH<|jH<|T.drawP (by kernel_rfl) (by kernel_rfl) ?_;refine go h λf h=>?_;obtain ⟨g1,_⟩:=f;refine fN Z (lf1 (λz0=>I<|Z3i.get pc z0) g1 Ra Z Z Z Z)<|go h λf h=>?_;obtain ⟨g2,_⟩:=f;refine jN Z h (λq3 h=>?_) λq3 h=>?_
 ·exact gz h
 refine jG<|jH<|T.reserve<|jP (dG [dF,dF,dF,dF,dF,dF,dF,dF,dF,dF,dF,dF,dF,dF,dF,dF,dF,dF,dF,dF,dF,dF,dF,dF,([0],Ri),([0],Ri),dF]) (by kernel_rfl) (by kernel_rfl) ?_;refine go h λ_ h=>?_;refine fN Z (lf1 (λz0=>I<|Z3i.get pc z0) g1 Ra Z Z Z Z)<|go h λ_ h=>?_;refine fN Z (lf1 (λz0=>I<|Z3i.get pc z0) g1 Ra Z Z Z Z)<|go h λ_ h=>?_;refine fW 0 [] Z Z (λG hG=>EvA.alR 0 NZ Z Z<|hG.a0 Z)<|go h λ_ h=>?_;refine Rb h (λ_ q7 h=>?_) λ_ q7 h=>?_
 ·exact gz h
 refine go h λ_ h=>?_;refine jH<|jP (dG [dF,dF,dF,dF,dF,dF,([0],Rj),dF,dF,dF]) (by kernel_rfl) (by kernel_rfl) ?_;refine go h λ_ h=>?_;refine oC h (λ_=>wy _ _ _) Z Z Z Z λv9 _ h=>(go h λ_ h=>?_);refine T.jU h (λs10=>[(6,Bo s10)]) (λs10=>[Rk ⟨0,4,79,[(QV.c<|J (J s.p t)<|Z3i.get pc t)]⟩]) (λs10 h=>?_) λs10 h=>?_
 ·exact gz h
 refine T.cl [10,9,8,7,0] Z<|T.drawG (dG [([0],Rj),dF,dF,dF,dF,dF,dF,dF,dF,dF,dF,dF,dF,dF,dF,dF,dF,dF,dF,([0],Rj),dF,dF,dF,dF,dF,dF,dF,dF,dF,dF,dF,dF,dF]) (by kernel_rfl) (by kernel_rfl) ?_;refine go h λ_ h=>?_;refine jB h λv11 cv11 h=>tN Z (QR.call Z Z Z (gD (⟨(J (J s.p t)<|Z3i.get pc t).Op,(J (J s.p t)<|Z3i.get pc t).Loc,(J (J s.p t)<|Z3i.get pc t).Reg,(J (J s.p t)<|Z3i.get pc t).Val⟩:QV) cv11) Z)<|go h λ_ h=>?_;rcases CE h with ⟨q12,h⟩ | ⟨q12,h⟩
 ·refine gp h λ_ h=>?_;refine go h λ_ h=>?_;refine tgR Z Z [0] Z (λG hG=>EvA.loadhp (.agg<|QV.c<|J (J s.p t)<|Z3i.get pc t) Hu Z (hG.a0 Z) Z Z Z Z)<|jB h λv13 cv13 h=>tgN Z Z Z (QR.call Z Z Z (bW (⟨(J (J s.p t)<|Z3i.get pc t).Op,(J (J s.p t)<|Z3i.get pc t).Loc,(J (J s.p t)<|Z3i.get pc t).Reg,(J (J s.p t)<|Z3i.get pc t).Val⟩:QV) cv13) Z) ?_;refine go h λ_ h=>?_;rcases CE h with ⟨q14,h⟩ | ⟨q14,h⟩
  ·refine go h λ_ h=>?_;refine tgN Z Z Z (QR.pickT Z q14 (Bo Ri) Z)<|gp h λ_ h=>?_;refine go h λ_ h=>?_
   cases h
   exact ⟨(),trivial,Re⟩
  refine go h λ_ h=>?_;refine tgN Z Z Z (QR.pickF Z q14 (Bo<|(J (J s.x.Order<|(J (J s.p t)<|Z3i.get pc t).Loc)<|v9+V)==(J (J s.number t)<|Z3i.get pc t)) Z)<|gp h λ_ h=>?_;refine go h λ_ h=>?_
  cases h
  exact ⟨(),trivial,Re⟩
 refine gp h λ_ h=>?_;refine go h λ_ h=>?_;rcases CE h with ⟨q19,h⟩ | ⟨q19,h⟩
 ·refine tgR Z q19 [0] Z (λG hG=>EvA.loadhp (.agg<|QV.c<|J (J s.p t)<|Z3i.get pc t) Hu Z (hG.a0 Z) Z Z Z Z)<|jB h λv20 cv20 h=>tgN Z q19 Z (QR.call Z Z Z (bW (⟨(J (J s.p t)<|Z3i.get pc t).Op,(J (J s.p t)<|Z3i.get pc t).Loc,(J (J s.p t)<|Z3i.get pc t).Reg,(J (J s.p t)<|Z3i.get pc t).Val⟩:QV) cv20) Z) ?_;refine go h λ_ h=>?_;rcases CE h with ⟨q21,h⟩ | ⟨q21,h⟩
  ·refine go h λ_ h=>?_;refine tgN Z q19 Z (QR.pickT Z q21 (Bo Ri) Z)<|gp h λ_ h=>?_;refine go h λ_ h=>?_
   cases h
   exact ⟨(),trivial,Re⟩
  refine go h λ_ h=>?_;refine tgN Z q19 Z (QR.pickF Z q21 (Bo<|(J (J s.x.Order<|(J (J s.p t)<|Z3i.get pc t).Loc)<|v9+V)==(J (J s.number t)<|Z3i.get pc t)) Z)<|gp h λ_ h=>?_;refine go h λ_ h=>?_
  cases h
  exact ⟨(),trivial,Re⟩
 refine gp h λ_ h=>?_;refine go h λ_ h=>?_
 cases h
 exact ⟨(),trivial,Re⟩
theorem vI:∀ (nf:Nat) (s:ZTr) (pc:Z3i) (aG:Nat) (ver1:Nat) {q} (h:aL nf s pc=Rk q),dN Rn 67 [.hp 0 aG 6 0 0,.agg (Z3i.c pc)] [Rk ⟨aG,6,93,[[eL (cL QV.c) s.p,eL cI s.x.From,eL (cL cI) s.x.Order,eL (cL cI) s.number,hS Rj 1 ver1 1 s.schedule.length,.mp 2 4]]⟩,bE Rj ver1 1 3 (s.schedule.map cI),(Rk<|mB 3 1 kI3 cB s.failed)] (OJ (Bo q.2) λver=>[Rk ⟨aG,6,93,[[eL (cL QV.c) q.1.p,eL cI q.1.x.From,eL (cL cI) q.1.x.Order,eL (cL cI) q.1.number,hS Rj 1 ver 1 q.1.schedule.length,.mp 2 4]]⟩,bE Rj ver 1 3 (q.1.schedule.map cI),(Rk<|mB 3 1 kI3 cB q.1.failed)]):=by
 intro nf
 induction nf with
 | zero=>intros;rename_i h;cases h
 | succ nf ih=>
  intro s pc aG ver1 q h;replace h:aV (aL nf) s pc=Rk q:=h;refine dN.mkS func67 Z (by kernel_rfl) Z (by kernel_rfl) (e0:=ai [(0,.hp 0 aG 6 0 0),(1,.agg<|Z3i.c pc)]) (QQ Z<|QQ Z QP)<|go h λ_ h=>?_;refine eF Z Z Z<|go h λ_ h=>?_;refine jH<|jH<|jP (dG [dF,dF,dF,([0],Rj),dF,([2],Rj)]) (by kernel_rfl) (by kernel_rfl) ?_;refine go h λ_ h=>?_;refine fR [2] Z (λG hG=>EvA.lookB (l:=s.failed) Qw Tryz.underlying91 (by kernel_rfl) (pc.x0,pc.x1,pc.x2) Z Z<|hG.a0 Z) ?_;refine gi h (λ_ q1 h=>?_) λ_ q1 h=>?_
  ·refine go h λ_ h=>?_;obtain rfl:=QU h
   repeat (first|refine n9 ?_|refine og ?_)
   exact ⟨ai [(4,Bo Rj)],[Rk ⟨aG,6,93,[[eL (cL QV.c) s.p,eL cI s.x.From,eL (cL cI) s.x.Order,eL (cL cI) s.number,hS Rj 1 ver1 1 s.schedule.length,.mp 2 4]]⟩,bE Rj ver1 1 3 (s.schedule.map cI),(Rk<|mB 3 1 kI3 cB s.failed)],Re,jQ (vs:=[Bo Rj]) (.cons (.tmp Z) .nil) ⟨ver1,Z,Z⟩⟩
  refine go h λ_ h=>?_;refine T.jU h (λs2=>[(5,Bo s2),(3,.fp (Z3i.c pc) 0),(0,.hp 0 aG 6 0 0)]) (λs2=>[Rk ⟨aG,6,93,[[eL (cL QV.c) s.p,eL cI s.x.From,eL (cL cI) s.x.Order,eL (cL cI) s.number,hS Rj 1 ver1 1 s.schedule.length,.mp 2 4]]⟩,bE Rj ver1 1 3 (s.schedule.map cI),(Rk<|mB 3 1 kI3 cB s.failed)]) (λs2 h=>?_) λs2 h=>?_
  ·refine Rb h (λ_ q13 h=>?_) λ_ q13 h=>?_
   ·refine go h λ_ h=>?_;obtain rfl:=QU h
    repeat (first|refine n9 ?_|refine og ?_)
    exact ⟨ai [(4,Bo Ri)],[Rk ⟨aG,6,93,[[eL (cL QV.c) s.p,eL cI s.x.From,eL (cL cI) s.x.Order,eL (cL cI) s.number,hS Rj 1 ver1 1 s.schedule.length,.mp 2 4]]⟩,bE Rj ver1 1 3 (s.schedule.map cI),(Rk<|mB 3 1 kI3 cB s.failed)],Re,jQ (vs:=[Bo Ri]) (.cons (.tmp Z) .nil) ⟨ver1,Z,Z⟩⟩
   refine go h λ_ h=>?_;obtain ⟨Ks14,es14,ws14,h,ks14⟩:=sumL h;refine T.join (S:=(List<|List QV)×(LI)×(LL)×(LL)×(LI)×(List<|(Int×Int×Int)×Bool)) (G:=Nat) (λs14=>Ks14 s14=Rk q) (λs14 gh=>True) (λs14 gh=>[(3,.fp (Z3i.c pc) 0),(0,.hp 0 aG 6 0 0)]) (λs14 gh=>[Rk ⟨aG,6,93,[[eL (cL QV.c) s14.1,eL cI s14.2.1,eL (cL cI) s14.2.2.1,eL (cL cI) s14.2.2.2.1,hS Rj 1 gh 1 s14.2.2.2.2.1.length,.mp 2 4]]⟩,bE Rj gh 1 3 (s14.2.2.2.2.1.map cI),(Rk<|mB 3 1 kI3 cB s14.2.2.2.2.2)]) (λs14 u35 h hg=>?_) ?_
   ·clear ks14;subst es14;refine jH<|jP (dG [dF,dF,dF,([0],Rj),dF,([2],Ri)]) (by kernel_rfl) (by kernel_rfl) ?_;refine go h λ_ h=>?_;refine fV 2 [] Z Z (λG hG=>EvA.msetB (l:=s14.2.2.2.2.2) Qw Tryz.underlying91 (pc.x0,pc.x1,pc.x2) Ri Z Z Z<|hG.a0 Z)<|go h λ_ h=>?_;obtain rfl:=QU h
    repeat (first|refine n9 ?_|refine og ?_)
    exact ⟨ai [(4,Bo Rj)],[Rk ⟨aG,6,93,[[eL (cL QV.c) s14.1,eL cI s14.2.1,eL (cL cI) s14.2.2.1,eL (cL cI) s14.2.2.2.1,hS Rj 1 u35 1 s14.2.2.2.2.1.length,.mp 2 4]]⟩,bE Rj u35 1 3 (s14.2.2.2.2.1.map cI),(Rk<|mB 3 1 kI3 cB<|I4 s14.2.2.2.2.2 (pc.x0,pc.x1,pc.x2) Ri)],Re,jQ (vs:=[Bo Rj]) (.cons (.tmp Z) .nil) ⟨u35,Z,Z⟩⟩
   refine go h λ_ h=>?_;refine tT h ver1 (λs18 gh=>[(45,I s18.2.2.2.2.2.2),(44,I (s.p.length:Int)),(3,.fp (Z3i.c pc) 0),(0,.hp 0 aG 6 0 0)]) (λs18 gh=>[Rk ⟨aG,6,93,[[eL (cL QV.c) s18.1,eL cI s18.2.1,eL (cL cI) s18.2.2.1,eL (cL cI) s18.2.2.2.1,hS Rj 1 gh 1 s18.2.2.2.2.1.length,.mp 2 4]]⟩,bE Rj gh 1 3 (s18.2.2.2.2.1.map cI),(Rk<|mB 3 1 kI3 cB s18.2.2.2.2.2.1)]) λs18 u20 ws18 h=>?_;refine go h λ_ h=>?_;refine jH ?_;refine jN Z h (λq21 h=>?_) λq21 h=>?_
   ·refine go h λ_ h=>?_;obtain ⟨Ks22,es22,ws22,h,ks22⟩:=sumL h;refine T.join (S:=(List<|List QV)×(LI)×(LL)×(LL)×(LI)×(List<|(Int×Int×Int)×Bool)) (G:=Nat) (λs22=>Ks22 s22=Rk ws18) (λs22 gh=>True) (λs22 gh=>[(45,I s18.2.2.2.2.2.2),(44,I (s.p.length:Int)),(3,.fp (Z3i.c pc) 0),(0,.hp 0 aG 6 0 0)]) (λs22 gh=>[Rk ⟨aG,6,93,[[eL (cL QV.c) s22.1,eL cI s22.2.1,eL (cL cI) s22.2.2.1,eL (cL cI) s22.2.2.2.1,hS Rj 1 gh 1 s22.2.2.2.2.1.length,.mp 2 4]]⟩,bE Rj gh 1 3 (s22.2.2.2.2.1.map cI),(Rk<|mB 3 1 kI3 cB s22.2.2.2.2.2)]) (λs22 u33 h hg=>?_) ?_
    ·clear ks22;subst es22;refine go h λ_ h=>?_;obtain rfl:=QU h;exact ⟨(s22.1,s22.2.1,s22.2.2.1,s22.2.2.2.1,s22.2.2.2.2.1,s22.2.2.2.2.2,(s18.2.2.2.2.2.2+V)),u33,Z,trivial,Re⟩
    refine go h λ_ h=>?_;refine gs h λ_ h=>?_;refine jB h λv23 cv23 h=>oA (EvA.callTP Z Z (xj (⟨s18.1,(⟨s18.2.1,s18.2.2.1⟩:QW),s18.2.2.2.1⟩:ZTv) pc s18.2.2.2.2.2.2 cv23) (.cons (.hp (ver:=aG) (s:=6) (ty:=93) (r:=[eL (cL QV.c) s18.1,eL cI s18.2.1,eL (cL cI) s18.2.2.1,eL (cL cI) s18.2.2.2.1]) (x:=[hS Rj 1 u20 1 s18.2.2.2.2.1.length,.mp 2 4]) Z<|.cons (qC Z)<|.cons (qC Z)<|.cons (qC Z)<|.cons (qC Z) .nil)<|.cons (.fz<|qC Z)<|.cons (.fz<|qC Z) .nil) Z) ?_;refine gi h (λ_ q24 h=>?_) λ_ q24 h=>?_
    ·refine jM ?_;obtain rfl:=QU h;exact ⟨(s18.1,s18.2.1,s18.2.2.1,s18.2.2.2.1,s18.2.2.2.2.1,s18.2.2.2.2.2.1),u20,ks22,trivial,Re⟩
    refine go h λf h=>?_;obtain ⟨g25,_⟩:=f;refine oA (lh1 (λz0=>I<|Z3i.get pc z0) g25 Ra Z Z Z Z Z)<|go h λ_ h=>?_;refine oV (sr1 (λz0=>(Z3i.c<|Z3i.set pc z0<|(Z3i.get pc s18.2.2.2.2.2.2)+V)) g25 Ra Z Z Z Z Z Z)<|gk h λ_ _ h=>?_;refine gs h λ_ h=>?_;refine jB h λv28 cv28 h=>?_;refine oW Z Z Z (dN.outAt (ih (⟨s18.1,(⟨s18.2.1,s18.2.2.1⟩:QW),s18.2.2.2.1,(s18.2.2.2.2.1++[s18.2.2.2.2.2.2]),s18.2.2.2.2.2.1⟩:ZTr) (Z3i.set pc s18.2.2.2.2.2.2<|(Z3i.get pc s18.2.2.2.2.2.2)+V) aG (u20+1) cv28) [0,1,2] (by decide) (.cons Z (.rowL<|.cons (aF 9 _ Z)<|.cons (aF 9 _ Z)<|.cons (aF 9 _ Z)<|.cons (aF 9 _ Z)<|.cons (dz Z)<|.cons (.mp Z) .nil)<|.cons Z (RenK.bE' qD)<|.cons Z (RenK.mB _ qD) .nil) (.cons (.hp Z)<|.cons (aF 9 _ Z) .nil) (G:=λv_=>[Rk ⟨aG,6,93,[[eL (cL QV.c) v28.1.p,eL cI v28.1.x.From,eL (cL cI) v28.1.x.Order,eL (cL cI) v28.1.number,hS Rj 1 v_ 1 v28.1.schedule.length,.mp 2 4]]⟩,bE Rj v_ 1 3 (v28.1.schedule.map cI),(Rk<|mB 3 1 kI3 cB v28.1.failed)]) (G':=λv_=>[Rk ⟨aG,6,93,[[eL (cL QV.c) v28.1.p,eL cI v28.1.x.From,eL (cL cI) v28.1.x.Order,eL (cL cI) v28.1.number,hS Rj 1 v_ 1 v28.1.schedule.length,.mp 2 4]]⟩,bE Rj v_ 1 3 (v28.1.schedule.map cI),(Rk<|mB 3 1 kI3 cB v28.1.failed),Rk ⟨0,3,95,[(Z3i.c<|Z3i.set pc s18.2.2.2.2.2.2<|(Z3i.get pc s18.2.2.2.2.2.2)+V)]⟩]) 4 Z (λv_ => .some (.rowL<|.cons (aF 9 _ Z)<|.cons (aF 9 _ Z)<|.cons (aF 9 _ Z)<|.cons (aF 9 _ Z)<|.cons (dz<|.inl Z)<|.cons (.mp<|.inl Z) .nil)<|.some (RenK.bE' qD)<|.some (RenK.mB _ qD) .nil) qD (r:=Bo v28.2) (aF 9 _ Z) qD) λu29=>?_;refine gi h (λ_ q30 h=>?_) λ_ q30 h=>?_
    ·refine go h λ_ h=>?_;obtain rfl:=QU h;replace h:=congrArg Rk (show _=_ from ks22);refine lX h λh=>?_;obtain rfl:=QU h;replace h:=congrArg Rk (show _=_ from ks14);obtain rfl:=QU h
     repeat (first|refine n9 ?_|refine og ?_)
     exact ⟨ai [(4,Bo Ri)],[Rk ⟨aG,6,93,[[eL (cL QV.c) v28.1.p,eL cI v28.1.x.From,eL (cL cI) v28.1.x.Order,eL (cL cI) v28.1.number,hS Rj 1 u29 1 v28.1.schedule.length,.mp 2 4]]⟩,bE Rj u29 1 3 (v28.1.schedule.map cI),(Rk<|mB 3 1 kI3 cB v28.1.failed)],Re,jQ (vs:=[Bo Ri]) (.cons (.tmp Z) .nil) ⟨u29,Z,Z⟩⟩
    refine go h λ_ h=>?_;refine T.drawH (dG [dF,dF,dF,dF,([0],Rj),dF,dF,dF,([0],Rj),dF,dF,([1],Ri),dF,dF,([0],Ri)]) (by kernel_rfl) (by kernel_rfl)<|go h λ_ h=>?_;refine jD h λg32 h=>fW 1 [] Z Z (λG hG=>EvA.cutO (l:=v28.1.schedule) (zl:=U) (zh:=((v28.1.schedule.length:Int)-V)) (QR.slhs Tryz.underlying24 Ra (l:=U) (h:=((v28.1.schedule.length:Int)-V)) Z .no (.yes Z) g32) (hG.a0 Z) Z g32)<|go h λ_ h=>?_;obtain rfl:=QU h;exact ⟨(v28.1.p,v28.1.x.From,v28.1.x.Order,v28.1.number,((v28.1.schedule.drop U.toNat).take<|((v28.1.schedule.length:Int)-V).toNat-U.toNat),v28.1.failed),u29+1,ks22,trivial,Re⟩
   refine jM<|lX h λh=>?_;obtain rfl:=QU h;exact ⟨(s18.1,s18.2.1,s18.2.2.1,s18.2.2.2.1,s18.2.2.2.2.1,s18.2.2.2.2.2.1),u20,ks14,trivial,Re⟩
  refine go h λ_ h=>?_;refine tU h (λs5=>[(20,I s5.1),(19,I (s.p.length:Int)),(5,Bo s5.2),(3,.fp (Z3i.c pc) 0),(0,.hp 0 aG 6 0 0)]) (λs5=>[Rk ⟨aG,6,93,[[eL (cL QV.c) s.p,eL cI s.x.From,eL (cL cI) s.x.Order,eL (cL cI) s.number,hS Rj 1 ver1 1 s.schedule.length,.mp 2 4]]⟩,bE Rj ver1 1 3 (s.schedule.map cI),(Rk<|mB 3 1 kI3 cB s.failed)]) λs5 ws5 h=>?_;refine go h λ_ h=>?_;refine jH ?_;refine jN Z h (λq7 h=>?_) λq7 h=>?_
  ·refine go h λ_ h=>?_;refine T.jU h (λs8=>[(5,Bo s8),(20,I s5.1),(19,I (s.p.length:Int)),(3,.fp (Z3i.c pc) 0),(0,.hp 0 aG 6 0 0)]) (λs8=>[Rk ⟨aG,6,93,[[eL (cL QV.c) s.p,eL cI s.x.From,eL (cL cI) s.x.Order,eL (cL cI) s.number,hS Rj 1 ver1 1 s.schedule.length,.mp 2 4]]⟩,bE Rj ver1 1 3 (s.schedule.map cI),(Rk<|mB 3 1 kI3 cB s.failed)]) (λs8 h=>?_) λs8 h=>?_
   ·refine go h λ_ h=>?_;exact lE h Re
   refine go h λ_ h=>?_;refine T.drawG (dG [dF,dF,dF,dF,dF,dF,dF,dF,([0],Rj),dF,dF,dF,dF,dF,dF,dF]) (by kernel_rfl) (by kernel_rfl)<|go h λ_ h=>?_;rcases CE h with ⟨q9,h⟩ | ⟨q9,h⟩
   ·refine go h λf h=>?_;obtain ⟨g10,_⟩:=f;refine tgN Z q9 Z (lf1 (λz0=>I<|Z3i.get pc z0) g10 Ra Z Z Z Z)<|go h λ_ h=>?_;refine tgR Z q9 [0] Z (λG hG=>EvA.loadhp (eL (cL QV.c) s.p) Qt Z (hG.a0 Z) Z Z Z Z)<|gp h λ_ h=>?_;refine go h λ_ h=>?_
    cases h
    exact ⟨(),trivial,Re⟩
   refine gp h λ_ h=>?_;refine go h λ_ h=>?_
   cases h
   exact ⟨(),trivial,Re⟩
  refine jM<|lX h λh=>?_
  cases h
  exact ⟨(),trivial,Re⟩
theorem wz (s:ZTr) (pc:Z3i) (aG:Nat) (ver1:Nat) {q} (h:jc s pc=Rk q):dN Rn 67 [.hp 0 aG 6 0 0,.agg (Z3i.c pc)] [Rk ⟨aG,6,93,[[eL (cL QV.c) s.p,eL cI s.x.From,eL (cL cI) s.x.Order,eL (cL cI) s.number,hS Rj 1 ver1 1 s.schedule.length,.mp 2 4]]⟩,bE Rj ver1 1 3 (s.schedule.map cI),(Rk<|mB 3 1 kI3 cB s.failed)] (OJ (Bo q.2) λver=>[Rk ⟨aG,6,93,[[eL (cL QV.c) q.1.p,eL cI q.1.x.From,eL (cL cI) q.1.x.Order,eL (cL cI) q.1.number,hS Rj 1 ver 1 q.1.schedule.length,.mp 2 4]]⟩,bE Rj ver 1 3 (q.1.schedule.map cI),(Rk<|mB 3 1 kI3 cB q.1.failed)]):=by
 obtain ⟨nf,h⟩:=rW h;exact vI nf s pc aG ver1 h
theorem xk (p:List<|List QV) (x:QW) {q} (h:bU p x=Rk q):ax Rn 25 [eL (cL QV.c) p,.agg (QW.c x)] (.tup [eL cI q.1,Bo q.2]):=by
 refine pM func25 Z (by kernel_rfl) Z<|go h λ_ h=>?_;refine eF Z Z Z<|gq h λ_ h=>?_;refine jH<|T.reserve<|T.reserve<|T.reserve<|jP (dG [dF,dF,dF,dF,([0],Ri),([1],Ri),dF,([2],Ri),dF]) (by kernel_rfl) (by kernel_rfl) ?_;refine go h λ_ h=>?_;refine fC h (λ_=>uO _) Z Z Z Z Z λv1 _ h=>fW 0 [] Z Z (λG hG=>EvA.mkOR (c:=cI) 0 ([]:LI) [] iI Z Z Z qD qD Z<|hG.a0 Z)<|fW 1 [] Z Z (λG hG=>EvA.mmkA (kn:=3) kI3 1<|hG.a0 Z) ?_;refine go h λ_ h=>?_;refine fW 2 [] Z Z (λG hG=>EvA.bxA (cs:=[eL (cL QV.c) p,eL cI x.From,eL (cL cI) x.Order,eL (cL cI) v1,hS Rj 0 0 1 (([]:LI).length),.mp 1 4]) 2 Z Z<|hG.a0 Z)<|go h λ_ h=>?_;refine gs h λ_ h=>?_;refine oN (QR.buildZ Tryz.underlying95 Qv Ra)<|jB h λv2 cv2 h=>?_;refine oW Z Z Z (dN.outAt (wz (⟨p,(⟨x.From,x.Order⟩:QW),v1,([]:LI),([]:List<|(Int×Int×Int)×Bool)⟩:ZTr) (⟨U,U,U⟩:Z3i) 0 0 cv2) [2,0,1] (by decide) (.cons Z (.rowL<|.cons (aF 9 _ Z)<|.cons (aF 9 _ Z)<|.cons (aF 9 _ Z)<|.cons (aF 9 _ Z)<|.cons (dz Z)<|.cons (.mp Z) .nil)<|.cons Z (RenK.bE' qD)<|.cons Z (RenK.mB _ qD) .nil) (.cons (.hp Z)<|.cons (aF 9 _ Z) .nil) (G:=λv_=>[Rk ⟨0,6,93,[[eL (cL QV.c) v2.1.p,eL cI v2.1.x.From,eL (cL cI) v2.1.x.Order,eL (cL cI) v2.1.number,hS Rj 0 v_ 1 v2.1.schedule.length,.mp 1 4]]⟩,bE Rj v_ 1 3 (v2.1.schedule.map cI),(Rk<|mB 3 1 kI3 cB v2.1.failed)]) (G':=λv_=>[bE Rj v_ 1 3 (v2.1.schedule.map cI),(Rk<|mB 3 1 kI3 cB v2.1.failed),Rk ⟨0,6,93,[[eL (cL QV.c) v2.1.p,eL cI v2.1.x.From,eL (cL cI) v2.1.x.Order,eL (cL cI) v2.1.number,hS Rj 0 v_ 1 v2.1.schedule.length,.mp 1 4]]⟩]) 3 Z (λv_ => .some (.rowL<|.cons (aF 9 _ Z)<|.cons (aF 9 _ Z)<|.cons (aF 9 _ Z)<|.cons (aF 9 _ Z)<|.cons (dz<|.inl Z)<|.cons (.mp<|.inl Z) .nil)<|.some (RenK.bE' qD)<|.some (RenK.mB _ qD) .nil) qD (r:=Bo v2.2) (aF 9 _ Z) qD) λu3=>?_;refine gi h (λ_ q4 h=>?_) λ_ q4 h=>?_
 ·exact gf h
 exact gf h
theorem xm (p:List<|List QV) (x:QW) {q} (h:bV p x=Rk q):ax Rn 7 [eL (cL QV.c) p,.agg (QW.c x)] (.tup [eL cI q.1,Bo q.2]):=by
 refine pM func7 Z (by kernel_rfl) Z<|go h λ_ h=>?_;refine eF Z Z Z<|go h λ_ h=>?_;refine gs h λ_ h=>?_;refine oC h (λ_=>m6 _ _) Z Z Z Z λv1 _ h=>?_;refine gi h (λ_ q2 h=>?_) λ_ q2 h=>?_
 ·exact gf h
 refine go h λ_ h=>?_;refine oC h (λ_=>xk _ _) Z Z Z Z λv3 _ h=>?_;exact gf h
theorem AA (x:QV) {q} (h:nU x=Rk q):ax Rn 130 [.agg (QV.c x)] (Bo q):=by
 refine pM func130 Z (by kernel_rfl) Z<|go h λ_ h=>?_;refine eF Z Z Z<|go h λ_ h=>?_;refine TO.jB h 4 (λs1=>[(10,Bo s1)]) (λs1=>[]) (λs1 q2 h js1=>?_) (λs1 q2 h js1=>?_) λs1 h=>?_
 ·exact gj h js1
 ·exact gj h js1
 exact gz h
theorem zF (x:QV) {q} (h:mf x=Rk q):ax Rn 131 [.agg (QV.c x)] (Bo q):=by
 refine pM func131 Z (by kernel_rfl) Z<|go h λ_ h=>?_;refine eF Z Z Z<|go h λ_ h=>?_;refine TO.jB h 4 (λs1=>[(10,Bo s1),(1,.fp (QV.c x) 0)]) (λs1=>[]) (λs1 q2 h js1=>?_) (λs1 q2 h js1=>?_) λs1 h=>?_
 ·exact gj h js1
 ·exact gj h js1
 refine go h λ_ h=>?_;refine TO.jB h 4 (λs3=>[(15,Bo s3)]) (λs3=>[]) (λs3 q4 h js3=>?_) (λs3 q4 h js3=>?_) λs3 h=>?_
 ·exact gj h js3
 ·exact gj h js3
 exact gz h
theorem kH (p:List<|List QV) {q} (h:ez p=Rk q):ax Rn 68 [eL (cL QV.c) p] (eL QX.c q):=by
 refine pM func68 Z (by kernel_rfl) Z<|go h λ_ h=>?_;refine oA (EvA.mkO (c:=QX.c) ([]:List QX) [] Md Z Z Z qD Z Z)<|go h λ_ h=>?_;refine tJ h (λs1 gh=>[(3,hS Rj 0 gh 5 s1.length),(0,eL (cL QV.c) p)]) (λs1 gh=>[bE Rj gh 5 60 (s1.map QX.c)]) (λs1 u11 h=>?_) λs1 h=>?_
 ·refine tJ h (λs12 gh=>[(3,hS Rj 0 gh 5 s12.length)]) (λs12 gh=>[bE Rj gh 5 60 (s12.map QX.c)]) (λs12 u39 h=>?_) λs12 h=>?_
  ·exact gf h
  refine go h λ_ h=>?_;refine tT h u11 (λs16 gh=>[(5,I s16.2),(3,hS Rj 0 gh 5 s16.1.length),(0,eL (cL QV.c) p)]) (λs16 gh=>[bE Rj gh 5 60 (s16.1.map QX.c)]) λs16 u18 ws16 h=>?_;refine Rb h (λ_ q19 h=>?_) λ_ q19 h=>?_
  ·refine go h λ_ h=>?_;refine tJ h (λs20 gh=>[(5,I s16.2),(3,hS Rj 0 gh 5 s20.length),(0,eL (cL QV.c) p)]) (λs20 gh=>[bE Rj gh 5 60 (s20.map QX.c)]) (λs20 u37 h=>?_) λs20 h=>?_
   ·refine go h λ_ h=>?_;obtain rfl:=QU h;exact ⟨(s20,(s16.2+V)),u37,Z,trivial,Re⟩
   refine go h λ_ h=>?_;refine tT h u18 (λs24 gh=>[(6,I s24.2),(5,I s16.2),(3,hS Rj 0 gh 5 s24.1.length),(0,eL (cL QV.c) p)]) (λs24 gh=>[bE Rj gh 5 60 (s24.1.map QX.c)]) λs24 u26 ws24 h=>?_;refine gs h λf h=>?_;obtain ⟨g27,_⟩:=f;refine jN Z h (λq28 h=>?_) λq28 h=>?_
   ·refine go h λ_ h=>?_;refine tJ h (λs29 gh=>[(3,hS Rj 0 gh 5 s29.length),(6,I s24.2),(5,I s16.2),(0,eL (cL QV.c) p)]) (λs29 gh=>[bE Rj gh 5 60 (s29.map QX.c)]) (λs29 u35 h=>?_) λs29 h=>?_
    ·refine go h λ_ h=>?_;obtain rfl:=QU h;exact ⟨(s29,(s24.2+V)),u35,Z,trivial,Re⟩
    refine gi h (λ_ q31 h=>?_) λ_ q31 h=>?_
    ·refine T.cl [7,6,5,3,0] Z<|jP (dG [dF,dF,dF,dF,([1],Rj),([1],Rj),dF,([1],Rj),dF,dF,dF,([0],Ri),dF]) (by kernel_rfl) (by kernel_rfl) ?_;refine go h λ_ h=>?_;refine fC h (λ_=>AA _) Z Z Z Z Z λv32 _ h=>(go h λ_ h=>?_);refine fC h (λ_=>zF _) Z Z Z Z Z λv33 _ h=>(go h λ_ h=>?_);refine fN Z (QR.mkF (c:=QX.c) ([(⟨s16.2,s24.2,(J (J p s16.2) s24.2).Loc,v32,v33⟩:QX)]:List QX) [[I s16.2,I s24.2,I ((J (J p s16.2) s24.2).Loc),Bo v32,Bo v33]] Md Z Z Z qD QX.isF Z)<|jL h λg34 h=>fW 0 [] Z Z (λG hG=>EvA.app1 (g:=false) (l:=s24.1) (⟨s16.2,s24.2,(J (J p s16.2) s24.2).Loc,v32,v33⟩:QX) Md (by kernel_rfl) Z Z (hG.a0 Z) nofun (bL.fz (l:=([(⟨s16.2,s24.2,(J (J p s16.2) s24.2).Loc,v32,v33⟩:QX)]:List QX)) Z qD) g34) ?_;refine go h λ_ h=>?_
     cases h
     exact ⟨u26+1,trivial,Re⟩
    refine go h λ_ h=>?_
    cases h
    exact ⟨u26,trivial,Re⟩
   refine jM<|lX h λh=>?_
   cases h
   exact ⟨u26,trivial,Re⟩
  refine jM<|lX h λh=>?_
  cases h
  exact ⟨u18,trivial,Re⟩
 refine go h λ_ h=>?_;refine tT h 0 (λs5 gh=>[(4,I s5.2),(3,hS Rj 0 gh 5 s5.1.length),(0,eL (cL QV.c) p)]) (λs5 gh=>[bE Rj gh 5 60 (s5.1.map QX.c)]) λs5 u7 ws5 h=>?_;refine Rb h (λ_ q8 h=>?_) λ_ q8 h=>?_
 ·refine go h λ_ h=>?_;refine gs h λ_ h=>?_;refine oN (QR.mkF (c:=QX.c) ([(⟨(-1:Int),s5.2,s5.2,Rj,Ri⟩:QX)]:List QX) [[I (-1:Int),I s5.2,I s5.2,Bo Rj,Bo Ri]] Md Z Z Z qD QX.isF Z)<|go h λ_ h=>?_;obtain rfl:=QU h;exact ⟨((s5.1++[(⟨(-1:Int),s5.2,s5.2,Rj,Ri⟩:QX)]),(s5.2+V)),u7+1,Z,trivial,Re⟩
 refine jM<|lX h λh=>?_
 cases h
 exact ⟨u7,trivial,Re⟩
theorem jk (events:List QX) (loc:Int) {q} (h:cJ events loc=Rk q):ax Rn 70 [eL QX.c events,I loc] (eL cI q):=by
 refine pM func70 Z (by kernel_rfl) Z<|go h λ_ h=>?_;refine oA (EvA.mkO (c:=cI) ([]:LI) [] iI Z Z Z qD Z Z)<|go h λ_ h=>?_;refine tJ h (λs1 gh=>[(5,hS Rj 0 gh 1 s1.length)]) (λs1 gh=>[bE Rj gh 1 3 (s1.map cI)]) (λs1 u17 h=>?_) λs1 h=>?_
 ·exact gf h
 refine go h λ_ h=>?_;refine tT h 0 (λs5 gh=>[(6,I s5.2),(5,hS Rj 0 gh 1 s5.1.length),(0,eL QX.c events),(1,I loc)]) (λs5 gh=>[bE Rj gh 1 3 (s5.1.map cI)]) λs5 u7 ws5 h=>?_;refine Rb h (λ_ q8 h=>?_) λ_ q8 h=>?_
 ·refine go h λ_ h=>?_;refine tJ h (λs9 gh=>[(5,hS Rj 0 gh 1 s9.length),(6,I s5.2),(0,eL QX.c events),(1,I loc)]) (λs9 gh=>[bE Rj gh 1 3 (s9.map cI)]) (λs9 u15 h=>?_) λs9 h=>?_
  ·refine go h λ_ h=>?_;obtain rfl:=QU h;exact ⟨(s9,(s5.2+V)),u15,Z,trivial,Re⟩
  refine go h λf h=>?_;obtain ⟨g10,_⟩:=f;refine TO.jB h 8 (λs11=>[(27,Bo s11),(6,I s5.2),(5,hS Rj 0 u7 1 s5.1.length),(0,eL QX.c events),(1,I loc)]) (λs11=>[bE Rj u7 1 3 (s5.1.map cI)]) (λs11 q12 h js11=>?_) (λs11 q12 h js11=>?_) λs11 h=>?_
  ·exact gj h js11
  ·exact gj h js11
  refine gi h (λ_ q13 h=>?_) λ_ q13 h=>?_
  ·refine gk h λ_ _ h=>?_
   cases h
   exact ⟨u7+1,trivial,Re⟩
  refine go h λ_ h=>?_
  cases h
  exact ⟨u7,trivial,Re⟩
 refine jM<|lX h λh=>?_
 cases h
 exact ⟨u7,trivial,Re⟩
theorem lC (list:LI) (n:Int) {q} (h:fO list n=Rk q):ax Rn 69 [eL cI list,I n] (I q):=by
 refine pM func69 Z (by kernel_rfl) Z<|go h λ_ h=>?_;obtain ⟨Ks1,es1,ws1,h,ks1⟩:=sumL h;refine T.join (S:=Unit) (G:=Unit) (λs1=>Ks1 s1=Rk q) (λs1 gh=>True) (λs1 gh=>[]) (λs1 gh=>[]) (λs1 gh h hg=>?_) ?_
 ·clear ks1;subst es1;exact gz h
 refine go h λ_ h=>?_;refine tU h (λs4=>[(5,I s4),(0,eL cI list),(1,I n)]) (λs4=>[]) λs4 ws4 h=>?_;refine Rb h (λ_ q6 h=>?_) λ_ q6 h=>?_
 ·refine go h λ_ h=>?_;refine Rb h (λ_ q8 h=>?_) λ_ q8 h=>?_
  ·refine go h λ_ h=>?_;refine lX h λh=>?_;obtain rfl:=QU h;replace h:=congrArg Rk (show _=_ from ks1);exact gz h
  refine go h λ_ h=>?_;exact lE h Re
 refine jM<|lX h λh=>?_
 cases h
 exact ⟨(),(),ks1,trivial,Re⟩
theorem AB (list:LI) (writers:LI) {q} (h:nV list writers=Rk q):ax Rn 71 [eL cI list,eL cI writers] (Bo q):=by
 refine pM func71 Z (by kernel_rfl) Z<|go h λ_ h=>?_;obtain ⟨Ks1,es1,ws1,h,ks1⟩:=sumL h;refine T.join (S:=Unit) (G:=Unit) (λs1=>Ks1 s1=Rk q) (λs1 gh=>True) (λs1 gh=>[(0,eL cI list),(1,eL cI writers)]) (λs1 gh=>[]) (λs1 gh h hg=>?_) ?_
 ·clear ks1;subst es1;obtain ⟨Ks7,es7,ws7,h,ks7⟩:=sumL h;refine T.join (S:=Unit) (G:=Unit) (λs7=>Ks7 s7=Rk q) (λs7 gh=>True) (λs7 gh=>[]) (λs7 gh=>[]) (λs7 gh h hg=>?_) ?_
  ·clear ks7;subst es7;exact gz h
  refine go h λ_ h=>?_;refine tU h (λs10=>[(5,I s10),(0,eL cI list),(1,eL cI writers)]) (λs10=>[]) λs10 ws10 h=>?_;refine Rb h (λ_ q12 h=>?_) λ_ q12 h=>?_
  ·refine go h λ_ h=>?_;refine gs h λ_ h=>?_;refine oC h (λ_=>lC _ _) Z Z Z Z λv14 _ h=>?_;refine gi h (λ_ q15 h=>?_) λ_ q15 h=>?_
   ·refine go h λ_ h=>?_;refine lX h λh=>?_;obtain rfl:=QU h;replace h:=congrArg Rk (show _=_ from ks7);exact gz h
   refine go h λ_ h=>?_;exact lE h Re
  refine jM<|lX h λh=>?_
  cases h
  exact ⟨(),(),ks7,trivial,Re⟩
 refine T.jU h (λs2=>[(19,Bo s2),(0,eL cI list),(1,eL cI writers)]) (λs2=>[]) (λs2 h=>?_) λs2 h=>?_
 ·refine jN Z h (λq6 h=>?_) λq6 h=>?_
  ·refine go h λ_ h=>?_;obtain rfl:=QU h;replace h:=congrArg Rk (show _=_ from ks1);exact gz h
  refine go h λ_ h=>?_
  cases h
  exact ⟨(),(),ks1,trivial,Re⟩
 refine T.drawG (λ_=>([],Rj)) (by kernel_rfl) (by kernel_rfl)<|go h λ_ h=>?_;rcases CE h with ⟨q3,h⟩ | ⟨q3,h⟩
 ·refine gp h λ_ h=>?_;refine go h λ_ h=>?_
  cases h
  exact ⟨(),trivial,Re⟩
 refine gp h λ_ h=>?_;refine go h λ_ h=>?_
 cases h
 exact ⟨(),trivial,Re⟩
theorem yH (p:List<|List QV) (x:QW) {q} (h:iM p x=Rk q):ax Rn 26 [eL (cL QV.c) p,.agg (QW.c x)] (Bo q):=by
 refine pM func26 Z (by kernel_rfl) Z<|go h λ_ h=>?_;refine eF Z Z Z<|go h λ_ h=>?_;refine gs h λ_ h=>?_;refine oC h (λ_=>ko _) Z Z Z Z λv1 _ h=>?_;refine gi h (λ_ q2 h=>?_) λ_ q2 h=>?_
 ·exact gz h
 refine go h λ_ h=>?_;refine oC h (λ_=>kH _) Z Z Z Z λv3 _ h=>(go h λ_ h=>?_);refine gs h λ_ h=>?_;refine TO.jB h 5 (λs4=>[(24,Bo s4),(5,eL QX.c v3),(3,.fp (QW.c x) 0)]) (λs4=>[]) (λs4 q5 h js4=>?_) (λs4 q5 h js4=>?_) λs4 h=>?_
 ·exact gj h js4
 ·exact gj h js4
 refine gi h (λ_ q6 h=>?_) λ_ q6 h=>?_
 ·exact gz h
 refine go h λ_ h=>?_;obtain ⟨Ks7,es7,ws7,h,ks7⟩:=sumL h;refine T.join (S:=Unit) (G:=Unit) (λs7=>Ks7 s7=Rk q) (λs7 gh=>True) (λs7 gh=>[(5,eL QX.c v3),(3,.fp (QW.c x) 0)]) (λs7 gh=>[]) (λs7 gh h hg=>?_) ?_
 ·clear ks7;subst es7;obtain ⟨Ks31,es31,ws31,h,ks31⟩:=sumL h;refine T.join (S:=Unit) (G:=Unit) (λs31=>Ks31 s31=Rk q) (λs31 gh=>True) (λs31 gh=>[]) (λs31 gh=>[]) (λs31 gh h hg=>?_) ?_
  ·clear ks31;subst es31;exact gz h
  refine go h λ_ h=>?_;refine tU h (λs34=>[(7,I s34),(5,eL QX.c v3),(3,.fp (QW.c x) 0)]) (λs34=>[]) λs34 ws34 h=>?_;refine Rb h (λ_ q36 h=>?_) λ_ q36 h=>?_
  ·refine go h λ_ h=>?_;refine gs h λ_ h=>?_;refine jH<|T.drawP (by kernel_rfl) (by kernel_rfl) ?_;refine go h λ_ h=>?_;refine fC h (λ_=>jk _ _) Z Z Z Z Z λv38 _ h=>fC h (λ_=>AB _ _) Z Z Z Z Z λv39 _ h=>?_;refine gi h (λ_ q40 h=>?_) λ_ q40 h=>?_
   ·refine go h λ_ h=>?_;refine lX h λh=>?_;obtain rfl:=QU h;replace h:=congrArg Rk (show _=_ from ks31);exact gz h
   refine go h λ_ h=>?_;exact lE h Re
  refine jM<|lX h λh=>?_
  cases h
  exact ⟨(),(),ks31,trivial,Re⟩
 refine go h λ_ h=>?_;refine tU h (λs10=>[(6,I s10),(5,eL QX.c v3),(3,.fp (QW.c x) 0)]) (λs10=>[]) λs10 ws10 h=>?_;refine Rb h (λ_ q12 h=>?_) λ_ q12 h=>?_
 ·refine go h λ_ h=>?_;obtain ⟨Ks13,es13,ws13,h,ks13⟩:=sumL h;refine T.join (S:=Unit) (G:=Unit) (λs13=>Ks13 s13=Rk ws10) (λs13 gh=>True) (λs13 gh=>[(6,I s10),(5,eL QX.c v3),(3,.fp (QW.c x) 0)]) (λs13 gh=>[]) (λs13 gh h hg=>?_) ?_
  ·clear ks13;subst es13;refine go h λ_ h=>?_;exact lE h Re
  refine go h λ_ h=>?_;obtain ⟨Ks14,es14,ws14,h,ks14⟩:=sumL h;refine T.join (S:=Unit) (G:=Unit) (λs14=>Ks14 s14=Rk ws13) (λs14 gh=>True) (λs14 gh=>[(6,I s10),(5,eL QX.c v3),(3,.fp (QW.c x) 0)]) (λs14 gh=>[]) (λs14 gh h hg=>?_) ?_
  ·clear ks14;subst es14;refine go h λ_ h=>?_;refine TO.jB h 7 (λs23=>[(65,Bo s23),(6,I s10),(5,eL QX.c v3),(3,.fp (QW.c x) 0)]) (λs23=>[]) (λs23 q24 h js23=>?_) (λs23 q24 h js23=>?_) λs23 h=>?_
   ·exact gj h js23
   ·exact gj h js23
   refine go h λ_ h=>?_;refine TO.jB h 8 (λs26=>[(74,Bo s26),(6,I s10),(5,eL QX.c v3),(3,.fp (QW.c x) 0)]) (λs26=>[]) (λs26 q27 h js26=>?_) (λs26 q27 h js26=>?_) λs26 h=>?_
   ·exact gj h js26
   ·exact gj h js26
   refine gi h (λ_ q29 h=>?_) λ_ q29 h=>?_
   ·refine go h λ_ h=>?_;obtain rfl:=QU h;replace h:=congrArg Rk (show _=_ from ks13);refine lX h λh=>?_;obtain rfl:=QU h;replace h:=congrArg Rk (show _=_ from ks7);exact gz h
   refine go h λ_ h=>?_
   cases h
   exact ⟨(),(),ks13,trivial,Re⟩
  refine T.jU h (λs15=>[(51,Bo s15),(6,I s10),(5,eL QX.c v3),(3,.fp (QW.c x) 0)]) (λs15=>[]) (λs15 h=>?_) λs15 h=>?_
  ·refine jN Z h (λq21 h=>?_) λq21 h=>?_
   ·refine go h λ_ h=>?_;obtain rfl:=QU h;replace h:=congrArg Rk (show _=_ from ks14);obtain rfl:=QU h;replace h:=congrArg Rk (show _=_ from ks13);refine lX h λh=>?_;obtain rfl:=QU h;replace h:=congrArg Rk (show _=_ from ks7);exact gz h
   refine go h λ_ h=>?_
   cases h
   exact ⟨(),(),ks14,trivial,Re⟩
  refine T.drawG (λ_=>([],Rj)) (by kernel_rfl) (by kernel_rfl)<|go h λf h=>?_;obtain ⟨g16,_⟩:=f;rcases CE h with ⟨q17,h⟩ | ⟨q17,h⟩
  ·refine go h λ_ h=>?_;refine jB h λv18 cv18 h=>tgN Z q17 Z (QR.call Z Z Z (jk v3 ((J v3 s10).Loc) cv18) Z)<|go h λ_ h=>?_;refine jB h λv20 cv20 h=>tgN Z q17 Z (QR.call Z Z Z (lC v18 (J x.From s10) cv20) Z)<|gp h λ_ h=>?_;refine go h λ_ h=>?_
   cases h
   exact ⟨(),trivial,Re⟩
  refine gp h λ_ h=>?_;refine go h λ_ h=>?_
  cases h
  exact ⟨(),trivial,Re⟩
 refine jM<|lX h λh=>?_
 cases h
 exact ⟨(),(),ks7,trivial,Re⟩
theorem tO (x:QW) (loc:Int) (i:Int) (k_:Int) {q} (h:jo x loc i k_=Rk q):ax Rn 198 [.agg (QW.c x),I loc,I i,I k_] (Bo q):=by
 refine pM func198 Z (by kernel_rfl) Z<|go h λ_ h=>?_;refine eF Z Z Z<|go h λ_ h=>?_;refine jH<|T.drawP (by kernel_rfl) (by kernel_rfl) ?_;refine go h λf h=>?_;obtain ⟨g1,_⟩:=f;refine fC h (λ_=>lC _ _) Z Z Z Z Z λv2 _ h=>(go h λ_ h=>?_);refine fC h (λ_=>lC _ _) Z Z Z Z Z λv3 _ h=>?_;exact gz h
theorem AC (list:List QV) (from_:Int) (to:Int) {q} (h:wH list from_ to=Rk q):ax Rn 199 [eL QV.c list,I from_,I to] (Bo q):=by
 refine pM func199 Z (by kernel_rfl) Z<|go h λ_ h=>?_;obtain ⟨Ks1,es1,ws1,h,ks1⟩:=sumL h;refine T.join (S:=Unit) (G:=Unit) (λs1=>Ks1 s1=Rk q) (λs1 gh=>True) (λs1 gh=>[]) (λs1 gh=>[]) (λs1 gh h hg=>?_) ?_
 ·clear ks1;subst es1;exact gz h
 refine go h λ_ h=>?_;refine tU h (λs5=>[(7,I s5),(0,eL QV.c list),(2,I to)]) (λs5=>[]) λs5 ws5 h=>?_;refine Rb h (λ_ q7 h=>?_) λ_ q7 h=>?_
 ·refine go h λ_ h=>?_;refine Rb h (λ_ q9 h=>?_) λ_ q9 h=>?_
  ·refine go h λ_ h=>?_;refine lX h λh=>?_;obtain rfl:=QU h;replace h:=congrArg Rk (show _=_ from ks1);exact gz h
  refine go h λ_ h=>?_;exact lE h Re
 refine jM<|lX h λh=>?_
 cases h
 exact ⟨(),(),ks1,trivial,Re⟩
theorem Co (p:List<|List QV) (x:QW) (events:List QX) (name:BA) (i:Int) (k_:Int) {q} (h:qd p x events name i k_=Rk q):ax Rn 133 [eL (cL QV.c) p,.agg (QW.c x),eL QX.c events,St name,I i,I k_] (Bo q):=by
 let d1:=events.getD k_.toNat Rh;let d0:=events.getD i.toNat Rh;refine pM func133 Z (by kernel_rfl) Z<|go h λ_ h=>?_;refine eF Z Z Z<|go h λ_ h=>?_;refine TO.jB h 4 (λs3=>[(33,Bo s3),(14,.hp 1 0 5 0 0),(13,.hp 0 0 5 0 0),(7,.fp (QW.c x) 0),(0,eL (cL QV.c) p),(3,St name),(4,I i),(5,I k_)]) (λs3=>[Rk ⟨0,5,60,[(QX.c d0)]⟩,Rk ⟨0,5,60,[(QX.c d1)]⟩]) (λs3 q4 h js3=>?_) (λs3 q4 h js3=>?_) λs3 h=>?_
 ·refine go h λ_ h=>?_;refine gA Z q4 (lh (I<|d0.Thread) Ra Z Z Z) ?_;exact gj h js3
 ·exact gj h js3
 refine go h λ_ h=>?_;obtain ⟨Ks5,es5,ws5,h,ks5⟩:=sumL h;refine T.join (S:=Unit) (G:=Unit) (λs5=>Ks5 s5=Rk q) (λs5 gh=>True) (λs5 gh=>[(3,St name),(4,I i),(5,I k_)]) (λs5 gh=>[Rk ⟨0,5,60,[(QX.c d0)]⟩,Rk ⟨0,5,60,[(QX.c d1)]⟩]) (λs5 gh h hg=>?_) ?_
 ·clear ks5;subst es5;refine go h λ_ h=>?_;refine TO.jB h 4 (λs51=>[(188,Bo s51)]) (λs51=>[Rk ⟨0,5,60,[(QX.c d0)]⟩,Rk ⟨0,5,60,[(QX.c d1)]⟩]) (λs51 q52 h js51=>?_) (λs51 q52 h js51=>?_) λs51 h=>?_
  ·exact gj h js51
  ·exact gj h js51
  exact gz h
 refine gi h (λ_ q6 h=>?_) λ_ q6 h=>?_
 ·refine go h λ_ h=>?_;refine TO.jB h 6 (λs7=>[(44,Bo s7)]) (λs7=>[Rk ⟨0,5,60,[(QX.c d0)]⟩,Rk ⟨0,5,60,[(QX.c d1)]⟩]) (λs7 q8 h js7=>?_) (λs7 q8 h js7=>?_) λs7 h=>?_
  ·refine go h λ_ h=>?_;refine gA Z q8 (lh (I<|d0.Index) Ra Z Z Z)<|go h λ_ h=>?_;refine gA Z q8 (lh (I<|d1.Index) Ra Z Z Z) ?_;exact gj h js7
  ·exact gj h js7
  refine go h λ_ h=>?_;obtain rfl:=QU h;replace h:=congrArg Rk (show _=_ from ks5);exact gz h
 refine gi h (λ_ q9 h=>?_) λ_ q9 h=>?_
 ·refine go h λ_ h=>?_;obtain rfl:=QU h;replace h:=congrArg Rk (show _=_ from ks5);exact gz h
 refine gi h (λ_ q10 h=>?_) λ_ q10 h=>?_
 ·refine go h λ_ h=>?_;obtain rfl:=QU h;replace h:=congrArg Rk (show _=_ from ks5);exact gz h
 refine gi h (λ_ q11 h=>?_) λ_ q11 h=>?_
 ·refine go h λ_ h=>?_;refine TO.jB h 8 (λs12=>[(68,Bo s12)]) (λs12=>[Rk ⟨0,5,60,[(QX.c d0)]⟩,Rk ⟨0,5,60,[(QX.c d1)]⟩]) (λs12 q13 h js12=>?_) (λs12 q13 h js12=>?_) λs12 h=>?_
  ·exact gj h js12
  ·exact gj h js12
  refine go h λ_ h=>?_;obtain rfl:=QU h;replace h:=congrArg Rk (show _=_ from ks5);exact gz h
 refine gi h (λ_ q15 h=>?_) λ_ q15 h=>?_
 ·refine go h λ_ h=>?_;refine TO.jB h 3 (λs16=>[(76,Bo s16),(14,.hp 1 0 5 0 0),(13,.hp 0 0 5 0 0),(7,.fp (QW.c x) 0),(4,I i),(5,I k_)]) (λs16=>[Rk ⟨0,5,60,[(QX.c d0)]⟩,Rk ⟨0,5,60,[(QX.c d1)]⟩]) (λs16 q17 h js16=>?_) (λs16 q17 h js16=>?_) λs16 h=>?_
  ·refine go h λ_ h=>?_;refine gA Z q17 (lh (Bo<|d1.bK) ty4 Z Z Z) ?_;exact gj h js16
  ·exact gj h js16
  refine go h λ_ h=>?_;refine TO.jB h 6 (λs18=>[(83,Bo s18),(13,.hp 0 0 5 0 0),(7,.fp (QW.c x) 0),(4,I i),(5,I k_)]) (λs18=>[Rk ⟨0,5,60,[(QX.c d0)]⟩,Rk ⟨0,5,60,[(QX.c d1)]⟩]) (λs18 q19 h js18=>?_) (λs18 q19 h js18=>?_) λs18 h=>?_
  ·refine go h λ_ h=>?_;refine gA Z q19 (lh (I<|d0.Loc) Ra Z Z Z)<|go h λ_ h=>?_;refine gA Z q19 (lh (I<|d1.Loc) Ra Z Z Z) ?_;exact gj h js18
  ·exact gj h js18
  refine go h λ_ h=>?_;refine TO.jB h 7 (λs20=>[(91,Bo s20)]) (λs20=>[Rk ⟨0,5,60,[(QX.c d0)]⟩,Rk ⟨0,5,60,[(QX.c d1)]⟩]) (λs20 q21 h js20=>?_) (λs20 q21 h js20=>?_) λs20 h=>?_
  ·refine go h λ_ h=>?_;refine gA Z q21 (lh (I<|d0.Loc) Ra Z Z Z)<|go h λ_ h=>?_;refine jB h λv22 cv22 h=>gN Z q21 (QR.call Z Z Z (tO x (d0.Loc) i k_ cv22) Z) ?_;exact gj h js20
  ·exact gj h js20
  refine go h λ_ h=>?_;obtain rfl:=QU h;replace h:=congrArg Rk (show _=_ from ks5);exact gz h
 refine gi h (λ_ q23 h=>?_) λ_ q23 h=>?_
 ·refine T.jU h (λs24=>[(12,Bo s24)]) (λs24=>[Rk ⟨0,5,60,[(QX.c d0)]⟩,Rk ⟨0,5,60,[(QX.c d1)]⟩]) (λs24 h=>?_) λs24 h=>?_
  ·refine go h λ_ h=>?_;obtain rfl:=QU h;replace h:=congrArg Rk (show _=_ from ks5);exact gz h
  refine T.cl [14,13,7,4,5] Z<|T.drawG (dG [dF,([0],Rj),dF,dF,([1],Rj),dF,dF,dF,([0],Rj),dF,([1],Rj),dF,dF,dF,dF,dF,dF,dF,dF,dF,dF,([0],Rj),dF,dF,dF,dF,dF,dF,dF,dF,dF]) (by kernel_rfl) (by kernel_rfl) ?_;refine go h λ_ h=>?_;rcases CE h with ⟨q25,h⟩ | ⟨q25,h⟩
  ·refine go h λ_ h=>?_;refine tgR Z q25 [1] Z (λG hG=>EvA.loadhp (Bo<|d1.bK) ty4 Z (hG.a0 Z) Z Z Z Z)<|gp h λ_ h=>?_;refine go h λ_ h=>?_;rcases CE h with ⟨q26,h⟩ | ⟨q26,h⟩
   ·refine go h λ_ h=>?_;refine tgR Z q26 [0] Z (λG hG=>EvA.loadhp (I<|d0.Loc) Ra Z (hG.a0 Z) Z Z Z Z)<|go h λ_ h=>?_;refine tgR Z q26 [1] Z (λG hG=>EvA.loadhp (I<|d1.Loc) Ra Z (hG.a0 Z) Z Z Z Z)<|gp h λ_ h=>?_;refine go h λ_ h=>?_;rcases CE h with ⟨q27,h⟩ | ⟨q27,h⟩
    ·refine gp h λ_ h=>?_;refine go h λ_ h=>?_;rcases CE h with ⟨q28,h⟩ | ⟨q28,h⟩
     ·refine go h λ_ h=>?_;refine tgR Z q28 [0] Z (λG hG=>EvA.loadhp (I<|d0.Loc) Ra Z (hG.a0 Z) Z Z Z Z)<|go h λ_ h=>?_;refine jB h λv30 cv30 h=>tgN Z q28 Z (QR.call Z Z Z (tO x (d0.Loc) (J x.From i) k_ cv30) Z)<|gp h λ_ h=>?_;refine go h λ_ h=>?_
      cases h
      exact ⟨(),trivial,Re⟩
     refine gp h λ_ h=>?_;refine go h λ_ h=>?_
     cases h
     exact ⟨(),trivial,Re⟩
    refine gp h λ_ h=>?_;refine gp h λ_ h=>?_;refine go h λ_ h=>?_
    cases h
    exact ⟨(),trivial,Re⟩
   refine gp h λ_ h=>?_;refine gp h λ_ h=>?_;refine gp h λ_ h=>?_;refine go h λ_ h=>?_
   cases h
   exact ⟨(),trivial,Re⟩
  refine gp h λ_ h=>?_;refine gp h λ_ h=>?_;refine gp h λ_ h=>?_;refine gp h λ_ h=>?_;refine go h λ_ h=>?_
  cases h
  exact ⟨(),trivial,Re⟩
 refine gi h (λ_ q31 h=>?_) λ_ q31 h=>?_
 ·refine T.jU h (λs32=>[(12,Bo s32)]) (λs32=>[Rk ⟨0,5,60,[(QX.c d0)]⟩,Rk ⟨0,5,60,[(QX.c d1)]⟩]) (λs32 h=>?_) λs32 h=>?_
  ·refine go h λ_ h=>?_;obtain rfl:=QU h;replace h:=congrArg Rk (show _=_ from ks5);exact gz h
  refine T.cl [15,14,13,0] Z<|T.drawG (dG [dF,dF,dF,([0],Rj),dF,([1],Rj),dF,dF,dF,dF,dF,([0],Rj),dF,dF,dF,([0],Rj),dF,([1],Rj),dF,dF,dF]) (by kernel_rfl) (by kernel_rfl) ?_;refine go h λ_ h=>?_;rcases CE h with ⟨q33,h⟩ | ⟨q33,h⟩
  ·refine go h λ_ h=>?_;refine tgR Z q33 [0] Z (λG hG=>EvA.loadhp (I<|d0.Index) Ra Z (hG.a0 Z) Z Z Z Z)<|go h λ_ h=>?_;refine tgR Z q33 [1] Z (λG hG=>EvA.loadhp (I<|d1.Index) Ra Z (hG.a0 Z) Z Z Z Z)<|gp h λ_ h=>?_;refine go h λ_ h=>?_;rcases CE h with ⟨q34,h⟩ | ⟨q34,h⟩
   ·refine go h λ_ h=>?_;refine tgR Z q34 [0] Z (λG hG=>EvA.loadhp (I<|d0.Thread) Ra Z (hG.a0 Z) Z Z Z Z)<|go h λ_ h=>?_;refine tgR Z q34 [0] Z (λG hG=>EvA.loadhp (I<|d0.Index) Ra Z (hG.a0 Z) Z Z Z Z)<|go h λ_ h=>?_;refine tgR Z q34 [1] Z (λG hG=>EvA.loadhp (I<|d1.Index) Ra Z (hG.a0 Z) Z Z Z Z)<|jB h λv36 cv36 h=>tgN Z q34 Z (QR.call Z Z Z (AC (J p<|d0.Thread) (d0.Index) (d1.Index) cv36) Z) ?_;refine gp h λ_ h=>?_;refine go h λ_ h=>?_
    cases h
    exact ⟨(),trivial,Re⟩
   refine gp h λ_ h=>?_;refine go h λ_ h=>?_
   cases h
   exact ⟨(),trivial,Re⟩
  refine gp h λ_ h=>?_;refine gp h λ_ h=>?_;refine go h λ_ h=>?_
  cases h
  exact ⟨(),trivial,Re⟩
 refine gi h (λ_ q37 h=>?_) λ_ q37 h=>?_
 ·refine go h λ_ h=>?_;refine TO.jB h 4 (λs38=>[(154,Bo s38),(14,.hp 1 0 5 0 0)]) (λs38=>[Rk ⟨0,5,60,[(QX.c d0)]⟩,Rk ⟨0,5,60,[(QX.c d1)]⟩]) (λs38 q39 h js38=>?_) (λs38 q39 h js38=>?_) λs38 h=>?_
  ·refine go h λ_ h=>?_;refine gA Z q39 (lh (Bo<|d0.Reads) ty4 Z Z Z) ?_;exact gj h js38
  ·exact gj h js38
  refine go h λ_ h=>?_;refine TO.jB h 3 (λs40=>[(158,Bo s40),(14,.hp 1 0 5 0 0)]) (λs40=>[Rk ⟨0,5,60,[(QX.c d0)]⟩,Rk ⟨0,5,60,[(QX.c d1)]⟩]) (λs40 q41 h js40=>?_) (λs40 q41 h js40=>?_) λs40 h=>?_
  ·refine go h λ_ h=>?_;refine gA Z q41 (lh (Bo<|d1.Reads) ty4 Z Z Z) ?_;exact gj h js40
  ·exact gj h js40
  refine go h λ_ h=>?_;refine TO.jB h 4 (λs42=>[(163,Bo s42)]) (λs42=>[Rk ⟨0,5,60,[(QX.c d0)]⟩,Rk ⟨0,5,60,[(QX.c d1)]⟩]) (λs42 q43 h js42=>?_) (λs42 q43 h js42=>?_) λs42 h=>?_
  ·refine go h λ_ h=>?_;refine gA Z q43 (lh (Bo<|d1.bK) ty4 Z Z Z) ?_;exact gj h js42
  ·exact gj h js42
  refine go h λ_ h=>?_;obtain rfl:=QU h;replace h:=congrArg Rk (show _=_ from ks5);exact gz h
 refine gi h (λ_ q44 h=>?_) λ_ q44 h=>?_
 ·refine go h λ_ h=>?_;refine TO.jB h 4 (λs45=>[(172,Bo s45),(14,.hp 1 0 5 0 0)]) (λs45=>[Rk ⟨0,5,60,[(QX.c d0)]⟩,Rk ⟨0,5,60,[(QX.c d1)]⟩]) (λs45 q46 h js45=>?_) (λs45 q46 h js45=>?_) λs45 h=>?_
  ·refine go h λ_ h=>?_;refine gA Z q46 (lh (Bo<|d0.Reads) ty4 Z Z Z) ?_;exact gj h js45
  ·exact gj h js45
  refine go h λ_ h=>?_;refine TO.jB h 3 (λs47=>[(176,Bo s47),(14,.hp 1 0 5 0 0)]) (λs47=>[Rk ⟨0,5,60,[(QX.c d0)]⟩,Rk ⟨0,5,60,[(QX.c d1)]⟩]) (λs47 q48 h js47=>?_) (λs47 q48 h js47=>?_) λs47 h=>?_
  ·refine go h λ_ h=>?_;refine gA Z q48 (lh (Bo<|d1.bK) ty4 Z Z Z) ?_;exact gj h js47
  ·exact gj h js47
  refine go h λ_ h=>?_;refine TO.jB h 4 (λs49=>[(181,Bo s49)]) (λs49=>[Rk ⟨0,5,60,[(QX.c d0)]⟩,Rk ⟨0,5,60,[(QX.c d1)]⟩]) (λs49 q50 h js49=>?_) (λs49 q50 h js49=>?_) λs49 h=>?_
  ·refine go h λ_ h=>?_;refine gA Z q50 (lh (Bo<|d1.Reads) ty4 Z Z Z) ?_;exact gj h js49
  ·exact gj h js49
  refine go h λ_ h=>?_;obtain rfl:=QU h;replace h:=congrArg Rk (show _=_ from ks5);exact gz h
 refine go h λ_ h=>?_
 cases h
 exact ⟨(),(),ks5,trivial,Re⟩
theorem nZ (p:List<|List QV) (x:QW) (name:BA) {q} (h:jp p x name=Rk q):ax Rn 75 [eL (cL QV.c) p,.agg (QW.c x),St name] (eL cI q):=by
 refine pM func75 Z (by kernel_rfl) Z<|go h λ_ h=>?_;refine eF Z Z Z<|go h λ_ h=>?_;refine oC h (λ_=>kH _) Z Z Z Z λv1 _ h=>(go h λ_ h=>?_);refine oA (EvA.mkO (c:=cI) ([]:LI) [] iI Z Z Z qD Z Z)<|go h λ_ h=>?_;refine tJ h (λs2 gh=>[(8,hS Rj 0 gh 1 s2.length)]) (λs2 gh=>[bE Rj gh 1 3 (s2.map cI)]) (λs2 u25 h=>?_) λs2 h=>?_
 ·exact gf h
 refine go h λ_ h=>?_;refine tT h 0 (λs6 gh=>[(9,I s6.2),(8,hS Rj 0 gh 1 s6.1.length),(7,eL QX.c v1),(4,.fp (QW.c x) 0),(0,eL (cL QV.c) p),(2,St name)]) (λs6 gh=>[bE Rj gh 1 3 (s6.1.map cI)]) λs6 u8 ws6 h=>?_;refine Rb h (λ_ q9 h=>?_) λ_ q9 h=>?_
 ·refine go h λ_ h=>?_;refine tJ h (λs10 gh=>[(8,hS Rj 0 gh 1 s10.length),(9,I s6.2),(7,eL QX.c v1),(4,.fp (QW.c x) 0),(0,eL (cL QV.c) p),(2,St name)]) (λs10 gh=>[bE Rj gh 1 3 (s10.map cI)]) (λs10 u23 h=>?_) λs10 h=>?_
  ·refine go h λ_ h=>?_;obtain rfl:=QU h;exact ⟨(s10,(s6.2+V)),u23,Z,trivial,Re⟩
  refine go h λ_ h=>?_;refine T.jU h (λs11=>[(10,I s11),(9,I s6.2),(8,hS Rj 0 u8 1 s6.1.length),(7,eL QX.c v1),(4,.fp (QW.c x) 0),(0,eL (cL QV.c) p),(2,St name)]) (λs11=>[bE Rj u8 1 3 (s6.1.map cI)]) (λs11 h=>?_) λs11 h=>?_
  ·refine gk h λ_ _ h=>?_
   cases h
   exact ⟨u8+1,trivial,Re⟩
  refine go h λ_ h=>?_;refine tU h (λs14=>[(11,I s14.1),(10,I s14.2),(9,I s6.2),(8,hS Rj 0 u8 1 s6.1.length),(7,eL QX.c v1),(4,.fp (QW.c x) 0),(0,eL (cL QV.c) p),(2,St name)]) (λs14=>[bE Rj u8 1 3 (s6.1.map cI)]) λs14 ws14 h=>?_;refine Rb h (λ_ q16 h=>?_) λ_ q16 h=>?_
  ·refine go h λ_ h=>?_;refine T.jU h (λs17=>[(10,I s17),(11,I s14.1),(9,I s6.2),(8,hS Rj 0 u8 1 s6.1.length),(7,eL QX.c v1),(4,.fp (QW.c x) 0),(0,eL (cL QV.c) p),(2,St name)]) (λs17=>[bE Rj u8 1 3 (s6.1.map cI)]) (λs17 h=>?_) λs17 h=>?_
   ·refine go h λ_ h=>?_;exact lE h Re
   refine go h λ_ h=>?_;refine oC h (λ_=>Co _ _ _ _ _ _) Z Z Z Z λv18 _ h=>?_;refine gi h (λ_ q19 h=>?_) λ_ q19 h=>?_
   ·refine go h λ_ h=>?_
    cases h
    exact ⟨(),trivial,Re⟩
   refine go h λ_ h=>?_
   cases h
   exact ⟨(),trivial,Re⟩
  refine jM<|lX h λh=>?_
  cases h
  exact ⟨(),trivial,Re⟩
 refine jM<|lX h λh=>?_
 cases h
 exact ⟨u8,trivial,Re⟩
theorem pO (a:LI) (b:LI) {q} (h:iT a b=Rk q):ax Rn 76 [eL cI a,eL cI b] (eL cI q):=by
 refine pM func76 Z (by kernel_rfl) Z<|go h λ_ h=>?_;refine oA (EvA.mkO (c:=cI) ([]:LI) [] iI Z Z Z qD Z Z)<|go h λ_ h=>?_;refine tJ h (λs1 gh=>[(5,hS Rj 0 gh 1 s1.length)]) (λs1 gh=>[bE Rj gh 1 3 (s1.map cI)]) (λs1 u13 h=>?_) λs1 h=>?_
 ·exact gf h
 refine go h λ_ h=>?_;refine tT h 0 (λs5 gh=>[(6,I s5.2),(5,hS Rj 0 gh 1 s5.1.length),(0,eL cI a),(1,eL cI b)]) (λs5 gh=>[bE Rj gh 1 3 (s5.1.map cI)]) λs5 u7 ws5 h=>?_;refine Rb h (λ_ q8 h=>?_) λ_ q8 h=>?_
 ·refine go h λ_ h=>?_;refine gs h λ_ h=>?_;refine jP (dG [dF,dF,dF,dF,dF,dF,dF,dF,dF,dF,dF,([0],Ri),dF]) (by kernel_rfl) (by kernel_rfl)<|gk h λ_ _ h=>?_;refine jL h λg11 h=>fW 0 [] Z Z (λG hG=>EvA.app1 (g:=false) (l:=s5.1) (bOr .i64 (J a s5.2)<|J b s5.2) iI (by kernel_rfl) Z Z (hG.a0 Z) nofun (bL.fz (l:=([(bOr .i64 (J a s5.2)<|J b s5.2)]:LI)) Z qD) g11)<|go h λ_ h=>?_;obtain rfl:=QU h;exact ⟨((s5.1++[(bOr .i64 (J a s5.2)<|J b s5.2)]),(s5.2+V)),u7+1,Z,trivial,Re⟩
 refine jM<|lX h λh=>?_
 cases h
 exact ⟨u7,trivial,Re⟩
theorem yI (p:List<|List QV) (x:QW) {q} (h:kZ p x=Rk q):ax Rn 28 [eL (cL QV.c) p,.agg (QW.c x)] (eL cI q):=by
 refine pM func28 Z (by kernel_rfl) Z<|go h λ_ h=>?_;refine eF Z Z Z<|go h λ_ h=>?_;refine oC h (λ_=>nZ _ _ _) Z Z Z Z λv1 _ h=>(go h λ_ h=>?_);refine oC h (λ_=>nZ _ _ _) Z Z Z Z λv2 _ h=>oC h (λ_=>pO _ _) Z Z Z Z λv3 _ h=>(go h λ_ h=>?_);refine oC h (λ_=>nZ _ _ _) Z Z Z Z λv4 _ h=>oC h (λ_=>pO _ _) Z Z Z Z λv5 _ h=>(go h λ_ h=>?_);refine oC h (λ_=>nZ _ _ _) Z Z Z Z λv6 _ h=>oC h (λ_=>pO _ _) Z Z Z Z λv7 _ h=>?_;exact gz h
theorem Cq (n:Int) {q} (h:uj n=Rk q):ax Rn 72 [I n] (I q):=by
 refine pM func72 Z (by kernel_rfl) Z ?_;exact gz h
theorem zG (events:List QX) (t:Int) (index:Int) {q} (h:mg events t index=Rk q):ax Rn 73 [eL QX.c events,I t,I index] (I q):=by
 refine pM func73 Z (by kernel_rfl) Z<|go h λ_ h=>?_;obtain ⟨Ks1,es1,ws1,h,ks1⟩:=sumL h;refine T.join (S:=Unit) (G:=Unit) (λs1=>Ks1 s1=Rk q) (λs1 gh=>True) (λs1 gh=>[]) (λs1 gh=>[]) (λs1 gh h hg=>?_) ?_
 ·clear ks1;subst es1;exact gz h
 refine go h λ_ h=>?_;refine tU h (λs4=>[(7,I s4),(0,eL QX.c events),(1,I t),(2,I index)]) (λs4=>[]) λs4 ws4 h=>?_;refine Rb h (λ_ q6 h=>?_) λ_ q6 h=>?_
 ·refine go h λ_ h=>?_;refine gs h λf h=>?_;obtain ⟨g7,_⟩:=f;refine TO.jB h 8 (λs8=>[(29,Bo s8),(7,I s4),(0,eL QX.c events),(1,I t),(2,I index)]) (λs8=>[]) (λs8 q9 h js8=>?_) (λs8 q9 h js8=>?_) λs8 h=>?_
  ·exact gj h js8
  ·exact gj h js8
  refine gi h (λ_ q10 h=>?_) λ_ q10 h=>?_
  ·refine go h λ_ h=>?_;refine lX h λh=>?_;obtain rfl:=QU h;replace h:=congrArg Rk (show _=_ from ks1);exact gz h
  refine go h λ_ h=>?_;exact lE h Re
 refine jM<|lX h λh=>?_
 cases h
 exact ⟨(),(),ks1,trivial,Re⟩
theorem CN (r_:LI) (i:Int) (k_:Int) {q} (h:vw r_ i k_=Rk q):ax Rn 132 [eL cI r_,I i,I k_] (Bo q):=by
 refine pM func132 Z (by kernel_rfl) Z ?_;exact gz h
theorem zH (before:LI) (done:Int) (k_:Int) {q} (h:mh before done k_=Rk q):ax Rn 74 [eL cI before,I done,I k_] (Bo q):=by
 refine pM func74 Z (by kernel_rfl) Z<|go h λ_ h=>?_;obtain ⟨Ks1,es1,ws1,h,ks1⟩:=sumL h;refine T.join (S:=Unit) (G:=Unit) (λs1=>Ks1 s1=Rk q) (λs1 gh=>True) (λs1 gh=>[]) (λs1 gh=>[]) (λs1 gh h hg=>?_) ?_
 ·clear ks1;subst es1;exact gz h
 refine go h λ_ h=>?_;refine tU h (λs4=>[(7,I s4),(0,eL cI before),(1,I done),(2,I k_)]) (λs4=>[]) λs4 ws4 h=>?_;refine Rb h (λ_ q6 h=>?_) λ_ q6 h=>?_
 ·refine go h λ_ h=>?_;refine gs h λ_ h=>?_;refine oC h (λ_=>CN _ _ _) Z Z Z Z λv7 _ h=>(go h λ_ h=>?_);refine TO.jB h 6 (λs8=>[(24,Bo s8),(7,I s4),(0,eL cI before),(1,I done),(2,I k_)]) (λs8=>[]) (λs8 q9 h js8=>?_) (λs8 q9 h js8=>?_) λs8 h=>?_
  ·exact gj h js8
  ·exact gj h js8
  refine gi h (λ_ q11 h=>?_) λ_ q11 h=>?_
  ·refine go h λ_ h=>?_;refine lX h λh=>?_;obtain rfl:=QU h;replace h:=congrArg Rk (show _=_ from ks1);exact gz h
  refine go h λ_ h=>?_;exact lE h Re
 refine jM<|lX h λh=>?_
 cases h
 exact ⟨(),(),ks1,trivial,Re⟩
theorem AJ (p:List<|List QV) (before:LI) {q} (h:iU p before=Rk q):ax Rn 27 [eL (cL QV.c) p,eL cI before] (.tup [eL cI q.1,Bo q.2]):=by
 refine pM func27 Z (by kernel_rfl) Z<|go h λ_ h=>?_;refine oC h (λ_=>kH _) Z Z Z Z λv1 _ h=>(go h λ_ h=>?_);refine jD h λg2 h=>oA (EvA.mkN (c:=cI) (Rh:Int) iI Z Z g2 Z Z Z)<|go h λ_ h=>?_;refine oC h (λ_=>Cq _) Z Z Z Z λv3 _ h=>(go h λ_ h=>?_);refine oA (EvA.mkO (c:=cI) ([]:LI) [] iI Z Z Z qD Z Z)<|go h λ_ h=>?_;refine T.jF (G:=Nat×Nat) h (λs4 gh=>True) (λs4 gh=>[(9,hS Rj 1 gh.2 1 s4.2.length),(7,hS Rj 0 gh.1 1 s4.1.length),(0,eL (cL QV.c) p)]) (λs4 gh=>[bE Rj gh.1 1 3 (s4.1.map cI),bE Rj gh.2 1 3 (s4.2.map cI)]) (λs4 gh h hg=>?_) λs4 h=>?_
 ·obtain ⟨u42,u43⟩:=gh;obtain ⟨Ks44,es44,ws44,h,ks44⟩:=sumL h;refine T.join (S:=Unit) (G:=Unit) (λs44=>Ks44 s44=Rk q) (λs44 gh=>True) (λs44 gh=>[(9,hS Rj 1 u43 1 s4.2.length)]) (λs44 gh=>[bE Rj u42 1 3 (s4.1.map cI),bE Rj u43 1 3 (s4.2.map cI)]) (λs44 gh h hg=>?_) ?_
  ·clear ks44;subst es44;exact gf h
  refine go h λ_ h=>?_;refine tU h (λs47=>[(13,I s47),(9,hS Rj 1 u43 1 s4.2.length),(7,hS Rj 0 u42 1 s4.1.length),(0,eL (cL QV.c) p)]) (λs47=>[bE Rj u42 1 3 (s4.1.map cI),bE Rj u43 1 3 (s4.2.map cI)]) λs47 ws47 h=>?_;refine Rb h (λ_ q49 h=>?_) λ_ q49 h=>?_
  ·refine go h λ_ h=>?_;refine gs h λ_ h=>?_;refine jH<|jP (dG [dF,dF,dF,([0],Rj),dF,dF,dF,dF,dF,dF]) (by kernel_rfl) (by kernel_rfl) ?_;refine gi h (λ_ q52 h=>?_) λ_ q52 h=>?_
   ·refine go h λ_ h=>?_;refine oN (QR.mkF (c:=cI) ([]:LI) [] iI Z Z Z qD qD Z)<|go h λ_ h=>?_;refine lX h λh=>?_;obtain rfl:=QU h;replace h:=congrArg Rk (show _=_ from ks44);exact gf h
   refine go h λ_ h=>?_;exact lE h Re
  refine jM<|lX h λh=>?_
  cases h
  exact ⟨(),(),ks44,trivial,Re⟩
 refine go h λ_ h=>?_;refine tT h (0,0) (λs9 gh=>[(10,Bo s9.2.2.1),(9,hS Rj 1 gh.2 1 s9.2.1.length),(8,I s9.2.2.2),(7,hS Rj 0 gh.1 1 s9.1.length),(6,eL QX.c v1),(0,eL (cL QV.c) p),(1,eL cI before)]) (λs9 gh=>[bE Rj gh.1 1 3 (s9.1.map cI),bE Rj gh.2 1 3 (s9.2.1.map cI)]) λs9 gh ws9 h=>?_;obtain ⟨u11,u12⟩:=gh;refine Rb h (λ_ q13 h=>?_) λ_ q13 h=>?_
 ·refine go h λ_ h=>?_;refine tT h (u11,u12) (λs18 gh=>[(11,I s18.2.2.1),(10,Bo s18.2.2.2.1),(9,hS Rj 1 gh.2 1 s18.2.1.length),(8,I s18.2.2.2.2),(7,hS Rj 0 gh.1 1 s18.1.length),(6,eL QX.c v1),(0,eL (cL QV.c) p),(1,eL cI before)]) (λs18 gh=>[bE Rj gh.1 1 3 (s18.1.map cI),bE Rj gh.2 1 3 (s18.2.1.map cI)]) λs18 gh ws18 h=>?_;obtain ⟨u20,u21⟩:=gh;refine gs h λ_ h=>?_;refine TO.jB h 3 (λs22=>[(29,Bo s22),(11,I s18.2.2.1),(10,Bo s18.2.2.2.1),(9,hS Rj 1 u21 1 s18.2.1.length),(8,I s18.2.2.2.2),(7,hS Rj 0 u20 1 s18.1.length),(6,eL QX.c v1),(0,eL (cL QV.c) p),(1,eL cI before)]) (λs22=>[bE Rj u20 1 3 (s18.1.map cI),bE Rj u21 1 3 (s18.2.1.map cI)]) (λs22 q23 h js22=>?_) (λs22 q23 h js22=>?_) λs22 h=>?_
  ·exact gj h js22
  ·exact gj h js22
  refine gi h (λ_ q24 h=>?_) λ_ q24 h=>?_
  ·refine go h λ_ h=>?_;refine T.jF (G:=Nat×Nat) h (λs25 gh=>True) (λs25 gh=>[(11,I s18.2.2.1),(10,Bo s25.2.2.1),(9,hS Rj 1 gh.2 1 s25.2.1.length),(8,I s25.2.2.2),(7,hS Rj 0 gh.1 1 s25.1.length),(6,eL QX.c v1),(0,eL (cL QV.c) p),(1,eL cI before)]) (λs25 gh=>[bE Rj gh.1 1 3 (s25.1.map cI),bE Rj gh.2 1 3 (s25.2.1.map cI)]) (λs25 gh h hg=>?_) λs25 h=>?_
   ·obtain ⟨u39,u40⟩:=gh;refine go h λ_ h=>?_;obtain rfl:=QU h;exact ⟨(s25.1,s25.2.1,(s18.2.2.1+V),s25.2.2.1,s25.2.2.2),(u39,u40),Z,trivial,Re⟩
   refine go h λ_ h=>?_;refine jH<|jH<|jP (dG [dF,dF,dF,([0],Rj),dF,dF,dF,dF,dF,dF]) (by kernel_rfl) (by kernel_rfl) ?_;refine go h λf h=>?_;obtain ⟨_,g26,_⟩:=f;refine jN Z h (λq28 h=>?_) λq28 h=>?_
   ·refine jM ?_
    cases h
    exact ⟨(u20,u21),trivial,Re⟩
   refine go h λ_ h=>?_;refine oC h (λ_=>zG _ _ _) Z Z Z Z λv29 _ h=>(go h λ_ h=>?_);refine gs h λ_ h=>?_;refine TO.jB h 6 (λs30=>[(57,Bo s30),(12,I v29),(11,I s18.2.2.1),(10,Bo s18.2.2.2.1),(9,hS Rj 1 u21 1 s18.2.1.length),(8,I s18.2.2.2.2),(7,hS Rj 0 u20 1 s18.1.length),(6,eL QX.c v1),(0,eL (cL QV.c) p),(1,eL cI before)]) (λs30=>[bE Rj u20 1 3 (s18.1.map cI),bE Rj u21 1 3 (s18.2.1.map cI)]) (λs30 q31 h js30=>?_) (λs30 q31 h js30=>?_) λs30 h=>?_
   ·refine go h λ_ h=>?_;refine jB h λv32 cv32 h=>gN Z q31 (QR.call Z Z Z (zH before s18.2.2.2.2 v29 cv32) Z) ?_;exact gj h js30
   ·exact gj h js30
   refine gi h (λ_ q33 h=>?_) λ_ q33 h=>?_
   ·refine jM ?_
    cases h
    exact ⟨(u20,u21),trivial,Re⟩
   refine go h λ_ h=>?_;refine T.jU h (λs34=>[(8,I s34),(11,I s18.2.2.1),(9,hS Rj 1 u21 1 s18.2.1.length),(7,hS Rj 0 u20 1 s18.1.length),(6,eL QX.c v1),(0,eL (cL QV.c) p),(1,eL cI before)]) (λs34=>[bE Rj u20 1 3 (s18.1.map cI),bE Rj u21 1 3 (s18.2.1.map cI)]) (λs34 h=>?_) λs34 h=>?_
   ·refine go h λ_ h=>?_;refine oV (EvA.stO (g:=false) (l:=s18.1) (cs:=[I ((J s18.1 s18.2.2.1)+V)]) ((J s18.1 s18.2.2.1)+V) Ra Z Z Z nofun (aQ Z g26) Z Z Z)<|gk h λ_ _ h=>?_;obtain rfl:=QU h;exact ⟨(u20,u21+1),trivial,Ap Z<|QQ Z<|QQ Z<|QQ Z<|QQ Z<|QQ (congrArg (hS Rj 0 u20 1) (by simp:s18.1.length=(s18.1.set s18.2.2.1.toNat<|(J s18.1 s18.2.2.1)+(1:Int)).length))<|QQ Z<|QQ Z<|QQ Z QP⟩
   refine gi h (λ_ q35 h=>?_) λ_ q35 h=>?_
   ·refine go h λ_ h=>?_
    cases h
    exact ⟨(),trivial,Re⟩
   refine go h λ_ h=>?_
   cases h
   exact ⟨(),trivial,Re⟩
  refine jM<|lX h λh=>?_;obtain rfl:=QU h;exact ⟨(s18.1,s18.2.1,s18.2.2.2.1,s18.2.2.2.2),(u20,u21),Z,trivial,Re⟩
 refine jM<|lX h λh=>?_
 cases h
 exact ⟨(u11,u12),trivial,Re⟩
theorem xn (p:List<|List QV) (x:QW) {q} (h:dX p x=Rk q):ax Rn 8 [eL (cL QV.c) p,.agg (QW.c x)] (.tup [eL cI q.1,Bo q.2]):=by
 refine pM func8 Z (by kernel_rfl) Z<|go h λ_ h=>?_;refine eF Z Z Z<|go h λ_ h=>?_;refine gs h λ_ h=>?_;refine oC h (λ_=>yH _ _) Z Z Z Z λv1 _ h=>?_;refine gi h (λ_ q2 h=>?_) λ_ q2 h=>?_
 ·refine go h λ_ h=>?_;refine oN (QR.mkF (c:=cI) ([]:LI) [] iI Z Z Z qD qD Z) ?_;exact gf h
 refine go h λ_ h=>?_;refine oC h (λ_=>yI _ _) Z Z Z Z λv3 _ h=>oC h (λ_=>AJ _ _) Z Z Z Z λv4 _ h=>?_;exact gf h
theorem yJ (name:BA) {q} (h:lc name=Rk q):ax Rn 37 [St name] (St q):=by
 refine pM func37 Z (by kernel_rfl) Z<|go h λ_ h=>?_;refine Rb h (λ_ q1 h=>?_) λ_ q1 h=>?_
 ·exact gz h
 refine gi h (λ_ q2 h=>?_) λ_ q2 h=>?_
 ·exact gz h
 refine gi h (λ_ q3 h=>?_) λ_ q3 h=>?_
 ·exact gz h
 refine gi h (λ_ q4 h=>?_) λ_ q4 h=>?_
 ·exact gz h
 refine gi h (λ_ q5 h=>?_) λ_ q5 h=>?_
 ·exact gz h
 exact gz h
theorem l8 (s:BA) (c:Int) {q} (h:bD s c=some q):ax Tryz.prog 254 [St s,Y c] (I q):=by
 refine pM Tryz.func254 Z (by kernel_rfl) Z<|go h λ_ h=>?_;refine oN (QR.extIndex Z Z Z Z Z Tryz.func277 (by kernel_rfl) (by kernel_rfl) (by kernel_rfl)<|by kernel_rfl) ?_;exact gz h
theorem ig (s:BA) (substr:BA) {q} (h:bz s substr=some q):ax Tryz.prog 209 [St s,St substr] (I q):=by
 refine pM Tryz.func209 Z (by kernel_rfl) Z<|go h λ_ h=>?_;refine gs h λ_ h=>?_;refine TO.jB h 4 (λs1=>[(23,Bo s1),(5,I (substr.size:Int)),(0,St s),(1,St substr)]) (λs1=>[]) (λs1 q2 h js1=>?_) (λs1 q2 h js1=>?_) λs1 h=>?_
 ·exact gj h js1
 ·exact gj h js1
 refine gi h (λ_ q3 h=>?_) λ_ q3 h=>?_
 ·exact gz h
 refine gi h (λ_ q4 h=>?_) λ_ q4 h=>?_
 ·refine go h λ_ h=>?_;refine oC h (λ_=>l8 _ _) Z Z Z Z λv6 _ h=>?_;exact gz h
 refine gi h (λ_ q7 h=>?_) λ_ q7 h=>?_
 ·exact gz h
 cases h
theorem tP (s:BA) (substr:BA) {q} (h:jq s substr=some q):ax Tryz.prog 208 [St s,St substr] (I q):=by
 refine pM Tryz.func208 Z (by kernel_rfl) Z<|go h λ_ h=>?_;refine oC h (λ_=>ig _ _) Z Z Z Z λv1 _ h=>?_;exact gz h
theorem zI (s:BA) (substr:BA) {q} (h:mq s substr=some q):ax Tryz.prog 207 [St s,St substr] (I q):=by
 refine pM Tryz.func207 Z (by kernel_rfl) Z<|go h λ_ h=>?_;refine Rb h (λ_ q1 h=>?_) λ_ q1 h=>?_
 ·cases h
 refine go h λ_ h=>?_;refine Rb h (λ_ q2 h=>?_) λ_ q2 h=>?_
 ·refine go h λ_ h=>?_;refine oN (QR.extCount Z Z Z Z Z Tryz.func253 (by kernel_rfl) (by kernel_rfl) (by kernel_rfl)<|by kernel_rfl) ?_;exact gz h
 refine go h λ_ h=>?_;refine tU h (λs6=>[(5,I s6.1),(0,St s6.2),(1,St substr)]) (λs6=>[]) λs6 ws6 h=>?_;refine go h λ_ h=>?_;refine oC h (λ_=>tP _ _) Z Z Z Z λv8 _ h=>(go h λ_ h=>?_);refine Rb h (λ_ q9 h=>?_) λ_ q9 h=>?_
 ·refine go h λ_ h=>?_;refine lX h λh=>?_;exact gz h
 refine go h λ_ h=>?_;exact lE h Re
end
end Go.Proofs.YtabfkkjdfhbngaaGreatDoor
