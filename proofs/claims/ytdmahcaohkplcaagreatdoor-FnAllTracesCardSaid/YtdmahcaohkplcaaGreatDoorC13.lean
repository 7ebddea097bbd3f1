/- Texts joined. No conditions. -/
import Derived.Test.YtdmahcaohkplcaaGreatDoorC12
namespace Go.Proofs.YtdmahcaohkplcaaGreatDoor
noncomputable section
open _root_.Inhabited renaming default -> Uo
open _root_.Bool renaming true -> Uq
open _root_.Bool renaming false -> Ur
open _root_.Option renaming some -> Us
open _root_.Option renaming none -> Ut
open _root_.Go.Proofs.Tryz
open _root_.Go.Proofs.Tryz renaming prog -> Uv
open _root_.List renaming replicate -> aaw, eq_nil_of_length_eq_zero -> aax
set_option maxHeartbeats 4000000
open Go.RowKit
set_option maxRecDepth 100000
attribute [local irreducible] T TO TF TG TX TS EvA
theorem pOf {P:Program} {g:FuncId} {Un:List AV} {w:Nat} {ty:TypeId} {α:Type} [Inhabited α] {f:α->List AV} {l:List α} (h:bH P g Un []<|G9 w ty (λx=>x) l.length (l.map f) 0 []) (hF:∀ x,(f x).all (isF 9)=Uq):ax P g Un (eL f l):=
 ax.of ⟨h.1,λc vs hH hr ha=>(h.2 c vs hH hr ha).mono λ_ _ ⟨v,c',r0,e,hw,⟨_,_,hg,h2,h3⟩,i,x,u⟩=>⟨v,c',r0,e,hw,by rw [h2,h3];exact Fz.own rfl rfl rfl (λk=>List.length_eq_zero_iff.1<|hg k) hF,i,x,u⟩⟩
theorem iw (x:TW) {q} (h:cQ x=Us q):ax Uv 84 [.agg (TW.c x)] (Bo q):=by
 refine pM func84 Z (by kernel_rfl) Z<|go h λ_ h=>?_;refine eF Z Z Z<|go h λ_ h=>?_;refine TO.jB h 4 (λs1=>[(10,Bo s1)]) (λs1=>[]) (λs1 q2 h js1=>?_) (λs1 q2 h js1=>?_) λs1 h=>?_
 ·exact gj h js1
 ·exact gj h js1
 exact gz h
theorem cF (x:TW) {q} (h:bD x=Us q):ax Uv 85 [.agg (TW.c x)] (Bo q):=by
 refine pM func85 Z (by kernel_rfl) Z<|go h λ_ h=>?_;refine eF Z Z Z<|go h λ_ h=>?_;refine TO.jB h 4 (λs1=>[(10,Bo s1),(1,.fp (TW.c x) 0)]) (λs1=>[]) (λs1 q2 h js1=>?_) (λs1 q2 h js1=>?_) λs1 h=>?_
 ·exact gj h js1
 ·exact gj h js1
 refine go h λ_ h=>?_;refine TO.jB h 4 (λs3=>[(15,Bo s3)]) (λs3=>[]) (λs3 q4 h js3=>?_) (λs3 q4 h js3=>?_) λs3 h=>?_
 ·exact gj h js3
 ·exact gj h js3
 exact gz h
theorem oU (p:List<|List TW) {q} (h:i9 p=Us q):ax Uv 40 [eL (cL TW.c) p] (eL TZ.c q):=by
 refine pM func40 Z (by kernel_rfl) Z<|jI ?_;refine gq h λ_ h=>?_;refine jH<|T.reserve ?_;refine go h λ_ h=>?_;refine T.jF (G:=(Bool×Nat)) h (λs1 gh=>(gh.1=Uq->s1=[])) (λs1 gh=>[(3,hS gh.1 0 gh.2 5 s1.length),(0,eL (cL TW.c) p)]) (λs1 gh=>[bE gh.1 gh.2 5 75 (s1.map TZ.c)]) (λs1 gh h n17=>?_) λs1 h=>?_
 ·obtain ⟨b16,u15⟩:=gh;refine T.jF (G:=(Bool×Nat)) h (λs18 gh=>(gh.1=Uq->s18=[])) (λs18 gh=>[(3,hS gh.1 0 gh.2 5 s18.length)]) (λs18 gh=>[bE gh.1 gh.2 5 75 (s18.map TZ.c)]) (λs18 gh h n59=>?_) λs18 h=>?_
  ·obtain ⟨b58,u57⟩:=gh;exact gf h
  refine go h λ_ h=>?_;refine tL h (b16,u15) (λs24 gh=>(gh.1=Uq->s24.1=[])) (λs24 gh=>[(21,I s24.2),(20,I (p.length:Int)),(19,eL (cL TW.c) p),(3,hS gh.1 0 gh.2 5 s24.1.length)]) (λs24 gh=>[bE gh.1 gh.2 5 75 (s24.1.map TZ.c)]) n17 λs24 gh ws24 h n28=>?_;obtain ⟨b27,u26⟩:=gh;refine go h λ_ h=>?_;refine jH ?_;refine jN Z h (λq29 h=>?_) λq29 h=>?_
  ·refine go h λ_ h=>?_;refine T.jF (G:=(Bool×Nat)) h (λs30 gh=>(gh.1=Uq->s30=[])) (λs30 gh=>[(21,I s24.2),(20,I (p.length:Int)),(19,eL (cL TW.c) p),(3,hS gh.1 0 gh.2 5 s30.length)]) (λs30 gh=>[bE gh.1 gh.2 5 75 (s30.map TZ.c)]) (λs30 gh h n55=>?_) λs30 h=>?_
   ·obtain ⟨b54,u53⟩:=gh;refine go h λ_ h=>?_;obtain rfl:=TV h;exact ⟨(s30,(s24.2+V)),(b54,u53),Z,n55,Um⟩
   refine go h λ_ h=>?_;refine tL h (b27,u26) (λs37 gh=>(gh.1=Uq->s37.1=[])) (λs37 gh=>[(28,I s37.2),(27,I ((J p s24.2).length:Int)),(26,eL TW.c<|J p s24.2),(5,I s24.2),(21,I s24.2),(20,I (p.length:Int)),(19,eL (cL TW.c) p),(3,hS gh.1 0 gh.2 5 s37.1.length)]) (λs37 gh=>[bE gh.1 gh.2 5 75 (s37.1.map TZ.c)]) n28 λs37 gh ws37 h n41=>?_;obtain ⟨b40,u39⟩:=gh;refine go h λ_ h=>?_;refine jH ?_;refine jN Z h (λq42 h=>?_) λq42 h=>?_
   ·refine go h λ_ h=>?_;refine T.jF (G:=(Bool×Nat)) h (λs43 gh=>(gh.1=Uq->s43=[])) (λs43 gh=>[(3,hS gh.1 0 gh.2 5 s43.length),(28,I s37.2),(27,I ((J p s24.2).length:Int)),(26,eL TW.c<|J p s24.2),(5,I s24.2),(21,I s24.2),(20,I (p.length:Int)),(19,eL (cL TW.c) p)]) (λs43 gh=>[bE gh.1 gh.2 5 75 (s43.map TZ.c)]) (λs43 gh h n51=>?_) λs43 h=>?_
    ·obtain ⟨b50,u49⟩:=gh;refine go h λ_ h=>?_;obtain rfl:=TV h;exact ⟨(s43,(s37.2+V)),(b50,u49),Z,n51,Um⟩
    refine gi h (λ_ q45 h=>?_) λ_ q45 h=>?_
    ·refine jP (dG [dF,dF,dF,dF,([1],Ur),([1],Ur),dF,([1],Ur),dF,dF,dF,([0],Uq),dF]) (by kernel_rfl) (by kernel_rfl)<|go h λ_ h=>?_;refine fC h (λ_=>iw _) Z Z Z Z Z λv46 _ h=>(go h λ_ h=>?_);refine fC h (λ_=>cF _) Z Z Z Z Z λv47 _ h=>(go h λ_ h=>?_);refine fN Z (TS.mkF (c:=TZ.c) ([(⟨s24.2,s37.2,(J (J p s24.2) s37.2).Loc,v46,v47⟩:TZ)]:List TZ) [[I s24.2,I s37.2,I ((J (J p s24.2) s37.2).Loc),Bo v46,Bo v47]] K9 Z Z Z qD TZ.isF Z)<|jL h λg48 h=>fW 0 [] Z Z (λG hG=>EvA.app1 (g:=b40) (l:=s37.1) (⟨s24.2,s37.2,(J (J p s24.2) s37.2).Loc,v46,v47⟩:TZ) K9 (by kernel_rfl) Z Z (hG.a0 Z) n41 (cu.fz (l:=([(⟨s24.2,s37.2,(J (J p s24.2) s37.2).Loc,v46,v47⟩:TZ)]:List TZ)) Z qD) g48) ?_;refine go h λ_ h=>?_
     cases h
     exact ⟨(Ur,u39+1),nofun,Um⟩
    refine go h λ_ h=>?_
    cases h
    exact ⟨(b40,u39),n41,Um⟩
   refine jM<|lX h λh=>?_
   cases h
   exact ⟨(b40,u39),n41,Um⟩
  refine jM<|lX h λh=>?_
  cases h
  exact ⟨(b27,u26),n28,Um⟩
 refine go h λ_ h=>?_;refine tL h (Uq,0) (λs7 gh=>(gh.1=Uq->s7.1=[])) (λs7 gh=>[(9,I s7.2),(3,hS gh.1 0 gh.2 5 s7.1.length),(0,eL (cL TW.c) p)]) (λs7 gh=>[bE gh.1 gh.2 5 75 (s7.1.map TZ.c)]) qD λs7 gh ws7 h n11=>?_;obtain ⟨b10,u9⟩:=gh;refine go h λ_ h=>?_;refine jH ?_;refine jN Z h (λq12 h=>?_) λq12 h=>?_
 ·refine go h λ_ h=>?_;refine gs h λ_ h=>?_;refine oN (TS.mkF (c:=TZ.c) ([(⟨(-1:Int),s7.2,s7.2,Ur,Uq⟩:TZ)]:List TZ) [[I (-1:Int),I s7.2,I s7.2,Bo Ur,Bo Uq]] K9 Z Z Z qD TZ.isF Z)<|go h λ_ h=>?_;obtain rfl:=TV h;exact ⟨((s7.1++[(⟨(-1:Int),s7.2,s7.2,Ur,Uq⟩:TZ)]),(s7.2+V)),(Ur,u9+1),Z,nofun,Um⟩
 refine jM<|lX h λh=>?_
 cases h
 exact ⟨(b10,u9),n11,Um⟩
theorem tP (list:List TZ) (loc:Int) {q} (h:fZ list loc=Us q):bH Uv 42 [eL TZ.c list,I loc] [] (G9 1 3 (λx=>x) q.length (q.map cI) 0 []):=by
 refine bH.mkO func42 Z (by kernel_rfl) Z (by kernel_rfl) (e0:=ak [(0,eL TZ.c list),(1,I loc)]) (TR Z<|TR Z TQ) nI (nH qD)<|jI ?_;refine gq h λ_ h=>?_;refine jH<|T.reserve ?_;refine go h λ_ h=>?_;refine T.jF (G:=(Bool×Nat)) h (λs1 gh=>(gh.1=Uq->s1=[])) (λs1 gh=>[(5,hS gh.1 0 gh.2 1 s1.length)]) (λs1 gh=>[bE gh.1 gh.2 1 3 (s1.map cI)]) (λs1 gh h n25=>?_) λs1 h=>?_
 ·obtain ⟨b24,u23⟩:=gh;refine go h λ_ h=>?_;obtain rfl:=TV h
  repeat (first|refine kC ?_|refine kD ?_)
  exact jQ (vs:=[hS b24 0 u23 1 s1.length]) (.cons (.tmp Z) .nil) ⟨0,b24,u23,(uO n25 Z),Z,ownB Z⟩
 refine go h λ_ h=>?_;refine tL h (Uq,0) (λs7 gh=>(gh.1=Uq->s7.1=[])) (λs7 gh=>[(10,I s7.2),(9,I (list.length:Int)),(8,eL TZ.c list),(5,hS gh.1 0 gh.2 1 s7.1.length),(1,I loc)]) (λs7 gh=>[bE gh.1 gh.2 1 3 (s7.1.map cI)]) qD λs7 gh ws7 h n11=>?_;obtain ⟨b10,u9⟩:=gh;refine go h λ_ h=>?_;refine jH ?_;refine jN Z h (λq12 h=>?_) λq12 h=>?_
 ·refine go h λ_ h=>?_;refine T.jF (G:=(Bool×Nat)) h (λs13 gh=>(gh.1=Uq->s13=[])) (λs13 gh=>[(5,hS gh.1 0 gh.2 1 s13.length),(10,I s7.2),(9,I (list.length:Int)),(8,eL TZ.c list),(1,I loc)]) (λs13 gh=>[bE gh.1 gh.2 1 3 (s13.map cI)]) (λs13 gh h n21=>?_) λs13 h=>?_
  ·obtain ⟨b20,u19⟩:=gh;refine go h λ_ h=>?_;obtain rfl:=TV h;exact ⟨(s13,(s7.2+V)),(b20,u19),Z,n21,Um⟩
  refine go h λ_ h=>?_;refine TO.jB h 5 (λs15=>[(22,Bo s15),(6,I s7.2),(10,I s7.2),(9,I (list.length:Int)),(8,eL TZ.c list),(5,hS b10 0 u9 1 s7.1.length),(1,I loc)]) (λs15=>[bE b10 u9 1 3 (s7.1.map cI),Us ⟨0,5,75,[(TZ.c<|J list s7.2)]⟩]) (λs15 q16 h js15=>?_) (λs15 q16 h js15=>?_) λs15 h=>?_
  ·refine go h λ_ h=>?_;refine gA Z q16 (lh (I<|(J list s7.2).Loc) Uk Z Z Z) ?_;exact gj h js15
  ·exact gj h js15
  refine gi h (λ_ q17 h=>?_) λ_ q17 h=>?_
  ·refine gk h λ_ _ h=>?_
   cases h
   exact ⟨(Ur,u9+1),nofun,Um⟩
  refine go h λ_ h=>?_
  cases h
  exact ⟨(b10,u9),n11,Um⟩
 refine jM<|lX h λh=>?_
 cases h
 exact ⟨(b10,u9),n11,Um⟩
theorem A9 (list:List TZ) (loc:Int) {q} (h:fZ list loc=Us q):ax Uv 42 [eL TZ.c list,I loc] (eL cI q):=pOf (tP list loc h) λ_=>rfl
theorem tQ (k_:Int) (a1:Int) {q} (h:iC k_ a1=Us q):ax Uv 43 [I k_,.fp (cI a1) 0] (Bo q):=by
 refine pM func43 Z (by kernel_rfl) Z ?_;exact gz h
theorem iS (s:LI) (f0:Int) {q} (h:bF s f0=Us q):ax Uv 86 [eL cI s,.fn (.func 43) [.fp (cI f0) 0]] (I q):=by
 refine pM func86 Z (by kernel_rfl) Z<|go h λ_ h=>?_;obtain ⟨Ks1,es1,ws1,h,ks1⟩:=sumL h;refine T.join (S:=Unit) (G:=Unit) (λs1=>Ks1 s1=Us q) (λs1 gh=>True) (λs1 gh=>[]) (λs1 gh=>[]) (λs1 gh h hg=>?_) ?_
 ·clear ks1;subst es1;exact gz h
 refine go h λ_ h=>?_;refine tU h (λs4=>[(8,I s4),(7,I (s.length:Int)),(0,eL cI s),(1,.fn (.func 43) [.fp (cI f0) 0])]) (λs4=>[]) λs4 ws4 h=>?_;refine go h λ_ h=>?_;refine jH ?_;refine jN Z h (λq6 h=>?_) λq6 h=>?_
 ·refine go h λ_ h=>?_;refine gs h λ_ h=>?_;refine oC h (λ_=>tQ _ _) Z Z Z Z λv8 _ h=>?_;refine gi h (λ_ q9 h=>?_) λ_ q9 h=>?_
  ·refine go h λ_ h=>?_;refine lX h λh=>?_;obtain rfl:=TV h;replace h:=congrArg Us (show _=_ from ks1);exact gz h
  refine go h λ_ h=>?_;exact lE h Um
 refine jM<|lX h λh=>?_
 cases h
 exact ⟨(),(),ks1,trivial,Um⟩
theorem ig (s:LI) (EL:Int) (gw:Bool) (aB:Nat) (hgw:gw=Uq->s=[]) {q} (h:aX s EL=Us q):bH Uv 41 [hS gw 0 aB 1 s.length,.fn (.func 43) [.fp (cI EL) 0]] [bE gw aB 1 3 (s.map cI)] (G9 1 3 (λx=>x) q.length (q.map cI) 0 []):=by
 refine bH.mkS func41 Z (by kernel_rfl) Z (by kernel_rfl) (e0:=ak [(0,hS gw 0 aB 1 s.length),(1,.fn (.func 43) [.fp (cI EL) 0])]) (TR Z<|TR Z TQ)<|go h λ_ h=>?_;refine jB h λv1 cv1 h=>oA (EvA.callT Z Z (iS s EL cv1) (.cons (Fz.own (g:=gw) (ver:=aB) (l:=s) Z Z Z hgw qD)<|.cons (qC Z) .nil) Z)<|go h λ_ h=>?_;refine Ul h (λ_ q2 h=>?_) λ_ q2 h=>?_
 ·refine go h λ_ h=>?_;obtain rfl:=TV h
  repeat (first|refine kC ?_|refine kD ?_)
  exact ⟨ak [(4,hS gw 0 aB 1 s.length)],[bE gw aB 1 3 (s.map cI)],Um,jQ (vs:=[hS gw 0 aB 1 s.length]) (.cons (.tmp Z) .nil) ⟨gw,aB,(uO hgw Z),Z,Z⟩⟩
 refine go h λ_ h=>?_;refine T.jF (G:=(Bool×Nat)) h (λs3 gh=>(gh.1=Uq->s3.1=[])) (λs3 gh=>[(5,I s3.2),(0,hS gh.1 0 gh.2 1 s3.1.length)]) (λs3 gh=>[bE gh.1 gh.2 1 3 (s3.1.map cI)]) (λs3 gh h n26=>?_) λs3 h=>?_
 ·obtain ⟨b25,u24⟩:=gh;refine go h λ_ h=>?_;refine jD h λg27 h=>?_;obtain rfl:=CE n26 rfl g27;refine jD h λg28 h=>oN (TS.slhs Tryz.underlying31 Uk (l:=s3.2) (h:=(s3.1.length:Int)) Z (.yes Z) .no g28)<|oV (EvA.clearO (l:=s3.1) lK zrE Z Z<|Hd (l:=s3.1) g28 Z) ?_;refine go h λ_ h=>?_;refine jD h λg29 h=>oA (EvA.cutO (l:=(cpy s3.1 (0+s3.2.toNat) (aaw ((s3.1.length:Int).toNat-s3.2.toNat) (Uo:Int))<|(s3.1.length:Int).toNat-s3.2.toNat)) (zl:=(0:Int)) (zh:=s3.2) (TS.slhs Tryz.underlying31 Uk (l:=(0:Int)) (h:=s3.2) Z .no (.yes Z) g29) Z (by simp [vA]) g29)<|go h λ_ h=>?_;obtain rfl:=TV h
  repeat (first|refine kC ?_|refine kD ?_)
  exact ⟨ak [(4,hS Ur 0 (u24+1) 1<|(((cpy s3.1 (0+s3.2.toNat) (aaw ((s3.1.length:Int).toNat-s3.2.toNat) (Uo:Int))<|(s3.1.length:Int).toNat-s3.2.toNat).drop U.toNat).take<|s3.2.toNat-U.toNat).length)],[bE Ur (u24+1) 1 3 ((((cpy s3.1 (0+s3.2.toNat) (aaw ((s3.1.length:Int).toNat-s3.2.toNat) (Uo:Int))<|(s3.1.length:Int).toNat-s3.2.toNat).drop U.toNat).take<|s3.2.toNat-U.toNat).map cI)],Um,jQ (vs:=[hS Ur 0 (u24+1) 1 ((((cpy s3.1 (0+s3.2.toNat) (aaw ((s3.1.length:Int).toNat-s3.2.toNat) (Uo:Int))<|(s3.1.length:Int).toNat-s3.2.toNat).drop U.toNat).take<|s3.2.toNat-U.toNat).length)]) (.cons (.tmp Z) .nil) ⟨Ur,u24+1,nofun,Z,Z⟩⟩
 refine go h λ_ h=>?_;refine tL h (gw,aB) (λs10 gh=>(gh.1=Uq->s10.1=[])) (λs10 gh=>[(6,I s10.2.1),(5,I s10.2.2),(0,hS gh.1 0 gh.2 1 s10.1.length),(1,.fn (.func 43) [.fp (cI EL) 0])]) (λs10 gh=>[bE gh.1 gh.2 1 3 (s10.1.map cI)]) hgw λs10 gh ws10 h n14=>?_;obtain ⟨b13,u12⟩:=gh;refine Ul h (λ_ q15 h=>?_) λ_ q15 h=>?_
 ·refine go h λ_ h=>?_;refine tJ h (λs16 gh=>[(5,I s16.2),(6,I s10.2.1),(0,hS Ur 0 gh 1 s16.1.length),(1,.fn (.func 43) [.fp (cI EL) 0])]) (λs16 gh=>[bE Ur gh 1 3 (s16.1.map cI)]) (λs16 u22 h=>?_) λs16 h=>?_
  ·refine go h λ_ h=>?_;obtain rfl:=TV h;exact ⟨(s16.1,(s10.2.1+V),s16.2),(Ur,u22),Z,nofun,Um⟩
  refine go h λ_ h=>?_;refine jD h λg17 h=>?_;obtain rfl:=CE n14 rfl g17;refine go h λ_ h=>?_;refine oC h (λ_=>tQ _ _) Z Z Z Z λv18 _ h=>?_;refine gi h (λ_ q19 h=>?_) λ_ q19 h=>?_
  ·refine go h λf h=>?_;obtain ⟨g20,_⟩:=f;refine oV (EvA.stO (g:=false) (l:=s10.1) (cs:=[I (J s10.1 s10.2.1)]) (J s10.1 s10.2.1) Uk Z Z Z nofun (aG Z g20) Z Z Z)<|go h λ_ h=>?_;obtain rfl:=TV h;exact ⟨u12,trivial,BB Z<|TR Z<|TR Z<|TR (congrArg (hS Ur 0 u12 1) (by simp:s10.1.length=(s10.1.set s10.2.2.toNat<|J s10.1 s10.2.1).length))<|TR Z TQ⟩
  refine go h λ_ h=>?_
  cases h
  exact ⟨u12,trivial,Um⟩
 refine jM<|lX h λh=>?_
 cases h
 exact ⟨(b13,u12),n14,Um⟩
theorem dO (s:LI) {q} (h:aJ s=Us q):bH Uv 88 [eL cI s] [] (G9 1 3 (λx=>x) q.length (q.map cI) 0 []):=by
 refine bH.mkO func88 Z (by kernel_rfl) Z (by kernel_rfl) (e0:=ak [(0,eL cI s)]) (TR Z TQ) nI (nH qD)<|go h λ_ h=>?_;refine gs h λ_ h=>?_;refine Tf Ur Tryz.underlying31 Z Z (λz1=>?_) ?_
 ·replace h:=(F8 h).1 (by rw [z1];rfl);refine go h λ_ h=>?_;refine T.cond Z (λ_=>?_) λq=>absurd (q.symm.trans Z) (by decide);refine go h λ_ h=>?_;obtain rfl:=TV h
  repeat (first|refine kC ?_|refine kD ?_)
  exact jQ (vs:=[.nil]) (.cons (.tmp Z) .nil) ⟨0,Uq,0,λ_=>Z,Z,nofun⟩
 replace h:=(F8 h).2;refine go h λ_ h=>?_;refine T.cond Z (λq=>absurd (q.symm.trans Z)<|by decide) λ_=>?_;refine go h λ_ h=>?_;refine oA (EvA.mkO (c:=cI) ([]:LI) [] lK Z Z Z qD Z Z)<|go h λ_ h=>?_;obtain rfl:=TV h
 repeat (first|refine kC ?_|refine kD ?_)
 exact jQ (vs:=[hS Ur 0 (0+1) 1 ((([]:LI)++s).length)]) (.cons (.tmp Z) .nil) ⟨0,Ur,0+1,nofun,Z,ownB Z⟩
theorem m8 (s:LI) {q} (h:aJ s=Us q):ax Uv 88 [eL cI s] (eL cI q):=pOf (dO s h) λ_=>rfl
theorem CV:∀ (nf:Nat) (writes:LI) {q} (h:kE nf writes=Us q),ax Uv 44 [eL cI writes] (eL (cL cI) q):=by
 intro nf
 induction nf with
 | zero=>intros;rename_i h;cases h
 | succ nf ih=>
  intro writes q h;replace h:iD (kE nf) writes=Us q:=h;refine pM func44 Z (by kernel_rfl) Z<|go h λ_ h=>?_;refine Ul h (λ_ q1 h=>?_) λ_ q1 h=>?_
  ·refine go h λ_ h=>?_;refine oN (TS.mkF0 (f:=cI) vo Z Z Z) ?_;exact gz h
  refine jG<|jH<|T.reserve ?_;refine go h λ_ h=>?_;refine T.jF (G:=(Bool×Nat)) h (λs2 gh=>(gh.1=Uq->s2=[])) (λs2 gh=>[(3,hS gh.1 0 gh.2 1 s2.length)]) (λs2 gh=>[bE gh.1 gh.2 1 31 (s2.map<|cL cI)]) (λs2 gh h n47=>?_) λs2 h=>?_
  ·obtain ⟨b46,u45⟩:=gh;refine go h λ_ h=>?_;obtain rfl:=TV h
   repeat (first|refine kC ?_|refine kD ?_)
   exact jQ (vs:=[hS b46 0 u45 1 s2.length]) (.cons (.tmp Z) .nil)<|Fz.own (g:=b46) (ver:=u45) (l:=s2) Z Z Z n47 qD
  refine go h λ_ h=>?_;refine tL h (Uq,0) (λs8 gh=>(gh.1=Uq->s8.1=[])) (λs8 gh=>[(14,I s8.2),(13,I (writes.length:Int)),(12,eL cI writes),(3,hS gh.1 0 gh.2 1 s8.1.length),(0,eL cI writes)]) (λs8 gh=>[bE gh.1 gh.2 1 31 (s8.1.map<|cL cI)]) qD λs8 gh ws8 h n12=>?_;let d0:=writes.getD s8.2.toNat Uo;obtain ⟨b11,u10⟩:=gh;refine go h λ_ h=>?_;refine jH ?_;refine jN Z h (λq13 h=>?_) λq13 h=>?_
  ·refine go h λ_ h=>?_;refine T.jF (G:=(Bool×Nat)) h (λs14 gh=>(gh.1=Uq->s14=[])) (λs14 gh=>[(14,I s8.2),(13,I (writes.length:Int)),(12,eL cI writes),(3,hS gh.1 0 gh.2 1 s14.length),(0,eL cI writes)]) (λs14 gh=>[bE gh.1 gh.2 1 31 (s14.map<|cL cI)]) (λs14 gh h n43=>?_) λs14 h=>?_
   ·obtain ⟨b42,u41⟩:=gh;refine go h λ_ h=>?_;obtain rfl:=TV h;exact ⟨(s14,(s8.2+V)),(b42,u41),Z,n43,Um⟩
   refine go h λ_ h=>?_;refine jB h λv16 cv16 h=>?_;refine oG Z Z Z ((dO writes cv16).own Z (nH qD) nI 1 Z) λg17 v18 n19=>?_;refine go h λ_ h=>?_;refine jB h λv21 cv21 h=>?_;refine oGW Z Z (B0 v16 s8.2 (s8.2+V) g17 v18 (λx=>aax<|n19 x) cv21) Z (.cons (bh Z)<|.cons (.pF Z)<|.cons (.pF Z) .nil) (nH qD) (nH qD) nI λg22 v23 n24=>?_;refine TO.cut (e0:=ak [(24,eL cI v21),(5,I d0),(14,I s8.2),(13,I (writes.length:Int)),(12,eL cI writes),(3,hS b11 0 u10 1 s8.1.length),(0,eL cI writes)]) (H0:=[bE b11 u10 1 31 (s8.1.map<|cL cI)]) (rI Z (.cons (.list (g:=b11) (ver:=u10) (l:=s8.1) qD) .nil)<|ai (.fz<|Fz.own (g:=g22) (ver:=v23) (l:=v21) Z Z Z (λx=>aax<|n24 x) qD)<|ai (.fz<|qC Z)<|ai (.fz<|qC Z)<|ai (.fz<|qC Z)<|ai (.fz<|qC Z)<|ai (.hS (g:=b11) (b:=0) (ver:=u10) (s:=1) (n:=s8.1.length) Z)<|ai (.fz<|qC Z) aY)<|oC h (λ_=>ih _) Z Z Z Z λv25 _ h=>?_;refine go h λ_ h=>?_;refine tL h (b11,u10) (λs31 gh=>(gh.1=Uq->s31.1=[])) (λs31 gh=>[(27,I s31.2),(26,I (v25.length:Int)),(25,eL (cL cI) v25),(5,I d0),(14,I s8.2),(13,I (writes.length:Int)),(12,eL cI writes),(3,hS gh.1 0 gh.2 1 s31.1.length),(0,eL cI writes)]) (λs31 gh=>[bE gh.1 gh.2 1 31 (s31.1.map<|cL cI)]) n12 λs31 gh ws31 h n35=>?_;obtain ⟨b34,u33⟩:=gh;refine go h λ_ h=>?_;refine jH ?_;refine jN Z h (λq36 h=>?_) λq36 h=>?_
   ·refine go h λ_ h=>?_;refine gs h λ_ h=>?_;refine oA (EvA.mkO (c:=cI) ([d0]:LI) [[I d0]] lK Z Z Z qD Z Z)<|go h λ_ h=>?_;refine oA (EvA.mkR [[hS Ur 1 (0+1) 1 ((([d0]:LI)++(J v25 s31.2)).length)]] vo Z Z Z Z)<|jL h λg39 h=>oA (EvA.appR (g:=b34) (rows:=s31.1.map<|cL cI) (rows':=s31.1.map (cL cI)++[[hS Ur 1 (0+1) 1 ((([d0]:LI)++(J v25 s31.2)).length)]]) (n':=s31.1.length+1) vo (by kernel_rfl) Z Z (by simp) (λq=>by first | (rw [n35 q];rfl) | (cases q)) (cu.raw (rows:=[[hS Ur 1 (0+1) 1 ((([d0]:LI)++(J v25 s31.2)).length)]]) Z Z Z) g39 Z Z) ?_;refine gq h λ_ h=>?_;refine T.cut (e0:=ak [(3,hS Ur 0 (u33+1) 1<|(s31.1++[(([d0]:LI)++(J v25 s31.2))]).length),(27,I s31.2),(26,I (v25.length:Int)),(25,eL (cL cI) v25),(5,I d0),(14,I s8.2),(13,I (writes.length:Int)),(12,eL cI writes),(0,eL cI writes)]) (H0:=[bE Ur (u33+1) 1 31 ((s31.1++[(([d0]:LI)++(J v25 s31.2))]).map<|cL cI)]) (rI Z (.cons (.snoc qD<|.cons (.cons (.fz<|Fz.own (g:=false) (ver:=0+1) (l:=(([d0]:LI)++(J v25 s31.2))) Z Z Z nofun qD) .nil) .nil) .nil)<|ai (.eqv (congrArg (hS Ur 0 (u33+1) 1) (by simp:(s31.1.length+1)=(s31.1++[(([d0]:LI)++(J v25 s31.2))]).length))<|.hS (g:=false) (b:=0) (ver:=u33+1) (s:=1) (n:=(s31.1++[(([d0]:LI)++(J v25 s31.2))]).length) Z)<|ai (.fz<|qC Z)<|ai (.fz<|qC Z)<|ai (.fz<|qC Z)<|ai (.fz<|qC Z)<|ai (.fz<|qC Z)<|ai (.fz<|qC Z)<|ai (.fz<|qC Z)<|ai (.fz<|qC Z) aY)<|go h λ_ h=>?_;obtain rfl:=TV h;exact ⟨((s31.1++[(([d0]:LI)++(J v25 s31.2))]),(s31.2+V)),(Ur,u33+1),Z,nofun,Um⟩
   refine jM<|lX h λh=>?_
   cases h
   exact ⟨(b34,u33),n35,Um⟩
  refine jM<|lX h λh=>?_
  cases h
  exact ⟨(b11,u10),n12,Um⟩
theorem Ez (writes:LI) {q} (h:wD writes=Us q):ax Uv 44 [eL cI writes] (eL (cL cI) q):=by
 obtain ⟨nf,h⟩:=qP h;exact CV nf writes h
theorem yX (choices:LL) {q} (h:ko choices=Us q):ax Uv 45 [eL (cL cI) choices] (eL (cL cI) q):=by
 refine pM func45 Z (by kernel_rfl) Z<|go h λ_ h=>?_;refine oN (TS.mkF0 (f:=cI) vo Z Z Z)<|go h λ_ h=>?_;refine T.jU h (λs1=>[(3,eL (cL cI) s1)]) (λs1=>[]) (λs1 h=>?_) λs1 h=>?_
 ·exact gz h
 refine go h λ_ h=>?_;refine tU h (λs4=>[(14,I s4.1),(13,I (choices.length:Int)),(12,eL (cL cI) choices),(3,eL (cL cI) s4.2)]) (λs4=>[]) λs4 ws4 h=>?_;let d0:=choices.getD s4.1.toNat Uo;refine go h λ_ h=>?_;refine jH ?_;refine jN Z h (λq6 h=>?_) λq6 h=>?_
 ·refine go h λ_ h=>?_;refine T.jU h (λs7=>[(3,eL (cL cI) s7),(14,I s4.1),(13,I (choices.length:Int)),(12,eL (cL cI) choices)]) (λs7=>[]) (λs7 h=>?_) λs7 h=>?_
  ·refine go h λ_ h=>?_;exact lE h Um
  refine jE<|jI ?_;refine gq h λ_ h=>?_;refine jH<|T.reserve ?_;refine go h λ_ h=>?_;refine T.jF (G:=(Bool×Nat)) h (λs9 gh=>(gh.1=Uq->s9=[])) (λs9 gh=>[(6,hS gh.1 0 gh.2 1 s9.length),(14,I s4.1),(13,I (choices.length:Int)),(12,eL (cL cI) choices)]) (λs9 gh=>[bE gh.1 gh.2 1 31 (s9.map<|cL cI)]) (λs9 gh h n48=>?_) λs9 h=>?_
  ·obtain ⟨b47,u46⟩:=gh;refine go h λ_ h=>?_;obtain rfl:=TV h;exact ⟨(),trivial,rI Z .nil<|ai (.fz<|Fz.own (g:=b47) (ver:=u46) (l:=s9) Z Z Z n48 qD)<|ai (.fz<|qC Z)<|ai (.fz<|qC Z)<|ai (.fz<|qC Z) aY⟩
  refine go h λ_ h=>?_;refine tL h (Uq,0) (λs15 gh=>(gh.1=Uq->s15.1=[])) (λs15 gh=>[(20,I s15.2),(19,I (s4.2.length:Int)),(18,eL (cL cI) s4.2),(6,hS gh.1 0 gh.2 1 s15.1.length),(5,eL cI d0),(14,I s4.1),(13,I (choices.length:Int)),(12,eL (cL cI) choices)]) (λs15 gh=>[bE gh.1 gh.2 1 31 (s15.1.map<|cL cI)]) qD λs15 gh ws15 h n19=>?_;obtain ⟨b18,u17⟩:=gh;refine go h λ_ h=>?_;refine jH ?_;refine jN Z h (λq20 h=>?_) λq20 h=>?_
  ·refine go h λ_ h=>?_;refine T.jF (G:=(Bool×Nat)) h (λs21 gh=>(gh.1=Uq->s21=[])) (λs21 gh=>[(20,I s15.2),(19,I (s4.2.length:Int)),(18,eL (cL cI) s4.2),(6,hS gh.1 0 gh.2 1 s21.length),(5,eL cI d0),(14,I s4.1),(13,I (choices.length:Int)),(12,eL (cL cI) choices)]) (λs21 gh=>[bE gh.1 gh.2 1 31 (s21.map<|cL cI)]) (λs21 gh h n44=>?_) λs21 h=>?_
   ·obtain ⟨b43,u42⟩:=gh;refine go h λ_ h=>?_;obtain rfl:=TV h;exact ⟨(s21,(s15.2+V)),(b43,u42),Z,n44,Um⟩
   refine go h λ_ h=>?_;refine tL h (b18,u17) (λs28 gh=>(gh.1=Uq->s28.1=[])) (λs28 gh=>[(26,I s28.2),(25,I (d0.length:Int)),(24,eL cI d0),(8,eL cI<|J s4.2 s15.2),(20,I s15.2),(19,I (s4.2.length:Int)),(18,eL (cL cI) s4.2),(6,hS gh.1 0 gh.2 1 s28.1.length),(5,eL cI d0),(14,I s4.1),(13,I (choices.length:Int)),(12,eL (cL cI) choices)]) (λs28 gh=>[bE gh.1 gh.2 1 31 (s28.1.map<|cL cI)]) n19 λs28 gh ws28 h n32=>?_;obtain ⟨b31,u30⟩:=gh;refine go h λ_ h=>?_;refine jH ?_;refine jN Z h (λq33 h=>?_) λq33 h=>?_
   ·refine go h λ_ h=>?_;refine gs h λ_ h=>?_;refine jB h λv35 cv35 h=>?_;refine oG Z Z Z ((dO (J s4.2 s15.2) cv35).own Z (nH qD) nI 1 Z) λg36 v37 n38=>?_;refine gk h λ_ _ h=>?_;refine oA (EvA.mkR [[hS Ur 1 (v37+1) 1 ((v35++[(J d0 s28.2)]).length)]] vo Z Z Z Z)<|jL h λg40 h=>oA (EvA.appR (g:=b31) (rows:=s28.1.map<|cL cI) (rows':=s28.1.map (cL cI)++[[hS Ur 1 (v37+1) 1 ((v35++[(J d0 s28.2)]).length)]]) (n':=s28.1.length+1) vo (by kernel_rfl) Z Z (by simp) (λq=>by first | (rw [n32 q];rfl) | (cases q)) (cu.raw (rows:=[[hS Ur 1 (v37+1) 1 ((v35++[(J d0 s28.2)]).length)]]) Z Z Z) g40 Z Z) ?_;refine gq h λ_ h=>?_;refine T.cut (e0:=ak [(6,hS Ur 0 (u30+1) 1<|(s28.1++[(v35++[(J d0 s28.2)])]).length),(26,I s28.2),(25,I (d0.length:Int)),(24,eL cI d0),(8,eL cI<|J s4.2 s15.2),(20,I s15.2),(19,I (s4.2.length:Int)),(18,eL (cL cI) s4.2),(5,eL cI d0),(14,I s4.1),(13,I (choices.length:Int)),(12,eL (cL cI) choices)]) (H0:=[bE Ur (u30+1) 1 31 ((s28.1++[(v35++[(J d0 s28.2)])]).map<|cL cI)]) (rI Z (.cons (.snoc qD<|.cons (.cons (.fz<|Fz.own (g:=false) (ver:=v37+1) (l:=(v35++[(J d0 s28.2)])) Z Z Z nofun qD) .nil) .nil) .nil)<|ai (.eqv (congrArg (hS Ur 0 (u30+1) 1) (by simp:(s28.1.length+1)=(s28.1++[(v35++[(J d0 s28.2)])]).length))<|.hS (g:=false) (b:=0) (ver:=u30+1) (s:=1) (n:=(s28.1++[(v35++[(J d0 s28.2)])]).length) Z)<|ai (.fz<|qC Z)<|ai (.fz<|qC Z)<|ai (.fz<|qC Z)<|ai (.fz<|qC Z)<|ai (.fz<|qC Z)<|ai (.fz<|qC Z)<|ai (.fz<|qC Z)<|ai (.fz<|qC Z)<|ai (.fz<|qC Z)<|ai (.fz<|qC Z)<|ai (.fz<|qC Z) aY)<|go h λ_ h=>?_;obtain rfl:=TV h;exact ⟨((s28.1++[(v35++[(J d0 s28.2)])]),(s28.2+V)),(Ur,u30+1),Z,nofun,Um⟩
   refine jM<|lX h λh=>?_
   cases h
   exact ⟨(b31,u30),n32,Um⟩
  refine jM<|lX h λh=>?_
  cases h
  exact ⟨(b18,u17),n19,Um⟩
 refine jM<|lX h λh=>?_
 cases h
 exact ⟨(),trivial,Um⟩
theorem Ba (s:LL) {q} (h:nK s=Us q):bH Uv 89 [eL (cL cI) s] [] (G9 1 31 (λx=>x) q.length (q.map<|cL cI) 0 []):=by
 refine bH.mkO func89 Z (by kernel_rfl) Z (by kernel_rfl) (e0:=ak [(0,eL (cL cI) s)]) (TR Z TQ) nI (nH qD)<|go h λ_ h=>?_;refine gs h λ_ h=>?_;refine Tf Ur Tryz.underlying25 Z Z (λz1=>?_) ?_
 ·replace h:=(F8 h).1 (by rw [z1];rfl);refine go h λ_ h=>?_;refine T.cond Z (λ_=>?_) λq=>absurd (q.symm.trans Z) (by decide);refine go h λ_ h=>?_;obtain rfl:=TV h
  repeat (first|refine kC ?_|refine kD ?_)
  exact jQ (vs:=[.nil]) (.cons (.tmp Z) .nil) ⟨0,Uq,0,λ_=>Z,Z,nofun⟩
 replace h:=(F8 h).2;refine go h λ_ h=>?_;refine T.cond Z (λq=>absurd (q.symm.trans Z)<|by decide) λ_=>?_;refine go h λ_ h=>?_;refine oA (EvA.mkO (c:=(cL cI)) ([]:LL) [] vo Z Z Z qD Z Z)<|go h λ_ h=>?_;obtain rfl:=TV h
 repeat (first|refine kC ?_|refine kD ?_)
 exact jQ (vs:=[hS Ur 0 (0+1) 1 ((([]:LL)++s).length)]) (.cons (.tmp Z) .nil) ⟨0,Ur,0+1,nofun,Z,ownB Z⟩
theorem Ca (choices:List<|LL) {q} (h:kF choices=Us q):ax Uv 46 [eL (cL<|cL cI) choices] (eL (cL<|cL cI) q):=by
 refine pM func46 Z (by kernel_rfl) Z<|go h λ_ h=>?_;refine oN (TS.mkF0 (f:=(cL cI)) PH Z Z Z)<|go h λ_ h=>?_;refine T.jU h (λs1=>[(3,eL (cL<|cL cI) s1)]) (λs1=>[]) (λs1 h=>?_) λs1 h=>?_
 ·exact gz h
 refine go h λ_ h=>?_;refine tU h (λs4=>[(14,I s4.1),(13,I (choices.length:Int)),(12,eL (cL<|cL cI) choices),(3,eL (cL<|cL cI) s4.2)]) (λs4=>[]) λs4 ws4 h=>?_;let d0:=choices.getD s4.1.toNat Uo;refine go h λ_ h=>?_;refine jH ?_;refine jN Z h (λq6 h=>?_) λq6 h=>?_
 ·refine go h λ_ h=>?_;refine T.jU h (λs7=>[(3,eL (cL<|cL cI) s7),(14,I s4.1),(13,I (choices.length:Int)),(12,eL (cL<|cL cI) choices)]) (λs7=>[]) (λs7 h=>?_) λs7 h=>?_
  ·refine go h λ_ h=>?_;exact lE h Um
  refine jE<|jI ?_;refine gq h λ_ h=>?_;refine jH<|T.reserve ?_;refine go h λ_ h=>?_;refine T.jF (G:=(Bool×Nat)) h (λs9 gh=>(gh.1=Uq->s9=[])) (λs9 gh=>[(6,hS gh.1 0 gh.2 1 s9.length),(14,I s4.1),(13,I (choices.length:Int)),(12,eL (cL<|cL cI) choices)]) (λs9 gh=>[bE gh.1 gh.2 1 25 (s9.map<|cL<|cL cI)]) (λs9 gh h n48=>?_) λs9 h=>?_
  ·obtain ⟨b47,u46⟩:=gh;refine go h λ_ h=>?_;obtain rfl:=TV h;exact ⟨(),trivial,rI Z .nil<|ai (.fz<|Fz.own (g:=b47) (ver:=u46) (l:=s9) Z Z Z n48 qD)<|ai (.fz<|qC Z)<|ai (.fz<|qC Z)<|ai (.fz<|qC Z) aY⟩
  refine go h λ_ h=>?_;refine tL h (Uq,0) (λs15 gh=>(gh.1=Uq->s15.1=[])) (λs15 gh=>[(20,I s15.2),(19,I (s4.2.length:Int)),(18,eL (cL<|cL cI) s4.2),(6,hS gh.1 0 gh.2 1 s15.1.length),(5,eL (cL cI) d0),(14,I s4.1),(13,I (choices.length:Int)),(12,eL (cL<|cL cI) choices)]) (λs15 gh=>[bE gh.1 gh.2 1 25 (s15.1.map<|cL<|cL cI)]) qD λs15 gh ws15 h n19=>?_;obtain ⟨b18,u17⟩:=gh;refine go h λ_ h=>?_;refine jH ?_;refine jN Z h (λq20 h=>?_) λq20 h=>?_
  ·refine go h λ_ h=>?_;refine T.jF (G:=(Bool×Nat)) h (λs21 gh=>(gh.1=Uq->s21=[])) (λs21 gh=>[(20,I s15.2),(19,I (s4.2.length:Int)),(18,eL (cL<|cL cI) s4.2),(6,hS gh.1 0 gh.2 1 s21.length),(5,eL (cL cI) d0),(14,I s4.1),(13,I (choices.length:Int)),(12,eL (cL<|cL cI) choices)]) (λs21 gh=>[bE gh.1 gh.2 1 25 (s21.map<|cL<|cL cI)]) (λs21 gh h n44=>?_) λs21 h=>?_
   ·obtain ⟨b43,u42⟩:=gh;refine go h λ_ h=>?_;obtain rfl:=TV h;exact ⟨(s21,(s15.2+V)),(b43,u42),Z,n44,Um⟩
   refine go h λ_ h=>?_;refine tL h (b18,u17) (λs28 gh=>(gh.1=Uq->s28.1=[])) (λs28 gh=>[(26,I s28.2),(25,I (d0.length:Int)),(24,eL (cL cI) d0),(8,eL (cL cI)<|J s4.2 s15.2),(20,I s15.2),(19,I (s4.2.length:Int)),(18,eL (cL<|cL cI) s4.2),(6,hS gh.1 0 gh.2 1 s28.1.length),(5,eL (cL cI) d0),(14,I s4.1),(13,I (choices.length:Int)),(12,eL (cL<|cL cI) choices)]) (λs28 gh=>[bE gh.1 gh.2 1 25 (s28.1.map<|cL<|cL cI)]) n19 λs28 gh ws28 h n32=>?_;obtain ⟨b31,u30⟩:=gh;refine go h λ_ h=>?_;refine jH ?_;refine jN Z h (λq33 h=>?_) λq33 h=>?_
   ·refine go h λ_ h=>?_;refine gs h λ_ h=>?_;refine jB h λv35 cv35 h=>?_;refine oG Z Z Z ((Ba (J s4.2 s15.2) cv35).own Z (nH qD) nI 1 Z) λg36 v37 n38=>?_;refine gk h λ_ _ h=>?_;refine oA (EvA.mkR [[hS Ur 1 (v37+1) 1 ((v35++[(J d0 s28.2)]).length)]] PH Z Z Z Z)<|jL h λg40 h=>oA (EvA.appR (g:=b31) (rows:=s28.1.map<|cL<|cL cI) (rows':=s28.1.map (cL<|cL cI)++[[hS Ur 1 (v37+1) 1 ((v35++[(J d0 s28.2)]).length)]]) (n':=s28.1.length+1) PH (by kernel_rfl) Z Z (by simp) (λq=>by first | (rw [n32 q];rfl) | (cases q)) (cu.raw (rows:=[[hS Ur 1 (v37+1) 1 ((v35++[(J d0 s28.2)]).length)]]) Z Z Z) g40 Z Z) ?_;refine gq h λ_ h=>?_;refine T.cut (e0:=ak [(6,hS Ur 0 (u30+1) 1<|(s28.1++[(v35++[(J d0 s28.2)])]).length),(26,I s28.2),(25,I (d0.length:Int)),(24,eL (cL cI) d0),(8,eL (cL cI)<|J s4.2 s15.2),(20,I s15.2),(19,I (s4.2.length:Int)),(18,eL (cL<|cL cI) s4.2),(5,eL (cL cI) d0),(14,I s4.1),(13,I (choices.length:Int)),(12,eL (cL<|cL cI) choices)]) (H0:=[bE Ur (u30+1) 1 25 ((s28.1++[(v35++[(J d0 s28.2)])]).map<|cL<|cL cI)]) (rI Z (.cons (.snoc qD<|.cons (.cons (.fz<|Fz.own (g:=false) (ver:=v37+1) (l:=(v35++[(J d0 s28.2)])) Z Z Z nofun qD) .nil) .nil) .nil)<|ai (.eqv (congrArg (hS Ur 0 (u30+1) 1) (by simp:(s28.1.length+1)=(s28.1++[(v35++[(J d0 s28.2)])]).length))<|.hS (g:=false) (b:=0) (ver:=u30+1) (s:=1) (n:=(s28.1++[(v35++[(J d0 s28.2)])]).length) Z)<|ai (.fz<|qC Z)<|ai (.fz<|qC Z)<|ai (.fz<|qC Z)<|ai (.fz<|qC Z)<|ai (.fz<|qC Z)<|ai (.fz<|qC Z)<|ai (.fz<|qC Z)<|ai (.fz<|qC Z)<|ai (.fz<|qC Z)<|ai (.fz<|qC Z)<|ai (.fz<|qC Z) aY)<|go h λ_ h=>?_;obtain rfl:=TV h;exact ⟨((s28.1++[(v35++[(J d0 s28.2)])]),(s28.2+V)),(Ur,u30+1),Z,nofun,Um⟩
   refine jM<|lX h λh=>?_
   cases h
   exact ⟨(b31,u30),n32,Um⟩
  refine jM<|lX h λh=>?_
  cases h
  exact ⟨(b18,u17),n19,Um⟩
 refine jM<|lX h λh=>?_
 cases h
 exact ⟨(),trivial,Um⟩
theorem Bb (x:TY) {q} (h:jq x=Us q):ax Uv 47 [.agg (TY.c x)] (.agg<|TY.c q):=by
 refine pM func47 Z (by kernel_rfl) Z<|go h λ_ h=>?_;refine eF Z Z Z<|gq h λ_ h=>?_;refine jH<|T.reserve<|T.reserve<|jP (dG [dF,dF,dF,dF,dF,dF,([1],Uq),dF,([2],Uq),([2],Uq)]) (by kernel_rfl) (by kernel_rfl) ?_;refine go h λ_ h=>?_;refine fC h (λ_=>m8 _) Z Z Z Z Z λv1 _ h=>(go h λ_ h=>?_);refine jD h λg2 h=>fW 1 [] Z Z (λG hG=>EvA.mkZR 1 ([]:LI) vo Z Z g2 Z Z<|hG.a0 Z)<|go h λ_ h=>?_;refine fW 2 [] Z Z (λG hG=>EvA.alR 2 PF Z Z<|hG.a0 Z)<|gq h λ_ h=>?_;refine T.cut (e0:=ak [(3,.hp 2 0 2 0 0),(2,.hp 0 0 2 0 0),(1,.fp (TY.c x) 0)]) (H0:=[Us ⟨0,2,46,[[.nil,.nil]]⟩,bE Ur 0 1 31 ((aaw (x.Order.length:Int).toNat ([]:LI)).map<|cL cI),Us ⟨0,2,46,[[eL cI v1,hS Ur 1 0 1 ((aaw (x.Order.length:Int).toNat ([]:LI)).length)]]⟩]) (rI Z (.cons (.row<|.cons (.fz<|qC Z)<|.cons (.fz<|qC Z) .nil)<|.cons (.rows<|.rep (f:=cI) _)<|.cons (.row<|.cons (.fz<|qC Z)<|.cons (.hS (g:=false) (b:=1) (ver:=0) (s:=1) (n:=(aaw (x.Order.length:Int).toNat ([]:LI)).length) Z) .nil) .nil)<|ai (.hp<|nlb Z)<|ai (.hp<|nlb Z)<|ai (.fz<|qC Z) aY) ?_;refine tJ h (λs3 gh=>[(3,.hp 2 0 2 0 0),(2,.hp 0 0 2 0 0)]) (λs3 gh=>[Us ⟨0,2,46,[[.nil,.nil]]⟩,bE Ur gh 1 31 (s3.map<|cL cI),Us ⟨0,2,46,[[eL cI v1,hS Ur 1 gh 1 s3.length]]⟩]) (λs3 u15 h=>?_) λs3 h=>?_
 ·refine go h λ_ h=>?_;obtain rfl:=TV h
  repeat (first|refine kC ?_|refine kD ?_)
  exact jQ (vs:=[.agg [eL cI v1,hS Ur 1 u15 1 s3.length]]) (.cons (.cell (.agg [eL cI v1,hS Ur 1 u15 1 s3.length]) KY Z Z Z Z Z Z) .nil)<|Fz.aggL<|.cons (qC Z)<|.cons (Fz.own (g:=false) (ver:=u15) (l:=s3) Z Z Z nofun qD) .nil
 refine go h λ_ h=>?_;refine tT h 0 (λs7 gh=>[(17,I s7.2),(16,I (x.Order.length:Int)),(15,eL (cL cI) x.Order),(3,.hp 2 0 2 0 0),(2,.hp 0 0 2 0 0)]) (λs7 gh=>[Us ⟨0,2,46,[[.nil,.nil]]⟩,bE Ur gh 1 31 (s7.1.map<|cL cI),Us ⟨0,2,46,[[eL cI v1,hS Ur 1 gh 1 s7.1.length]]⟩]) λs7 u9 ws7 h=>?_;refine go h λ_ h=>?_;refine jH ?_;refine jN Z h (λq10 h=>?_) λq10 h=>?_
 ·refine go h λ_ h=>?_;refine gs h λ_ h=>?_;refine jP (dG [dF,([2],Ur),dF,dF,dF,dF,([1],Uq)]) (by kernel_rfl) (by kernel_rfl)<|go h λ_ h=>?_;refine fC h (λ_=>m8 _) Z Z Z Z Z λv12 _ h=>(go h λf h=>?_);obtain ⟨g13,_⟩:=f;refine fV 1 [] Z Z (λG hG=>EvA.stO (g:=false) (l:=s7.1) (cs:=[eL cI v12]) v12 CH Z Z (hG.a0 Z) nofun (aG Z g13) Z Z Z)<|go h λ_ h=>?_;obtain rfl:=TV h;exact ⟨((s7.1.set s7.2.toNat v12),(s7.2+(1:Int))),u9,Z,trivial,kw (by first | (simp only [List.length_set] <;> rfl) | simp only [lla,List.length_singleton,llc,List.length_nil,List.length_set]) Z⟩
 refine jM<|lX h λh=>?_
 cases h
 exact ⟨u9,trivial,Um⟩
theorem uL (p:List<|List TW) {q} (h:iE p=Us q):bH Uv 17 [eL (cL TW.c) p] [] (G9 2 46 (λx=>x) q.length (q.map TY.c) 0 []):=by
 refine bH.mkO func17 Z (by kernel_rfl) Z (by kernel_rfl) (e0:=ak [(0,eL (cL TW.c) p)]) (TR Z TQ) nI (nH TY.isF)<|go h λ_ h=>?_;refine oC h (λ_=>oU _) Z Z Z Z λv1 _ h=>(gq h λ_ h=>?_);refine jH<|T.reserve ?_;refine go h λ_ h=>?_;refine T.jF (G:=(Bool×Nat)) h (λs2 gh=>(gh.1=Uq->s2=[])) (λs2 gh=>[(4,hS gh.1 0 gh.2 1 s2.length),(3,eL TZ.c v1)]) (λs2 gh=>[bE gh.1 gh.2 1 31 (s2.map<|cL cI)]) (λs2 gh h n29=>?_) λs2 h=>?_
 ·obtain ⟨b28,u27⟩:=gh;refine T.cut (e0:=ak [(4,eL (cL cI) s2),(3,eL TZ.c v1)]) (H0:=[]) (rI Z .nil<|ai (.fz<|Fz.own (g:=b28) (ver:=u27) (l:=s2) Z Z Z n29 qD)<|ai (.fz<|qC Z) aY)<|jH<|T.reserve ?_;refine go h λ_ h=>?_;refine T.jF (G:=(Bool×Nat)) h (λs30 gh=>(gh.1=Uq->s30=[])) (λs30 gh=>[(8,hS gh.1 0 gh.2 1 s30.length),(4,eL (cL cI) s2)]) (λs30 gh=>[bE gh.1 gh.2 1 25 (s30.map<|cL<|cL cI)]) (λs30 gh h n70=>?_) λs30 h=>?_
  ·obtain ⟨b69,u68⟩:=gh;refine T.cut (e0:=ak [(8,eL (cL<|cL cI) s30),(4,eL (cL cI) s2)]) (H0:=[]) (rI Z .nil<|ai (.fz<|Fz.own (g:=b69) (ver:=u68) (l:=s30) Z Z Z n70 qD)<|ai (.fz<|qC Z) aY)<|jH<|T.reserve ?_;refine go h λ_ h=>?_;refine T.jF (G:=(Bool×Nat)) h (λs71 gh=>(gh.1=Uq->s71=[])) (λs71 gh=>[(13,hS gh.1 0 gh.2 2 s71.length)]) (λs71 gh=>[bE gh.1 gh.2 2 46 (s71.map TY.c)]) (λs71 gh h n108=>?_) λs71 h=>?_
   ·obtain ⟨b107,u106⟩:=gh;refine go h λ_ h=>?_;obtain rfl:=TV h
    repeat (first|refine kC ?_|refine kD ?_)
    exact jQ (vs:=[hS b107 0 u106 2 s71.length]) (.cons (.tmp Z) .nil) ⟨0,b107,u106,(uO n108 Z),Z,ownB Z⟩
   refine go h λ_ h=>?_;refine oC h (λ_=>yX _) Z Z Z Z λv72 _ h=>(go h λ_ h=>?_);refine tL h (Uq,0) (λs78 gh=>(gh.1=Uq->s78.1=[])) (λs78 gh=>[(70,I s78.2),(69,I (v72.length:Int)),(68,eL (cL cI) v72),(13,hS gh.1 0 gh.2 2 s78.1.length),(8,eL (cL<|cL cI) s30)]) (λs78 gh=>[bE gh.1 gh.2 2 46 (s78.1.map TY.c)]) qD λs78 gh ws78 h n82=>?_;obtain ⟨b81,u80⟩:=gh;refine go h λ_ h=>?_;refine jH ?_;refine jN Z h (λq83 h=>?_) λq83 h=>?_
   ·refine go h λ_ h=>?_;refine T.jF (G:=(Bool×Nat)) h (λs84 gh=>(gh.1=Uq->s84=[])) (λs84 gh=>[(70,I s78.2),(69,I (v72.length:Int)),(68,eL (cL cI) v72),(13,hS gh.1 0 gh.2 2 s84.length),(8,eL (cL<|cL cI) s30)]) (λs84 gh=>[bE gh.1 gh.2 2 46 (s84.map TY.c)]) (λs84 gh h n104=>?_) λs84 h=>?_
    ·obtain ⟨b103,u102⟩:=gh;refine go h λ_ h=>?_;obtain rfl:=TV h;exact ⟨(s84,(s78.2+V)),(b103,u102),Z,n104,Um⟩
    refine go h λ_ h=>?_;refine oC h (λ_=>Ca _) Z Z Z Z λv86 _ h=>(go h λ_ h=>?_);refine tL h (b81,u80) (λs92 gh=>(gh.1=Uq->s92.1=[])) (λs92 gh=>[(77,I s92.2),(76,I (v86.length:Int)),(75,eL (cL<|cL cI) v86),(15,eL cI<|J v72 s78.2),(70,I s78.2),(69,I (v72.length:Int)),(68,eL (cL cI) v72),(13,hS gh.1 0 gh.2 2 s92.1.length),(8,eL (cL<|cL cI) s30)]) (λs92 gh=>[bE gh.1 gh.2 2 46 (s92.1.map TY.c)]) n82 λs92 gh ws92 h n96=>?_;obtain ⟨b95,u94⟩:=gh;refine go h λ_ h=>?_;refine jH ?_;refine jN Z h (λq97 h=>?_) λq97 h=>?_
    ·refine go h λ_ h=>?_;refine gs h λ_ h=>?_;refine oC h (λ_=>Bb _) Z Z Z Z λv99 _ h=>oN (TS.mkF (c:=TY.c) ([v99]:List TY) [(TY.c v99)] QT Z Z Z qD TY.isF Z)<|go h λ_ h=>?_;obtain rfl:=TV h;exact ⟨((s92.1++[v99]),(s92.2+V)),(Ur,u94+1),Z,nofun,Um⟩
    refine jM<|lX h λh=>?_
    cases h
    exact ⟨(b95,u94),n96,Um⟩
   refine jM<|lX h λh=>?_
   cases h
   exact ⟨(b81,u80),n82,Um⟩
  refine go h λ_ h=>?_;refine tL h (Uq,0) (λs36 gh=>(gh.1=Uq->s36.1=[])) (λs36 gh=>[(41,I s36.2),(8,hS gh.1 0 gh.2 1 s36.1.length),(4,eL (cL cI) s2),(3,eL TZ.c v1)]) (λs36 gh=>[bE gh.1 gh.2 1 25 (s36.1.map<|cL<|cL cI)]) qD λs36 gh ws36 h n40=>?_;obtain ⟨b39,u38⟩:=gh;refine go h λ_ h=>?_;refine jH ?_;refine jN Z h (λq41 h=>?_) λq41 h=>?_
  ·refine go h λ_ h=>?_;refine tJ h (λs42 gh=>[(8,hS Ur 0 gh 1 s42.length),(41,I s36.2),(4,eL (cL cI) s2),(3,eL TZ.c v1)]) (λs42 gh=>[bE Ur gh 1 25 (s42.map<|cL<|cL cI)]) (λs42 u66 h=>?_) λs42 h=>?_
   ·refine go h λ_ h=>?_;obtain rfl:=TV h;exact ⟨(s42,(s36.2+V)),(Ur,u66),Z,nofun,Um⟩
   refine jE<|jI ?_;refine gq h λ_ h=>?_;refine jH<|T.reserve ?_;refine go h λ_ h=>?_;refine T.jF (G:=(Bool×Nat)) h (λs43 gh=>(gh.1=Uq->s43=[])) (λs43 gh=>[(10,hS gh.1 1 gh.2 1 s43.length),(41,I s36.2),(8,hS b39 0 u38 1 s36.1.length),(4,eL (cL cI) s2),(3,eL TZ.c v1)]) (λs43 gh=>[bE b39 u38 1 25 (s36.1.map<|cL<|cL cI),bE gh.1 gh.2 1 31 (s43.map<|cL cI)]) (λs43 gh h n64=>?_) λs43 h=>?_
   ·obtain ⟨b63,u62⟩:=gh;refine go h λ_ h=>?_;refine oA (EvA.mkR [[hS b63 1 u62 1 s43.length]] PH (by generalize b63=gq0;cases gq0 <;> rfl) Z Z Z) (jL h λg65 h=>oA (EvA.appR (g:=b39) (rows:=s36.1.map<|cL<|cL cI) (rows':=s36.1.map (cL<|cL cI)++[[hS b63 1 u62 1 s43.length]]) (n':=s36.1.length+1) PH (by kernel_rfl) Z Z (by simp) (λq=>by first | (rw [n40 q];rfl) | (cases q)) (cu.raw (rows:=[[hS b63 1 u62 1 s43.length]]) Z Z Z) g65 Z Z) ?_);refine go h λ_ h=>?_;obtain rfl:=TV h;exact ⟨u38+1,trivial,rI Z (.cons (.snoc qD<|.cons (.cons (.fz<|Fz.own (g:=b63) (ver:=u62) (l:=s43) Z Z Z n64 qD) .nil) .nil) .nil)<|ai (.eqv (congrArg (hS Ur 0 (u38+1) 1) (by simp:(s36.1.length+1)=(s36.1++[s43]).length))<|.hS (g:=false) (b:=0) (ver:=u38+1) (s:=1) (n:=(s36.1++[s43]).length) Z)<|ai (.fz<|qC Z)<|ai (.fz<|qC Z)<|ai (.fz<|qC Z) aY⟩
   refine go h λ_ h=>?_;refine oC h (λ_=>A9 _ _) Z Z Z Z λv44 _ h=>jD h λg45 h=>oN (TS.slL lK Z (.yes Z) .no g45 qD)<|oC h (λ_=>Ez _) Z Z Z Z λv46 _ h=>?_;refine go h λ_ h=>?_;refine tL h (Uq,0) (λs52 gh=>(gh.1=Uq->s52.1=[])) (λs52 gh=>[(50,I s52.2),(49,I (v46.length:Int)),(48,eL (cL cI) v46),(10,hS gh.1 1 gh.2 1 s52.1.length),(9,I s36.2),(41,I s36.2),(8,hS b39 0 u38 1 s36.1.length),(4,eL (cL cI) s2),(3,eL TZ.c v1)]) (λs52 gh=>[bE b39 u38 1 25 (s36.1.map<|cL<|cL cI),bE gh.1 gh.2 1 31 (s52.1.map<|cL cI)]) qD λs52 gh ws52 h n56=>?_;obtain ⟨b55,u54⟩:=gh;refine go h λ_ h=>?_;refine jH ?_;refine jN Z h (λq57 h=>?_) λq57 h=>?_
   ·refine go h λ_ h=>?_;refine gs h λ_ h=>?_;refine oA (EvA.mkO (c:=cI) ([s36.2]:LI) [[I s36.2]] lK Z Z Z qD Z Z)<|go h λ_ h=>?_;refine oA (EvA.mkR [[hS Ur 2 (0+1) 1 ((([s36.2]:LI)++(J v46 s52.2)).length)]] vo Z Z Z Z)<|jL h λg60 h=>oA (EvA.appR (g:=b55) (rows:=s52.1.map<|cL cI) (rows':=s52.1.map (cL cI)++[[hS Ur 2 (0+1) 1 ((([s36.2]:LI)++(J v46 s52.2)).length)]]) (n':=s52.1.length+1) vo (by kernel_rfl) Z Z (by simp) (λq=>by first | (rw [n56 q];rfl) | (cases q)) (cu.raw (rows:=[[hS Ur 2 (0+1) 1 ((([s36.2]:LI)++(J v46 s52.2)).length)]]) Z Z Z) g60 Z Z) ?_;refine gq h λ_ h=>?_;refine T.cut (e0:=ak [(10,hS Ur 1 (u54+1) 1<|(s52.1++[(([s36.2]:LI)++(J v46 s52.2))]).length),(50,I s52.2),(49,I (v46.length:Int)),(48,eL (cL cI) v46),(9,I s36.2),(41,I s36.2),(8,hS b39 0 u38 1 s36.1.length),(4,eL (cL cI) s2),(3,eL TZ.c v1)]) (H0:=[bE b39 u38 1 25 (s36.1.map<|cL<|cL cI),bE Ur (u54+1) 1 31 ((s52.1++[(([s36.2]:LI)++(J v46 s52.2))]).map<|cL cI)]) (rI Z (.cons (.list (g:=b39) (ver:=u38) (l:=s36.1) qD)<|.cons (.snoc qD<|.cons (.cons (.fz<|Fz.own (g:=false) (ver:=0+1) (l:=(([s36.2]:LI)++(J v46 s52.2))) Z Z Z nofun qD) .nil) .nil) .nil)<|ai (.eqv (congrArg (hS Ur 1 (u54+1) 1) (by simp:(s52.1.length+1)=(s52.1++[(([s36.2]:LI)++(J v46 s52.2))]).length))<|.hS (g:=false) (b:=1) (ver:=u54+1) (s:=1) (n:=(s52.1++[(([s36.2]:LI)++(J v46 s52.2))]).length) Z)<|ai (.fz<|qC Z)<|ai (.fz<|qC Z)<|ai (.fz<|qC Z)<|ai (.fz<|qC Z)<|ai (.fz<|qC Z)<|ai (.hS (g:=b39) (b:=0) (ver:=u38) (s:=1) (n:=s36.1.length) Z)<|ai (.fz<|qC Z)<|ai (.fz<|qC Z) aY)<|go h λ_ h=>?_;obtain rfl:=TV h;exact ⟨((s52.1++[(([s36.2]:LI)++(J v46 s52.2))]),(s52.2+V)),(Ur,u54+1),Z,nofun,Um⟩
   refine jM<|lX h λh=>?_
   cases h
   exact ⟨(b55,u54),n56,Um⟩
  refine jM<|lX h λh=>?_
  cases h
  exact ⟨(b39,u38),n40,Um⟩
 refine go h λ_ h=>?_;refine tL h (Uq,0) (λs8 gh=>(gh.1=Uq->s8.1=[])) (λs8 gh=>[(22,I s8.2),(21,I (v1.length:Int)),(20,eL TZ.c v1),(4,hS gh.1 0 gh.2 1 s8.1.length),(3,eL TZ.c v1)]) (λs8 gh=>[bE gh.1 gh.2 1 31 (s8.1.map<|cL cI)]) qD λs8 gh ws8 h n12=>?_;obtain ⟨b11,u10⟩:=gh;refine go h λ_ h=>?_;refine jH ?_;refine jN Z h (λq13 h=>?_) λq13 h=>?_
 ·refine go h λ_ h=>?_;refine gs h λ_ h=>?_;refine TO.cut (e0:=ak [(6,.fp (TZ.c (⟨(J v1 s8.2).Thread,(J v1 s8.2).Index,(J v1 s8.2).Loc,(J v1 s8.2).Reads,(J v1 s8.2).bq⟩:TZ)) 0),(5,.fp (cI s8.2) 0),(22,I s8.2),(21,I (v1.length:Int)),(20,eL TZ.c v1),(4,hS b11 0 u10 1 s8.1.length),(3,eL TZ.c v1)]) (H0:=[bE b11 u10 1 31 (s8.1.map<|cL cI)]) (rI Z (.cons (.list (g:=b11) (ver:=u10) (l:=s8.1) qD) .nil)<|ai (.fz<|Fz.fpL (ver:=0) (s:=5) (ty:=75) (rows:=[[I ((J v1 s8.2).Thread),I ((J v1 s8.2).Index),I ((J v1 s8.2).Loc),Bo ((J v1 s8.2).Reads),Bo ((J v1 s8.2).bq)]]) Z Z Z<|.cons (qC Z)<|.cons (qC Z)<|.cons (qC Z)<|.cons (qC Z)<|.cons (qC Z) .nil)<|ai (.fz<|Fz.fpL (ver:=0) (s:=1) (ty:=3) (rows:=[[I s8.2]]) Z Z Z<|.cons (qC Z) .nil)<|ai (.fz<|qC Z)<|ai (.fz<|qC Z)<|ai (.fz<|qC Z)<|ai (.hS (g:=b11) (b:=0) (ver:=u10) (s:=1) (n:=s8.1.length) Z)<|ai (.fz<|qC Z) aY)<|gk h λ_ _ h=>?_;refine T.jU h (λs15=>[(7,eL cI s15),(22,I s8.2),(21,I (v1.length:Int)),(20,eL TZ.c v1),(4,hS b11 0 u10 1 s8.1.length),(3,eL TZ.c v1)]) (λs15=>[bE b11 u10 1 31 (s8.1.map<|cL cI)]) (λs15 h=>?_) λs15 h=>?_
  ·refine gk h λ_ _ h=>?_;obtain rfl:=TV h;exact ⟨((s8.1++[s15]),(s8.2+V)),(Ur,u10+1),Z,nofun,Um⟩
  refine gi h (λ_ q16 h=>?_) λ_ q16 h=>?_
  ·refine go h λ_ h=>?_;refine jB h λv17 cv17 h=>?_;refine oG Z Z Z ((tP v1 ((⟨(J v1 s8.2).Thread,(J v1 s8.2).Index,(J v1 s8.2).Loc,(J v1 s8.2).Reads,(J v1 s8.2).bq⟩:TZ).Loc) cv17).own Z (nH qD) nI 1 Z) λg18 v19 n20=>?_;refine oN (TS.mkfn [.fp (cI s8.2) 0] Z Z)<|jB h λv21 cv21 h=>?_;refine oGW Z Z (ig v17 s8.2 g18 v19 (λx=>aax<|n20 x) cv21) Z (.cons (bh Z)<|.cons (.pF Z) .nil) (nH qD) (nH qD) nI λg22 v23 n24=>?_;refine oN (TS.asg (hS g22 1 v23 1 v21.length) Z)<|TO.cut (e0:=ak [(7,eL cI v21),(22,I s8.2),(21,I (v1.length:Int)),(20,eL TZ.c v1),(4,hS b11 0 u10 1 s8.1.length),(3,eL TZ.c v1)]) (H0:=[bE b11 u10 1 31 (s8.1.map<|cL cI)]) (rI Z (.cons (.list (g:=b11) (ver:=u10) (l:=s8.1) qD) .nil)<|ai (.fz<|Fz.own (g:=g22) (ver:=v23) (l:=v21) Z Z Z (λx=>aax<|n24 x) qD)<|ai (.fz<|qC Z)<|ai (.fz<|qC Z)<|ai (.fz<|qC Z)<|ai (.hS (g:=b11) (b:=0) (ver:=u10) (s:=1) (n:=s8.1.length) Z)<|ai (.fz<|qC Z) aY) ?_;refine go h λ_ h=>?_
   cases h
   exact ⟨(),trivial,Um⟩
  refine go h λ_ h=>?_
  cases h
  exact ⟨(),trivial,Um⟩
 refine jM<|lX h λh=>?_
 cases h
 exact ⟨(b11,u10),n12,Um⟩
theorem Cb (p:List<|List TW) {q} (h:iE p=Us q):ax Uv 17 [eL (cL TW.c) p] (eL TY.c q):=pOf (uL p h) TY.isF
theorem xj (p:List<|List TW) {q} (h:lM p=Us q):ax Uv 48 [eL (cL TW.c) p] (eL (cL cI) q):=by
 refine pM func48 Z (by kernel_rfl) Z<|go h λ_ h=>?_;refine jD h λg1 h=>oA (EvA.mkZ vo Z Z g1 Z Z)<|TO.reserveN (p.length:Int).toNat<|TO.clean (H0:=(bE Ur 0 1 31 (TU 1 (λi=>(Uq,i,0)) 1<|aaw (p.length:Int).toNat ([]:LI))::(aaw (p.length:Int).toNat Ut))) (e0:=ak [(11,hS Ur 0 0 1<|(p.length:Int).toNat),(0,eL (cL TW.c) p)]) (congrArg (λr=>[bE Ur 0 1 31 r]++aaw (p.length:Int).toNat Ut) (Qa (α:=Int) 1 1 (p.length:Int).toNat).symm) (TR Z<|TR Z TQ)<|oN (TS.asg (hS Ur 0 0 1<|(p.length:Int).toNat) Z)<|jA<|jI<|oN as'<|jA ?_;refine T.jF (G:=(NG×AH×Nat)) h (λs2 gh=>NN gh.2.1 gh.1 1 3 cI s2) (λs2 gh=>[(3,hS Ur 0 gh.2.2 1 s2.length)]) (λs2 gh=>(bE Ur gh.2.2 1 31 (TU 1 gh.1 1 s2)::gh.2.1)) (λs2 gh h hN70=>?_) λs2 h=>?_
 ·obtain ⟨y68,kk69,u67⟩:=gh;refine go h λ_ h=>?_;obtain rfl:=TV h
  repeat (first|refine kC ?_|refine kD ?_)
  exact jQ (vs:=[hS Ur 0 u67 1 s2.length]) (.cons (.tmp Z) .nil)<|NN.fz hN70 (S:=[bE Ur u67 1 31 (TU 1 y68 1 s2)]) (ver:=u67) Z Z qD
 refine go h λ_ h=>?_;refine jO (S:=(LL)×Int×Int) (G:=(NG×AH×Nat)) (nM p) (λs13 gh=>NN gh.2.1 gh.1 1 3 cI s13.1) (λs13 gh=>[(14,I s13.2.1),(13,I (p.length:Int)),(12,eL (cL TW.c) p),(4,I s13.2.2),(3,hS Ur 0 gh.2.2 1 s13.1.length)]) (λs13 gh=>(bE Ur gh.2.2 1 31 (TU 1 gh.1 1 s13.1)::gh.2.1)) (s0:=((aaw (p.length:Int).toNat ([]:LI)),(0:Int),(3:Int))) ((λi=>(Uq,i,0)),(aaw (p.length:Int).toNat Ut),0) h (NN.rep (p.length:Int).toNat) (BB Z<|TR Z<|TR Z<|TR Z<|TR Z<|TR (congrArg (hS Ur 0 0 1) (by simp:(p.length:Int).toNat=(aaw (p.length:Int).toNat ([]:LI)).length)) TQ) λs13 gh ws13 h hN18=>?_;let d0:=p.getD s13.2.1.toNat Uo;obtain ⟨y16,kk17,u15⟩:=gh;refine go h λ_ h=>?_;refine jH ?_;refine jN Z h (λq19 h=>?_) λq19 h=>?_
 ·refine go h λ_ h=>?_;refine T.jF (G:=(NG×AH×Nat)) h (λs20 gh=>NN gh.2.1 gh.1 1 3 cI s20.1) (λs20 gh=>[(14,I s13.2.1),(13,I (p.length:Int)),(12,eL (cL TW.c) p),(4,I s20.2),(3,hS Ur 0 gh.2.2 1 s20.1.length)]) (λs20 gh=>(bE Ur gh.2.2 1 31 (TU 1 gh.1 1 s20.1)::gh.2.1)) (λs20 gh h hN65=>?_) λs20 h=>?_
  ·obtain ⟨y63,kk64,u62⟩:=gh;refine go h λ_ h=>?_;obtain rfl:=TV h;exact ⟨(s20.1,(s13.2.1+V),s20.2),(y63,kk64,u62),Z,hN65,Um⟩
  refine go h λ_ h=>?_;refine tL h (y16,kk17,u15) (λs32 gh=>NN gh.2.1 gh.1 1 3 cI s32.1) (λs32 gh=>[(21,I s32.2.1),(20,I (d0.length:Int)),(19,eL TW.c d0),(5,I s13.2.1),(14,I s13.2.1),(13,I (p.length:Int)),(12,eL (cL TW.c) p),(4,I s32.2.2),(3,hS Ur 0 gh.2.2 1 s32.1.length)]) (λs32 gh=>(bE Ur gh.2.2 1 31 (TU 1 gh.1 1 s32.1)::gh.2.1)) hN18 λs32 gh ws32 h hN37=>?_;obtain ⟨y35,kk36,u34⟩:=gh;refine go h λ_ h=>?_;refine jH ?_;refine jN Z h (λq38 h=>?_) λq38 h=>?_
  ·refine go h λ_ h=>?_;refine T.jF (G:=(NG×AH×Nat)) h (λs39 gh=>NN gh.2.1 gh.1 1 3 cI s39.1) (λs39 gh=>[(21,I s32.2.1),(20,I (d0.length:Int)),(19,eL TW.c d0),(5,I s13.2.1),(14,I s13.2.1),(13,I (p.length:Int)),(12,eL (cL TW.c) p),(4,I s39.2),(3,hS Ur 0 gh.2.2 1 s39.1.length)]) (λs39 gh=>(bE Ur gh.2.2 1 31 (TU 1 gh.1 1 s39.1)::gh.2.1)) (λs39 gh h hN60=>?_) λs39 h=>?_
   ·obtain ⟨y58,kk59,u57⟩:=gh;refine go h λ_ h=>?_;obtain rfl:=TV h;exact ⟨(s39.1,(s32.2.1+V),s39.2),(y58,kk59,u57),Z,hN60,Um⟩
   refine jE<|jI<|jD h λg40 h=>oN (TS.ixL Gy Z Z g40 qD)<|oN (lf (.agg<|TW.c<|J d0 s32.2.1) Ik Z)<|oA (EvA.al PG Z Z)<|TO.reid (e0:=ak [(8,.hp 1 0 4 0 0),(24,.agg<|TW.c<|J d0 s32.2.1),(21,I s32.2.1),(20,I (d0.length:Int)),(19,eL TW.c d0),(5,I s13.2.1),(14,I s13.2.1),(13,I (p.length:Int)),(12,eL (cL TW.c) p),(4,I s32.2.2),(3,hS Ur 0 u34 1 s32.1.length)]) (Reid.rot (m:=1) (S:=[bE Ur u34 1 31 (TU 1 y35 1 s32.1)]) (S':=[bE Ur u34 1 31 (TU 2 y35 1 s32.1)]) (K:=kk36) (x:=some ⟨0,4,65,[[I U,I U,I U,I U]]⟩) (x':=Us ⟨0,4,65,[[I U,I U,I U,I U]]⟩) Z Z Z (.nest (hN37.renK Z) .nil) hN37.kf<|.some (.rowL<|.cons (ay 9 _ Z)<|.cons (ay 9 _ Z)<|.cons (ay 9 _ Z)<|.cons (ay 9 _ Z) .nil) .nil) (bA (a0:=.hp (kk36.length+1) 0 4 0 0) Z (.hp Rot.new)<|bL Z Z<|bL Z Z<|bL Z Z<|bL Z Z<|bL Z Z<|bL Z Z<|bL Z Z<|bL Z Z<|bL Z Z<|bA (a0:=hS Ur 0 u34 1 s32.1.length) Z (bh<|Rot.low Z) um)<|oV (sr (TW.c<|J d0 s32.2.1) Ik Z Z Z Z)<|jA<|jI<|oN (fa QS Z)<|oA (lh (I<|(J d0 s32.2.1).Op) Uk Z Z Z)<|oN (TS.ieq Z Z)<|jA ?_;refine jN Z h (λq41 h=>?_) λq41 h=>?_
   ·refine go h λf h=>?_;obtain ⟨g42,_⟩:=f;have n47:=hN37.nil_<|aG rfl g42;have hX46:=hN37.opened<|aG rfl g42;refine TO.reid (e0:=ak [(32,.hp 0 u34 1 s13.2.1.toNat 0),(29,I s13.2.1),(28,hS Ur 0 u34 1 s32.1.length),(21,I s32.2.1),(20,I (d0.length:Int)),(19,eL TW.c d0),(5,I s13.2.1),(14,I s13.2.1),(13,I (p.length:Int)),(12,eL (cL TW.c) p),(4,I s32.2.2),(3,hS Ur 0 u34 1 s32.1.length)]) (Reid.open (m:=2) (S:=[bE Ur u34 1 31 (TU 2 y35 1 s32.1),Us ⟨0,4,65,[(TW.c<|J d0 s32.2.1)]⟩]) (S':=[bE Ur u34 1 31 (nxs 3 y35 1 s32.1 s13.2.1.toNat (y35 s13.2.1.toNat).1 2 ((y35 s13.2.1.toNat).2.2)<|(s32.1.getD s13.2.1.toNat []).length),Us ⟨0,4,65,[(TW.c<|J d0 s32.2.1)]⟩]) (K:=kk36) (x:=bE (y35 s13.2.1.toNat).1 (y35 s13.2.1.toNat).2.2 1 3<|(s32.1.getD s13.2.1.toNat []).map cI) Z (hN37.at_<|aG Z g42) Z (.nest (hN37.renOpn<|aG Z g42)<|.some (.rowL<|.cons (ay 9 _ Z)<|.cons (ay 9 _ Z)<|.cons (ay 9 _ Z)<|.cons (ay 9 _ Z) .nil) .nil) hN37.kf) (bA (a0:=.hp 0 u34 1 s13.2.1.toNat 0) Z (.hp<|Opn.low Z)<|bL Z Z<|bA (a0:=hS Ur 0 u34 1 s32.1.length) Z (bh<|Opn.low Z)<|bL Z Z<|bL Z Z<|bL Z Z<|bL Z Z<|bL Z Z<|bL Z Z<|bL Z Z<|bL Z Z<|bA (a0:=hS Ur 0 u34 1 s32.1.length) Z (bh<|Opn.low Z) um) ?_;generalize (y35 s13.2.1.toNat).1=b43 at n47 ⊢;generalize (y35 s13.2.1.toNat).2.2=u44;generalize kk36.set (y35 s13.2.1.toNat).2.1 Ut=kk45 at hX46 ⊢;refine oA (EvA.loadhp (hS b43 2 u44 1<|(s32.1.getD s13.2.1.toNat []).length) CH Z Z Z Z (zC<|aG Z g42) Z)<|gk h λ_ _ h=>?_;refine oV (EvA.st (cs:=[hS Ur 2 (u44+1) 1 (((s32.1.getD s13.2.1.toNat [])++[(-1:Int)]).length)]) ⟨u34,1,31,(nxs 3 y35 1 s32.1 s13.2.1.toNat Ur 2 (u44+1)<|((s32.1.getD s13.2.1.toNat [])++[(-1:Int)]).length)⟩ CH Z Z Z Z Z (zC hX46.hi) Z Z<|congrArg (ABlk.mk u34 1 31) IM)<|go h λ_ h=>?_;obtain rfl:=TV h;exact ⟨((up 1<|(up 1 y35).put s13.2.1.toNat (Ur,0,u44+1)),(Us ⟨0,4,65,[(TW.c<|J d0 s32.2.1)]⟩::(bE Ur (u44+1) 1 3 (((s32.1.getD s13.2.1.toNat [])++[(-1:Int)]).map cI)::kk45)),u34),((hX46.close (g:=false) (v:=u44+1) (r:=((s32.1.getD s13.2.1.toNat [])++[(-1:Int)])) nofun qD).push λ_ hb=>osi hb ▸ au Z),BB (congrArg (λr_:List (List AV)=>(bE Ur u34 1 31 r_::Us ⟨0,4,65,[(TW.c<|J d0 s32.2.1)]⟩::bE Ur (u44+1) 1 3 (((s32.1.getD s13.2.1.toNat [])++[(-1:Int)]).map cI)::kk45:AH)) (show (nxs 3 y35 1 s32.1 s13.2.1.toNat Ur 2 (u44+1)<|((s32.1.getD s13.2.1.toNat [])++[(-1:Int)]).length)=TU 1 (up 1<|(up 1 y35).put s13.2.1.toNat (Ur,0,u44+1)) 1 (s32.1.set s13.2.1.toNat<|(s32.1.getD s13.2.1.toNat [])++[(-1:Int)]) from Au (m:=2) (gh:=y35) (r:=((s32.1.getD s13.2.1.toNat [])++[(-1:Int)])) hX46.hi).symm)<|TR Z<|TR Z<|TR Z<|TR Z<|TR Z<|TR Z<|TR Z<|TR Z<|TR (congrArg (hS Ur 0 u34 1) (by simp:s32.1.length=(s32.1.set s13.2.1.toNat<|(s32.1.getD s13.2.1.toNat [])++[(-1:Int)]).length)) TQ⟩
   refine go h λf h=>?_;obtain ⟨g49,_⟩:=f;have n54:=hN37.nil_<|aG rfl g49;have hX53:=hN37.opened<|aG rfl g49;refine TO.reid (e0:=ak [(41,.hp 0 u34 1 s13.2.1.toNat 0),(38,I s13.2.1),(37,hS Ur 0 u34 1 s32.1.length),(21,I s32.2.1),(20,I (d0.length:Int)),(19,eL TW.c d0),(5,I s13.2.1),(14,I s13.2.1),(13,I (p.length:Int)),(12,eL (cL TW.c) p),(4,I s32.2.2),(3,hS Ur 0 u34 1 s32.1.length)]) (Reid.open (m:=2) (S:=[bE Ur u34 1 31 (TU 2 y35 1 s32.1),Us ⟨0,4,65,[(TW.c<|J d0 s32.2.1)]⟩]) (S':=[bE Ur u34 1 31 (nxs 3 y35 1 s32.1 s13.2.1.toNat (y35 s13.2.1.toNat).1 2 ((y35 s13.2.1.toNat).2.2)<|(s32.1.getD s13.2.1.toNat []).length),Us ⟨0,4,65,[(TW.c<|J d0 s32.2.1)]⟩]) (K:=kk36) (x:=bE (y35 s13.2.1.toNat).1 (y35 s13.2.1.toNat).2.2 1 3<|(s32.1.getD s13.2.1.toNat []).map cI) Z (hN37.at_<|aG Z g49) Z (.nest (hN37.renOpn<|aG Z g49)<|.some (.rowL<|.cons (ay 9 _ Z)<|.cons (ay 9 _ Z)<|.cons (ay 9 _ Z)<|.cons (ay 9 _ Z) .nil) .nil) hN37.kf) (bA (a0:=.hp 0 u34 1 s13.2.1.toNat 0) Z (.hp<|Opn.low Z)<|bL Z Z<|bA (a0:=hS Ur 0 u34 1 s32.1.length) Z (bh<|Opn.low Z)<|bL Z Z<|bL Z Z<|bL Z Z<|bL Z Z<|bL Z Z<|bL Z Z<|bL Z Z<|bL Z Z<|bA (a0:=hS Ur 0 u34 1 s32.1.length) Z (bh<|Opn.low Z) um) ?_;generalize (y35 s13.2.1.toNat).1=b50 at n54 ⊢;generalize (y35 s13.2.1.toNat).2.2=u51;generalize kk36.set (y35 s13.2.1.toNat).2.1 Ut=kk52 at hX53 ⊢;refine oA (EvA.loadhp (hS b50 2 u51 1<|(s32.1.getD s13.2.1.toNat []).length) CH Z Z Z Z (zC<|aG Z g49) Z)<|gk h λ_ _ h=>?_;refine oV (EvA.st (cs:=[hS Ur 2 (u51+1) 1 (((s32.1.getD s13.2.1.toNat [])++[s32.2.2]).length)]) ⟨u34,1,31,(nxs 3 y35 1 s32.1 s13.2.1.toNat Ur 2 (u51+1)<|((s32.1.getD s13.2.1.toNat [])++[s32.2.2]).length)⟩ CH Z Z Z Z Z (zC hX53.hi) Z Z<|congrArg (ABlk.mk u34 1 31) IM)<|go h λ_ h=>?_;obtain rfl:=TV h;exact ⟨((up 1<|(up 1 y35).put s13.2.1.toNat (Ur,0,u51+1)),(Us ⟨0,4,65,[(TW.c<|J d0 s32.2.1)]⟩::(bE Ur (u51+1) 1 3 (((s32.1.getD s13.2.1.toNat [])++[s32.2.2]).map cI)::kk52)),u34),((hX53.close (g:=false) (v:=u51+1) (r:=((s32.1.getD s13.2.1.toNat [])++[s32.2.2])) nofun qD).push λ_ hb=>osi hb ▸ au Z),BB (congrArg (λr_:List (List AV)=>(bE Ur u34 1 31 r_::Us ⟨0,4,65,[(TW.c<|J d0 s32.2.1)]⟩::bE Ur (u51+1) 1 3 (((s32.1.getD s13.2.1.toNat [])++[s32.2.2]).map cI)::kk52:AH)) (show (nxs 3 y35 1 s32.1 s13.2.1.toNat Ur 2 (u51+1)<|((s32.1.getD s13.2.1.toNat [])++[s32.2.2]).length)=TU 1 (up 1<|(up 1 y35).put s13.2.1.toNat (Ur,0,u51+1)) 1 (s32.1.set s13.2.1.toNat<|(s32.1.getD s13.2.1.toNat [])++[s32.2.2]) from Au (m:=2) (gh:=y35) (r:=((s32.1.getD s13.2.1.toNat [])++[s32.2.2])) hX53.hi).symm)<|TR Z<|TR Z<|TR Z<|TR Z<|TR Z<|TR Z<|TR Z<|TR Z<|TR (congrArg (hS Ur 0 u34 1) (by simp:s32.1.length=(s32.1.set s13.2.1.toNat<|(s32.1.getD s13.2.1.toNat [])++[s32.2.2]).length)) TQ⟩
  refine jM<|lX h λh=>?_
  cases h
  exact ⟨(y35,kk36,u34),hN37,Um⟩
 refine jM<|lX h λh=>?_
 cases h
 exact ⟨(y16,kk17,u15),hN18,Um⟩
theorem yY (s:ZTv) (pc:Z3i) (loc:Int) {q} (h:kr s pc loc=Us q):ax Uv 118 [.fp (ZTv.c s) 0,.agg (Z3i.c pc),I loc] (I q):=by
 refine pM func118 Z (by kernel_rfl) Z<|go h λ_ h=>?_;refine eF Z Z Z<|go h λ_ h=>?_;refine T.jU h (λs1=>[(7,I s1)]) (λs1=>[]) (λs1 h=>?_) λs1 h=>?_
 ·exact gz h
 refine go h λ_ h=>?_;refine tU h (λs4=>[(16,I s4.1),(15,I (s.p.length:Int)),(7,I s4.2),(4,.fp (Z3i.c pc) 0),(0,.fp (ZTv.c s) 0),(2,I loc)]) (λs4=>[]) λs4 ws4 h=>?_;let d0:=s.p.getD s4.1.toNat Uo;refine go h λ_ h=>?_;refine jH ?_;refine jN Z h (λq6 h=>?_) λq6 h=>?_
 ·refine go h λ_ h=>?_;refine T.jU h (λs7=>[(16,I s4.1),(15,I (s.p.length:Int)),(7,I s7),(4,.fp (Z3i.c pc) 0),(0,.fp (ZTv.c s) 0),(2,I loc)]) (λs7=>[]) (λs7 h=>?_) λs7 h=>?_
  ·refine go h λ_ h=>?_;exact lE h Um
  refine go h λ_ h=>?_;refine jH<|T.drawP (by kernel_rfl) (by kernel_rfl) ?_;refine go h λf h=>?_;obtain ⟨g9,_⟩:=f;refine fN Z (lf1 (λz0=>I<|Z3i.get pc z0) g9 Uk Z Z Z Z)<|jD h λg10 h=>fN Z (TS.slL Gy Z .no (.yes Z) g10 qD) ?_;refine go h λ_ h=>?_;refine tU h (λs13=>[(31,I s13.1),(30,I (((d0.drop U.toNat).take<|(Z3i.get pc s4.1).toNat-U.toNat).length:Int)),(29,eL TW.c<|(d0.drop U.toNat).take<|(Z3i.get pc s4.1).toNat-U.toNat),(16,I s4.1),(15,I (s.p.length:Int)),(7,I s13.2),(4,.fp (Z3i.c pc) 0),(0,.fp (ZTv.c s) 0),(2,I loc)]) (λs13=>[]) λs13 ws13 h=>?_;refine go h λ_ h=>?_;refine jH ?_;refine jN Z h (λq15 h=>?_) λq15 h=>?_
  ·refine go h λ_ h=>?_;refine T.jU h (λs16=>[(7,I s16),(31,I s13.1),(30,I (((d0.drop U.toNat).take<|(Z3i.get pc s4.1).toNat-U.toNat).length:Int)),(29,eL TW.c<|(d0.drop U.toNat).take<|(Z3i.get pc s4.1).toNat-U.toNat),(16,I s4.1),(15,I (s.p.length:Int)),(4,.fp (Z3i.c pc) 0),(0,.fp (ZTv.c s) 0),(2,I loc)]) (λs16=>[]) (λs16 h=>?_) λs16 h=>?_
   ·refine go h λ_ h=>?_;exact lE h Um
   refine go h λ_ h=>?_;refine oC h (λ_=>cF _) Z Z Z Z λv18 _ h=>(go h λ_ h=>?_);refine TO.jB h 5 (λs19=>[(42,Bo s19),(31,I s13.1),(30,I (((d0.drop U.toNat).take<|(Z3i.get pc s4.1).toNat-U.toNat).length:Int)),(29,eL TW.c<|(d0.drop U.toNat).take<|(Z3i.get pc s4.1).toNat-U.toNat),(16,I s4.1),(15,I (s.p.length:Int)),(7,I s13.2),(4,.fp (Z3i.c pc) 0),(0,.fp (ZTv.c s) 0),(2,I loc)]) (λs19=>[Us ⟨0,4,65,[(TW.c<|J ((d0.drop U.toNat).take<|(Z3i.get pc s4.1).toNat-U.toNat) s13.1)]⟩]) (λs19 q20 h js19=>?_) (λs19 q20 h js19=>?_) λs19 h=>?_
   ·refine go h λ_ h=>?_;refine gA Z q20 (lh (I<|(J ((d0.drop U.toNat).take<|(Z3i.get pc s4.1).toNat-U.toNat) s13.1).Loc) Uk Z Z Z) ?_;exact gj h js19
   ·exact gj h js19
   refine gi h (λ_ q21 h=>?_) λ_ q21 h=>?_
   ·refine go h λ_ h=>?_
    cases h
    exact ⟨(),trivial,Um⟩
   refine go h λ_ h=>?_
   cases h
   exact ⟨(),trivial,Um⟩
  refine jM<|lX h λh=>?_
  cases h
  exact ⟨(),trivial,Um⟩
 refine jM<|lX h λh=>?_
 cases h
 exact ⟨(),trivial,Um⟩
theorem zQ (s:ZTv) (pc:Z3i) (t:Int) {q} (h:lg s pc t=Us q):ax Uv 90 [.fp (ZTv.c s) 0,.agg (Z3i.c pc),I t] (Bo q):=by
 refine pM func90 Z (by kernel_rfl) Z<|go h λ_ h=>?_;refine eF Z Z Z<|go h λ_ h=>?_;refine jH<|jH<|T.drawP (by kernel_rfl) (by kernel_rfl) ?_;refine go h λf h=>?_;obtain ⟨g1,_⟩:=f;refine fN Z (lf1 (λz0=>I<|Z3i.get pc z0) g1 Uk Z Z Z Z)<|go h λf h=>?_;obtain ⟨g2,_⟩:=f;refine jN Z h (λq3 h=>?_) λq3 h=>?_
 ·exact gz h
 refine jG<|jH<|T.reserve<|jP (dG [dF,dF,dF,dF,dF,dF,dF,dF,dF,dF,dF,dF,dF,dF,dF,dF,dF,dF,dF,dF,dF,dF,dF,dF,([0],Uq),([0],Uq),dF]) (by kernel_rfl) (by kernel_rfl) ?_;refine go h λ_ h=>?_;refine fN Z (lf1 (λz0=>I<|Z3i.get pc z0) g1 Uk Z Z Z Z)<|go h λ_ h=>?_;refine fN Z (lf1 (λz0=>I<|Z3i.get pc z0) g1 Uk Z Z Z Z)<|go h λ_ h=>?_;refine fW 0 [] Z Z (λG hG=>EvA.alR 0 PG Z Z<|hG.a0 Z)<|go h λ_ h=>?_;refine Ul h (λ_ q7 h=>?_) λ_ q7 h=>?_
 ·exact gz h
 refine go h λ_ h=>?_;refine jH<|jP (dG [dF,dF,dF,dF,dF,dF,([0],Ur),dF,dF,dF]) (by kernel_rfl) (by kernel_rfl) ?_;refine go h λ_ h=>?_;refine oC h (λ_=>yY _ _ _) Z Z Z Z λv9 _ h=>(go h λ_ h=>?_);refine T.jU h (λs10=>[(6,Bo s10)]) (λs10=>[Us ⟨0,4,65,[(TW.c<|J (J s.p t)<|Z3i.get pc t)]⟩]) (λs10 h=>?_) λs10 h=>?_
 ·exact gz h
 refine T.cl [10,9,8,7,0] Z<|T.drawG (dG [([0],Ur),dF,dF,dF,dF,dF,dF,dF,dF,dF,dF,dF,dF,dF,dF,dF,dF,dF,dF,([0],Ur),dF,dF,dF,dF,dF,dF,dF,dF,dF,dF,dF,dF,dF]) (by kernel_rfl) (by kernel_rfl) ?_;refine go h λ_ h=>?_;refine jB h λv11 cv11 h=>tN Z (TS.call Z Z Z (iw (⟨(J (J s.p t)<|Z3i.get pc t).Op,(J (J s.p t)<|Z3i.get pc t).Loc,(J (J s.p t)<|Z3i.get pc t).Reg,(J (J s.p t)<|Z3i.get pc t).Val⟩:TW) cv11) Z)<|go h λ_ h=>?_;rcases CN h with ⟨q12,h⟩ | ⟨q12,h⟩
 ·refine gp h λ_ h=>?_;refine go h λ_ h=>?_;refine tgR Z Z [0] Z (λG hG=>EvA.loadhp (.agg<|TW.c<|J (J s.p t)<|Z3i.get pc t) Ik Z (hG.a0 Z) Z Z Z Z)<|jB h λv13 cv13 h=>tgN Z Z Z (TS.call Z Z Z (cF (⟨(J (J s.p t)<|Z3i.get pc t).Op,(J (J s.p t)<|Z3i.get pc t).Loc,(J (J s.p t)<|Z3i.get pc t).Reg,(J (J s.p t)<|Z3i.get pc t).Val⟩:TW) cv13) Z) ?_;refine go h λ_ h=>?_;rcases CN h with ⟨q14,h⟩ | ⟨q14,h⟩
  ·refine go h λ_ h=>?_;refine tgN Z Z Z (TS.pickT Z q14 (Bo Uq) Z)<|gp h λ_ h=>?_;refine go h λ_ h=>?_
   cases h
   exact ⟨(),trivial,Um⟩
  refine go h λ_ h=>?_;refine tgN Z Z Z (TS.pickF Z q14 (Bo<|(J (J s.x.Order<|(J (J s.p t)<|Z3i.get pc t).Loc)<|v9+V)==(J (J s.number t)<|Z3i.get pc t)) Z)<|gp h λ_ h=>?_;refine go h λ_ h=>?_
  cases h
  exact ⟨(),trivial,Um⟩
 refine gp h λ_ h=>?_;refine go h λ_ h=>?_;rcases CN h with ⟨q19,h⟩ | ⟨q19,h⟩
 ·refine tgR Z q19 [0] Z (λG hG=>EvA.loadhp (.agg<|TW.c<|J (J s.p t)<|Z3i.get pc t) Ik Z (hG.a0 Z) Z Z Z Z)<|jB h λv20 cv20 h=>tgN Z q19 Z (TS.call Z Z Z (cF (⟨(J (J s.p t)<|Z3i.get pc t).Op,(J (J s.p t)<|Z3i.get pc t).Loc,(J (J s.p t)<|Z3i.get pc t).Reg,(J (J s.p t)<|Z3i.get pc t).Val⟩:TW) cv20) Z) ?_;refine go h λ_ h=>?_;rcases CN h with ⟨q21,h⟩ | ⟨q21,h⟩
  ·refine go h λ_ h=>?_;refine tgN Z q19 Z (TS.pickT Z q21 (Bo Uq) Z)<|gp h λ_ h=>?_;refine go h λ_ h=>?_
   cases h
   exact ⟨(),trivial,Um⟩
  refine go h λ_ h=>?_;refine tgN Z q19 Z (TS.pickF Z q21 (Bo<|(J (J s.x.Order<|(J (J s.p t)<|Z3i.get pc t).Loc)<|v9+V)==(J (J s.number t)<|Z3i.get pc t)) Z)<|gp h λ_ h=>?_;refine go h λ_ h=>?_
  cases h
  exact ⟨(),trivial,Um⟩
 refine gp h λ_ h=>?_;refine go h λ_ h=>?_
 cases h
 exact ⟨(),trivial,Um⟩
theorem yp:∀ (nf:Nat) (s:ZTr) (pc:Z3i) (aB:Nat) (iW:Nat) {q} (h:aR nf s pc=Us q),bH Uv 49 [.hp 0 aB 6 0 0,.agg (Z3i.c pc)] [Us ⟨aB,6,86,[[eL (cL TW.c) s.p,eL cI s.x.From,eL (cL cI) s.x.Order,eL (cL cI) s.number,hS Ur 1 iW 1 s.schedule.length,.mp 2 4]]⟩,bE Ur iW 1 3 (s.schedule.map cI),(Us<|mB 3 1 kI3 cB s.failed)] (Pj (Bo q.2) λver=>[Us ⟨aB,6,86,[[eL (cL TW.c) q.1.p,eL cI q.1.x.From,eL (cL cI) q.1.x.Order,eL (cL cI) q.1.number,hS Ur 1 ver 1 q.1.schedule.length,.mp 2 4]]⟩,bE Ur ver 1 3 (q.1.schedule.map cI),(Us<|mB 3 1 kI3 cB q.1.failed)]):=by
 intro nf
 induction nf with
 | zero=>intros;rename_i h;cases h
 | succ nf ih=>
  intro s pc aB iW q h;replace h:bu (aR nf) s pc=Us q:=h;refine bH.mkS func49 Z (by kernel_rfl) Z (by kernel_rfl) (e0:=ak [(0,.hp 0 aB 6 0 0),(1,.agg<|Z3i.c pc)]) (TR Z<|TR Z TQ)<|go h λ_ h=>?_;refine eF Z Z Z<|go h λ_ h=>?_;refine jH<|jH<|jP (dG [dF,dF,dF,([0],Ur),dF,([2],Ur)]) (by kernel_rfl) (by kernel_rfl) ?_;refine go h λ_ h=>?_;refine fR [2] Z (λG hG=>EvA.lookB (l:=s.failed) Tt Tryz.underlying84 (by kernel_rfl) (pc.x0,pc.x1,pc.x2) Z Z<|hG.a0 Z) ?_;refine gi h (λ_ q1 h=>?_) λ_ q1 h=>?_
  ·refine go h λ_ h=>?_;obtain rfl:=TV h
   repeat (first|refine kC ?_|refine kD ?_)
   exact ⟨ak [(4,Bo Ur)],[Us ⟨aB,6,86,[[eL (cL TW.c) s.p,eL cI s.x.From,eL (cL cI) s.x.Order,eL (cL cI) s.number,hS Ur 1 iW 1 s.schedule.length,.mp 2 4]]⟩,bE Ur iW 1 3 (s.schedule.map cI),(Us<|mB 3 1 kI3 cB s.failed)],Um,jQ (vs:=[Bo Ur]) (.cons (.tmp Z) .nil) ⟨iW,Z,Z⟩⟩
  refine go h λ_ h=>?_;refine T.jU h (λs2=>[(5,Bo s2),(3,.fp (Z3i.c pc) 0),(0,.hp 0 aB 6 0 0)]) (λs2=>[Us ⟨aB,6,86,[[eL (cL TW.c) s.p,eL cI s.x.From,eL (cL cI) s.x.Order,eL (cL cI) s.number,hS Ur 1 iW 1 s.schedule.length,.mp 2 4]]⟩,bE Ur iW 1 3 (s.schedule.map cI),(Us<|mB 3 1 kI3 cB s.failed)]) (λs2 h=>?_) λs2 h=>?_
  ·refine Ul h (λ_ q13 h=>?_) λ_ q13 h=>?_
   ·refine go h λ_ h=>?_;obtain rfl:=TV h
    repeat (first|refine kC ?_|refine kD ?_)
    exact ⟨ak [(4,Bo Uq)],[Us ⟨aB,6,86,[[eL (cL TW.c) s.p,eL cI s.x.From,eL (cL cI) s.x.Order,eL (cL cI) s.number,hS Ur 1 iW 1 s.schedule.length,.mp 2 4]]⟩,bE Ur iW 1 3 (s.schedule.map cI),(Us<|mB 3 1 kI3 cB s.failed)],Um,jQ (vs:=[Bo Uq]) (.cons (.tmp Z) .nil) ⟨iW,Z,Z⟩⟩
   refine go h λ_ h=>?_;obtain ⟨Ks14,es14,ws14,h,ks14⟩:=sumL h;refine T.join (S:=(List<|List TW)×(LI)×(LL)×(LL)×(LI)×(List<|(Int×Int×Int)×Bool)) (G:=Nat) (λs14=>Ks14 s14=Us q) (λs14 gh=>True) (λs14 gh=>[(3,.fp (Z3i.c pc) 0),(0,.hp 0 aB 6 0 0)]) (λs14 gh=>[Us ⟨aB,6,86,[[eL (cL TW.c) s14.1,eL cI s14.2.1,eL (cL cI) s14.2.2.1,eL (cL cI) s14.2.2.2.1,hS Ur 1 gh 1 s14.2.2.2.2.1.length,.mp 2 4]]⟩,bE Ur gh 1 3 (s14.2.2.2.2.1.map cI),(Us<|mB 3 1 kI3 cB s14.2.2.2.2.2)]) (λs14 u35 h hg=>?_) ?_
   ·clear ks14;subst es14;refine jH<|jP (dG [dF,dF,dF,([0],Ur),dF,([2],Uq)]) (by kernel_rfl) (by kernel_rfl) ?_;refine go h λ_ h=>?_;refine fV 2 [] Z Z (λG hG=>EvA.msetB (l:=s14.2.2.2.2.2) Tt Tryz.underlying84 (pc.x0,pc.x1,pc.x2) Uq Z Z Z<|hG.a0 Z)<|go h λ_ h=>?_;obtain rfl:=TV h
    repeat (first|refine kC ?_|refine kD ?_)
    exact ⟨ak [(4,Bo Ur)],[Us ⟨aB,6,86,[[eL (cL TW.c) s14.1,eL cI s14.2.1,eL (cL cI) s14.2.2.1,eL (cL cI) s14.2.2.2.1,hS Ur 1 u35 1 s14.2.2.2.2.1.length,.mp 2 4]]⟩,bE Ur u35 1 3 (s14.2.2.2.2.1.map cI),(Us<|mB 3 1 kI3 cB<|Ly s14.2.2.2.2.2 (pc.x0,pc.x1,pc.x2) Uq)],Um,jQ (vs:=[Bo Ur]) (.cons (.tmp Z) .nil) ⟨u35,Z,Z⟩⟩
   refine go h λ_ h=>?_;refine tT h iW (λs18 gh=>[(45,I s18.2.2.2.2.2.2),(44,I (s.p.length:Int)),(3,.fp (Z3i.c pc) 0),(0,.hp 0 aB 6 0 0)]) (λs18 gh=>[Us ⟨aB,6,86,[[eL (cL TW.c) s18.1,eL cI s18.2.1,eL (cL cI) s18.2.2.1,eL (cL cI) s18.2.2.2.1,hS Ur 1 gh 1 s18.2.2.2.2.1.length,.mp 2 4]]⟩,bE Ur gh 1 3 (s18.2.2.2.2.1.map cI),(Us<|mB 3 1 kI3 cB s18.2.2.2.2.2.1)]) λs18 u20 ws18 h=>?_;refine go h λ_ h=>?_;refine jH ?_;refine jN Z h (λq21 h=>?_) λq21 h=>?_
   ·refine go h λ_ h=>?_;obtain ⟨Ks22,es22,ws22,h,ks22⟩:=sumL h;refine T.join (S:=(List<|List TW)×(LI)×(LL)×(LL)×(LI)×(List<|(Int×Int×Int)×Bool)) (G:=Nat) (λs22=>Ks22 s22=Us ws18) (λs22 gh=>True) (λs22 gh=>[(45,I s18.2.2.2.2.2.2),(44,I (s.p.length:Int)),(3,.fp (Z3i.c pc) 0),(0,.hp 0 aB 6 0 0)]) (λs22 gh=>[Us ⟨aB,6,86,[[eL (cL TW.c) s22.1,eL cI s22.2.1,eL (cL cI) s22.2.2.1,eL (cL cI) s22.2.2.2.1,hS Ur 1 gh 1 s22.2.2.2.2.1.length,.mp 2 4]]⟩,bE Ur gh 1 3 (s22.2.2.2.2.1.map cI),(Us<|mB 3 1 kI3 cB s22.2.2.2.2.2)]) (λs22 u33 h hg=>?_) ?_
    ·clear ks22;subst es22;refine go h λ_ h=>?_;obtain rfl:=TV h;exact ⟨(s22.1,s22.2.1,s22.2.2.1,s22.2.2.2.1,s22.2.2.2.2.1,s22.2.2.2.2.2,(s18.2.2.2.2.2.2+V)),u33,Z,trivial,Um⟩
    refine go h λ_ h=>?_;refine gs h λ_ h=>?_;refine jB h λv23 cv23 h=>oA (EvA.callTP Z Z (zQ (⟨s18.1,(⟨s18.2.1,s18.2.2.1⟩:TY),s18.2.2.2.1⟩:ZTv) pc s18.2.2.2.2.2.2 cv23) (.cons (.hp (ver:=aB) (s:=6) (ty:=86) (r:=[eL (cL TW.c) s18.1,eL cI s18.2.1,eL (cL cI) s18.2.2.1,eL (cL cI) s18.2.2.2.1]) (x:=[hS Ur 1 u20 1 s18.2.2.2.2.1.length,.mp 2 4]) Z<|.cons (qC Z)<|.cons (qC Z)<|.cons (qC Z)<|.cons (qC Z) .nil)<|.cons (.fz<|qC Z)<|.cons (.fz<|qC Z) .nil) Z) ?_;refine gi h (λ_ q24 h=>?_) λ_ q24 h=>?_
    ·refine jM ?_;obtain rfl:=TV h;exact ⟨(s18.1,s18.2.1,s18.2.2.1,s18.2.2.2.1,s18.2.2.2.2.1,s18.2.2.2.2.2.1),u20,ks22,trivial,Um⟩
    refine go h λf h=>?_;obtain ⟨g25,_⟩:=f;refine oA (lh1 (λz0=>I<|Z3i.get pc z0) g25 Uk Z Z Z Z Z)<|go h λ_ h=>?_;refine oV (sr1 (λz0=>(Z3i.c<|Z3i.set pc z0<|(Z3i.get pc s18.2.2.2.2.2.2)+V)) g25 Uk Z Z Z Z Z Z)<|gk h λ_ _ h=>?_;refine gs h λ_ h=>?_;refine jB h λv28 cv28 h=>?_;refine oW Z Z Z (bH.outAt (ih (⟨s18.1,(⟨s18.2.1,s18.2.2.1⟩:TY),s18.2.2.2.1,(s18.2.2.2.2.1++[s18.2.2.2.2.2.2]),s18.2.2.2.2.2.1⟩:ZTr) (Z3i.set pc s18.2.2.2.2.2.2<|(Z3i.get pc s18.2.2.2.2.2.2)+V) aB (u20+1) cv28) [0,1,2] (by decide) (.cons Z (.rowL<|.cons (ay 9 _ Z)<|.cons (ay 9 _ Z)<|.cons (ay 9 _ Z)<|.cons (ay 9 _ Z)<|.cons (bh Z)<|.cons (.mp Z) .nil)<|.cons Z (RenK.bE' qD)<|.cons Z (RenK.mB _ qD) .nil) (.cons (.hp Z)<|.cons (ay 9 _ Z) .nil) (G:=λv_=>[Us ⟨aB,6,86,[[eL (cL TW.c) v28.1.p,eL cI v28.1.x.From,eL (cL cI) v28.1.x.Order,eL (cL cI) v28.1.number,hS Ur 1 v_ 1 v28.1.schedule.length,.mp 2 4]]⟩,bE Ur v_ 1 3 (v28.1.schedule.map cI),(Us<|mB 3 1 kI3 cB v28.1.failed)]) (G':=λv_=>[Us ⟨aB,6,86,[[eL (cL TW.c) v28.1.p,eL cI v28.1.x.From,eL (cL cI) v28.1.x.Order,eL (cL cI) v28.1.number,hS Ur 1 v_ 1 v28.1.schedule.length,.mp 2 4]]⟩,bE Ur v_ 1 3 (v28.1.schedule.map cI),(Us<|mB 3 1 kI3 cB v28.1.failed),Us ⟨0,3,88,[(Z3i.c<|Z3i.set pc s18.2.2.2.2.2.2<|(Z3i.get pc s18.2.2.2.2.2.2)+V)]⟩]) 4 Z (λv_ => .some (.rowL<|.cons (ay 9 _ Z)<|.cons (ay 9 _ Z)<|.cons (ay 9 _ Z)<|.cons (ay 9 _ Z)<|.cons (bh<|.inl Z)<|.cons (.mp<|.inl Z) .nil)<|.some (RenK.bE' qD)<|.some (RenK.mB _ qD) .nil) qD (r:=Bo v28.2) (ay 9 _ Z) qD) λu29=>?_;refine gi h (λ_ q30 h=>?_) λ_ q30 h=>?_
    ·refine go h λ_ h=>?_;obtain rfl:=TV h;replace h:=congrArg Us (show _=_ from ks22);refine lX h λh=>?_;obtain rfl:=TV h;replace h:=congrArg Us (show _=_ from ks14);obtain rfl:=TV h
     repeat (first|refine kC ?_|refine kD ?_)
     exact ⟨ak [(4,Bo Uq)],[Us ⟨aB,6,86,[[eL (cL TW.c) v28.1.p,eL cI v28.1.x.From,eL (cL cI) v28.1.x.Order,eL (cL cI) v28.1.number,hS Ur 1 u29 1 v28.1.schedule.length,.mp 2 4]]⟩,bE Ur u29 1 3 (v28.1.schedule.map cI),(Us<|mB 3 1 kI3 cB v28.1.failed)],Um,jQ (vs:=[Bo Uq]) (.cons (.tmp Z) .nil) ⟨u29,Z,Z⟩⟩
    refine go h λ_ h=>?_;refine T.drawH (dG [dF,dF,dF,dF,([0],Ur),dF,dF,dF,([0],Ur),dF,dF,([1],Uq),dF,dF,([0],Uq)]) (by kernel_rfl) (by kernel_rfl)<|go h λ_ h=>?_;refine jD h λg32 h=>fW 1 [] Z Z (λG hG=>EvA.cutO (l:=v28.1.schedule) (zl:=U) (zh:=((v28.1.schedule.length:Int)-V)) (TS.slhs Tryz.underlying31 Uk (l:=U) (h:=((v28.1.schedule.length:Int)-V)) Z .no (.yes Z) g32) (hG.a0 Z) Z g32)<|go h λ_ h=>?_;obtain rfl:=TV h;exact ⟨(v28.1.p,v28.1.x.From,v28.1.x.Order,v28.1.number,((v28.1.schedule.drop U.toNat).take<|((v28.1.schedule.length:Int)-V).toNat-U.toNat),v28.1.failed),u29+1,ks22,trivial,Um⟩
   refine jM<|lX h λh=>?_;obtain rfl:=TV h;exact ⟨(s18.1,s18.2.1,s18.2.2.1,s18.2.2.2.1,s18.2.2.2.2.1,s18.2.2.2.2.2.1),u20,ks14,trivial,Um⟩
  refine go h λ_ h=>?_;refine tU h (λs5=>[(20,I s5.1),(19,I (s.p.length:Int)),(5,Bo s5.2),(3,.fp (Z3i.c pc) 0),(0,.hp 0 aB 6 0 0)]) (λs5=>[Us ⟨aB,6,86,[[eL (cL TW.c) s.p,eL cI s.x.From,eL (cL cI) s.x.Order,eL (cL cI) s.number,hS Ur 1 iW 1 s.schedule.length,.mp 2 4]]⟩,bE Ur iW 1 3 (s.schedule.map cI),(Us<|mB 3 1 kI3 cB s.failed)]) λs5 ws5 h=>?_;refine go h λ_ h=>?_;refine jH ?_;refine jN Z h (λq7 h=>?_) λq7 h=>?_
  ·refine go h λ_ h=>?_;refine T.jU h (λs8=>[(5,Bo s8),(20,I s5.1),(19,I (s.p.length:Int)),(3,.fp (Z3i.c pc) 0),(0,.hp 0 aB 6 0 0)]) (λs8=>[Us ⟨aB,6,86,[[eL (cL TW.c) s.p,eL cI s.x.From,eL (cL cI) s.x.Order,eL (cL cI) s.number,hS Ur 1 iW 1 s.schedule.length,.mp 2 4]]⟩,bE Ur iW 1 3 (s.schedule.map cI),(Us<|mB 3 1 kI3 cB s.failed)]) (λs8 h=>?_) λs8 h=>?_
   ·refine go h λ_ h=>?_;exact lE h Um
   refine go h λ_ h=>?_;refine T.drawG (dG [dF,dF,dF,dF,dF,dF,dF,dF,([0],Ur),dF,dF,dF,dF,dF,dF,dF]) (by kernel_rfl) (by kernel_rfl)<|go h λ_ h=>?_;rcases CN h with ⟨q9,h⟩ | ⟨q9,h⟩
   ·refine go h λf h=>?_;obtain ⟨g10,_⟩:=f;refine tgN Z q9 Z (lf1 (λz0=>I<|Z3i.get pc z0) g10 Uk Z Z Z Z)<|go h λ_ h=>?_;refine tgR Z q9 [0] Z (λG hG=>EvA.loadhp (eL (cL TW.c) s.p) SR Z (hG.a0 Z) Z Z Z Z)<|gp h λ_ h=>?_;refine go h λ_ h=>?_
    cases h
    exact ⟨(),trivial,Um⟩
   refine gp h λ_ h=>?_;refine go h λ_ h=>?_
   cases h
   exact ⟨(),trivial,Um⟩
  refine jM<|lX h λh=>?_
  cases h
  exact ⟨(),trivial,Um⟩
theorem yZ (s:ZTr) (pc:Z3i) (aB:Nat) (iW:Nat) {q} (h:ku s pc=Us q):bH Uv 49 [.hp 0 aB 6 0 0,.agg (Z3i.c pc)] [Us ⟨aB,6,86,[[eL (cL TW.c) s.p,eL cI s.x.From,eL (cL cI) s.x.Order,eL (cL cI) s.number,hS Ur 1 iW 1 s.schedule.length,.mp 2 4]]⟩,bE Ur iW 1 3 (s.schedule.map cI),(Us<|mB 3 1 kI3 cB s.failed)] (Pj (Bo q.2) λver=>[Us ⟨aB,6,86,[[eL (cL TW.c) q.1.p,eL cI q.1.x.From,eL (cL cI) q.1.x.Order,eL (cL cI) q.1.number,hS Ur 1 ver 1 q.1.schedule.length,.mp 2 4]]⟩,bE Ur ver 1 3 (q.1.schedule.map cI),(Us<|mB 3 1 kI3 cB q.1.failed)]):=by
 obtain ⟨nf,h⟩:=qP h;exact yp nf s pc aB iW h
theorem tV (p:List<|List TW) (x:TY) {q} (h:bv p x=Us q):ax Uv 18 [eL (cL TW.c) p,.agg (TY.c x)] (.tup [eL cI q.1,Bo q.2]):=by
 refine pM func18 Z (by kernel_rfl) Z<|go h λ_ h=>?_;refine eF Z Z Z<|gq h λ_ h=>?_;refine jH<|T.reserve<|T.reserve<|T.reserve<|jP (dG [dF,dF,dF,dF,([0],Uq),([1],Uq),dF,([2],Uq),dF]) (by kernel_rfl) (by kernel_rfl) ?_;refine go h λ_ h=>?_;refine fC h (λ_=>xj _) Z Z Z Z Z λv1 _ h=>fW 0 [] Z Z (λG hG=>EvA.mkOR (c:=cI) 0 ([]:LI) [] lK Z Z Z qD qD Z<|hG.a0 Z)<|fW 1 [] Z Z (λG hG=>EvA.mmkA (kn:=3) kI3 1<|hG.a0 Z) ?_;refine go h λ_ h=>?_;refine fW 2 [] Z Z (λG hG=>EvA.bxA (cs:=[eL (cL TW.c) p,eL cI x.From,eL (cL cI) x.Order,eL (cL cI) v1,hS Ur 0 0 1 (([]:LI).length),.mp 1 4]) 2 Z Z<|hG.a0 Z)<|go h λ_ h=>?_;refine gs h λ_ h=>?_;refine oN (TS.buildZ Tryz.underlying88 Tq Uk)<|jB h λv2 cv2 h=>?_;refine oW Z Z Z (bH.outAt (yZ (⟨p,(⟨x.From,x.Order⟩:TY),v1,([]:LI),([]:List<|(Int×Int×Int)×Bool)⟩:ZTr) (⟨U,U,U⟩:Z3i) 0 0 cv2) [2,0,1] (by decide) (.cons Z (.rowL<|.cons (ay 9 _ Z)<|.cons (ay 9 _ Z)<|.cons (ay 9 _ Z)<|.cons (ay 9 _ Z)<|.cons (bh Z)<|.cons (.mp Z) .nil)<|.cons Z (RenK.bE' qD)<|.cons Z (RenK.mB _ qD) .nil) (.cons (.hp Z)<|.cons (ay 9 _ Z) .nil) (G:=λv_=>[Us ⟨0,6,86,[[eL (cL TW.c) v2.1.p,eL cI v2.1.x.From,eL (cL cI) v2.1.x.Order,eL (cL cI) v2.1.number,hS Ur 0 v_ 1 v2.1.schedule.length,.mp 1 4]]⟩,bE Ur v_ 1 3 (v2.1.schedule.map cI),(Us<|mB 3 1 kI3 cB v2.1.failed)]) (G':=λv_=>[bE Ur v_ 1 3 (v2.1.schedule.map cI),(Us<|mB 3 1 kI3 cB v2.1.failed),Us ⟨0,6,86,[[eL (cL TW.c) v2.1.p,eL cI v2.1.x.From,eL (cL cI) v2.1.x.Order,eL (cL cI) v2.1.number,hS Ur 0 v_ 1 v2.1.schedule.length,.mp 1 4]]⟩]) 3 Z (λv_ => .some (.rowL<|.cons (ay 9 _ Z)<|.cons (ay 9 _ Z)<|.cons (ay 9 _ Z)<|.cons (ay 9 _ Z)<|.cons (bh<|.inl Z)<|.cons (.mp<|.inl Z) .nil)<|.some (RenK.bE' qD)<|.some (RenK.mB _ qD) .nil) qD (r:=Bo v2.2) (ay 9 _ Z) qD) λu3=>?_;refine gi h (λ_ q4 h=>?_) λ_ q4 h=>?_
 ·exact gf h
 exact gf h
theorem vT (s1_:LI) (s2_:LI) {q} (h:fI s1_ s2_=Us q):ax Uv 54 [eL cI s1_,eL cI s2_] (Bo q):=by
 refine pM func54 Z (by kernel_rfl) Z<|go h λ_ h=>?_;refine Ul h (λ_ q1 h=>?_) λ_ q1 h=>?_
 ·exact gz h
 refine go h λ_ h=>?_;obtain ⟨Ks2,es2,ws2,h,ks2⟩:=sumL h;refine T.join (S:=Unit) (G:=Unit) (λs2=>Ks2 s2=Us q) (λs2 gh=>True) (λs2 gh=>[]) (λs2 gh=>[]) (λs2 gh h hg=>?_) ?_
 ·clear ks2;subst es2;exact gz h
 refine go h λ_ h=>?_;refine tU h (λs5=>[(13,I s5),(12,I (s1_.length:Int)),(0,eL cI s1_),(1,eL cI s2_)]) (λs5=>[]) λs5 ws5 h=>?_;refine go h λ_ h=>?_;refine jH ?_;refine jN Z h (λq7 h=>?_) λq7 h=>?_
 ·refine go h λ_ h=>?_;refine gs h λ_ h=>?_;refine jH<|T.drawP (by kernel_rfl) (by kernel_rfl) ?_;refine gi h (λ_ q10 h=>?_) λ_ q10 h=>?_
  ·refine go h λ_ h=>?_;refine lX h λh=>?_;obtain rfl:=TV h;replace h:=congrArg Us (show _=_ from ks2);exact gz h
  refine go h λ_ h=>?_;exact lE h Um
 refine jM<|lX h λh=>?_
 cases h
 exact ⟨(),(),ks2,trivial,Um⟩
theorem l7 (a:LI) (b:LI) {q} (h:cT a b=Us q):ax Uv 53 [eL cI a,eL cI b] (Bo q):=by
 refine pM func53 Z (by kernel_rfl) Z<|go h λ_ h=>?_;refine oC h (λ_=>vT _ _) Z Z Z Z λv1 _ h=>?_;exact gz h
theorem eX (s:LL) (gw:Bool) (aB:Nat) (hgw:gw=Uq->s=[]) {q} (h:aH s=Us q):bH Uv 52 [hS gw 0 aB 1 s.length,.fn (.func 53) []] [bE gw aB 1 31 (s.map<|cL cI)] (G9 1 31 (λx=>x) q.length (q.map<|cL cI) 0 []):=by
 refine bH.mkS func52 Z (by kernel_rfl) Z (by kernel_rfl) (e0:=ak [(0,hS gw 0 aB 1 s.length),(1,.fn (.func 53) [])]) (TR Z<|TR Z TQ)<|go h λ_ h=>?_;refine Ul h (λ_ q1 h=>?_) λ_ q1 h=>?_
 ·refine go h λ_ h=>?_;obtain rfl:=TV h
  repeat (first|refine kC ?_|refine kD ?_)
  exact ⟨ak [(4,hS gw 0 aB 1 s.length)],[bE gw aB 1 31 (s.map<|cL cI)],Um,jQ (vs:=[hS gw 0 aB 1 s.length]) (.cons (.tmp Z) .nil) ⟨gw,aB,(uO hgw Z),Z,Z⟩⟩
 refine go h λ_ h=>?_;obtain ⟨Ks2,es2,ws2,h,ks2⟩:=sumL h;refine T.join (S:=(LL)) (G:=(Bool×Nat)) (λs2=>Ks2 s2=Us q) (λs2 gh=>(gh.1=Uq->s2=[])) (λs2 gh=>[(0,hS gh.1 0 gh.2 1 s2.length)]) (λs2 gh=>[bE gh.1 gh.2 1 31 (s2.map<|cL cI)]) (λs2 gh h n45=>?_) ?_
 ·clear ks2;subst es2;obtain ⟨b44,u43⟩:=gh;refine go h λ_ h=>?_;obtain rfl:=TV h
  repeat (first|refine kC ?_|refine kD ?_)
  exact ⟨ak [(4,hS b44 0 u43 1 s2.length)],[bE b44 u43 1 31 (s2.map<|cL cI)],Um,jQ (vs:=[hS b44 0 u43 1 s2.length]) (.cons (.tmp Z) .nil) ⟨b44,u43,(uO n45 Z),Z,Z⟩⟩
 refine go h λ_ h=>?_;refine tL h (gw,aB) (λs8 gh=>(gh.1=Uq->s8.1=[])) (λs8 gh=>[(5,I s8.2),(0,hS gh.1 0 gh.2 1 s8.1.length),(1,.fn (.func 53) [])]) (λs8 gh=>[bE gh.1 gh.2 1 31 (s8.1.map<|cL cI)]) hgw λs8 gh ws8 h n12=>?_;obtain ⟨b11,u10⟩:=gh;refine Ul h (λ_ q13 h=>?_) λ_ q13 h=>?_
 ·refine go h λ_ h=>?_;obtain ⟨Ks14,es14,ws14,h,ks14⟩:=sumL h;refine T.join (S:=Unit) (G:=Unit) (λs14=>Ks14 s14=Us ws8) (λs14 gh=>True) (λs14 gh=>[(5,I s8.2),(0,hS Ur 0 u10 1 s8.1.length),(1,.fn (.func 53) [])]) (λs14 gh=>[bE Ur u10 1 31 (s8.1.map<|cL cI)]) (λs14 gh h hg=>?_) ?_
  ·clear ks14;subst es14;refine go h λ_ h=>?_;obtain rfl:=TV h;exact ⟨(s8.1,(s8.2+V)),(Ur,u10),Z,nofun,Um⟩
  refine go h λ_ h=>?_;refine jH<|jP (dG [dF,dF,dF,dF,([0],Ur),dF,dF,dF,dF,([0],Ur),dF]) (by kernel_rfl) (by kernel_rfl) ?_;refine go h λ_ h=>?_;refine jD h λg15 h=>?_;obtain rfl:=CE n12 rfl g15;refine go h λ_ h=>?_;refine fC h (λ_=>l7 _ _) Z Z Z Z Z λv18 _ h=>?_;refine gi h (λ_ q19 h=>?_) λ_ q19 h=>?_
  ·refine go h λ_ h=>?_;refine jD h λg20 h=>oN (TS.slhs Tryz.underlying25 CH (l:=s8.2) (h:=(s8.1.length:Int)) Z (.yes Z) .no g20)<|go h λ_ h=>?_;refine tJ h (λs21 gh=>[(5,I s21.2),(0,hS Ur 0 gh 1 s21.1.length)]) (λs21 gh=>[bE Ur gh 1 31 (s21.1.map<|cL cI)]) (λs21 u39 h=>?_) λs21 h=>?_
   ·refine go h λ_ h=>?_;refine jD h λg40 h=>oN (TS.slhs Tryz.underlying25 CH (l:=s21.2) (h:=(s21.1.length:Int)) Z (.yes Z) .no g40)<|oV (EvA.clearO (l:=s21.1) vo zrN Z Z<|Hd (l:=s21.1) g40 Z) ?_;refine go h λ_ h=>?_;refine jD h λg41 h=>oA (EvA.cutO (l:=(cpy s21.1 (0+s21.2.toNat) (aaw ((s21.1.length:Int).toNat-s21.2.toNat) (Uo:LI))<|(s21.1.length:Int).toNat-s21.2.toNat)) (zl:=(0:Int)) (zh:=s21.2) (TS.slhs Tryz.underlying25 CH (l:=(0:Int)) (h:=s21.2) Z .no (.yes Z) g41) Z (by simp [vA]) g41)<|go h λ_ h=>?_;obtain rfl:=TV h;replace h:=congrArg Us (show _=_ from ks14);refine lX h λh=>?_;obtain rfl:=TV h;replace h:=congrArg Us (show _=_ from ks2);obtain rfl:=TV h
    repeat (first|refine kC ?_|refine kD ?_)
    exact ⟨ak [(4,hS Ur 0 (u39+1) 1<|(((cpy s21.1 (0+s21.2.toNat) (aaw ((s21.1.length:Int).toNat-s21.2.toNat) (Uo:LI))<|(s21.1.length:Int).toNat-s21.2.toNat).drop U.toNat).take<|s21.2.toNat-U.toNat).length)],[bE Ur (u39+1) 1 31 ((((cpy s21.1 (0+s21.2.toNat) (aaw ((s21.1.length:Int).toNat-s21.2.toNat) (Uo:LI))<|(s21.1.length:Int).toNat-s21.2.toNat).drop U.toNat).take<|s21.2.toNat-U.toNat).map<|cL cI)],Um,jQ (vs:=[hS Ur 0 (u39+1) 1 ((((cpy s21.1 (0+s21.2.toNat) (aaw ((s21.1.length:Int).toNat-s21.2.toNat) (Uo:LI))<|(s21.1.length:Int).toNat-s21.2.toNat).drop U.toNat).take<|s21.2.toNat-U.toNat).length)]) (.cons (.tmp Z) .nil) ⟨Ur,u39+1,nofun,Z,Z⟩⟩
   refine go h λ_ h=>?_;refine tT h u10 (λs25 gh=>[(7,I s25.2.1),(6,.hs 0 gh 1 (0+s8.2.toNat)<|(s8.1.length:Int).toNat-s8.2.toNat),(5,I s25.2.2),(0,hS Ur 0 gh 1 s25.1.length),(1,.fn (.func 53) [])]) (λs25 gh=>[bE Ur gh 1 31 (s25.1.map<|cL cI)]) λs25 u27 ws25 h=>?_;let d0:=s25.1.getD ((0+s8.2.toNat)+s25.2.1.toNat) Uo;refine Ul h (λ_ q28 h=>?_) λ_ q28 h=>?_
   ·refine go h λ_ h=>?_;refine tJ h (λs29 gh=>[(5,I s29.2),(7,I s25.2.1),(6,.hs 0 gh 1 (0+s8.2.toNat)<|(s8.1.length:Int).toNat-s8.2.toNat),(0,hS Ur 0 gh 1 s29.1.length),(1,.fn (.func 53) [])]) (λs29 gh=>[bE Ur gh 1 31 (s29.1.map<|cL cI)]) (λs29 u37 h=>?_) λs29 h=>?_
    ·refine go h λ_ h=>?_;obtain rfl:=TV h;exact ⟨(s29.1,(s25.2.1+V),s29.2),u37,Z,trivial,Um⟩
    refine go h λ_ h=>?_;refine jH<|jP (dG [dF,dF,dF,dF,([0],Ur),dF,dF,dF,dF,([0],Ur),dF,dF]) (by kernel_rfl) (by kernel_rfl) ?_;refine go h λ_ h=>?_;refine jD h λg30 h=>fN Z (TS.ixP vo Z Z g30.1)<|fR [0] Z (λG hG=>EvA.ldO (g:=false) (l:=s25.1) (eL cI d0) CH Z (hG.a0 Z) nofun g30.2 Z) ?_;refine go h λ_ h=>?_;refine jD h λg32 h=>fN Z (TS.ixP vo Z Z g32.1)<|fR [0] Z (λG hG=>EvA.ldO (g:=false) (l:=s25.1) (eL cI<|s25.1.getD ((0+s8.2.toNat)+(s25.2.1-V).toNat) Uo) CH Z (hG.a0 Z) nofun g32.2 Z)<|fC h (λ_=>l7 _ _) Z Z Z Z Z λv33 _ h=>?_;refine gi h (λ_ q34 h=>?_) λ_ q34 h=>?_
    ·refine go h λ_ h=>?_;refine oN (TS.ixP vo Z Z g30.1)<|oA (EvA.ldO (g:=false) (l:=s25.1) (eL cI d0) CH Z Z nofun g30.2 Z) ?_;refine go h λf h=>?_;obtain ⟨g35,_⟩:=f;refine oV (EvA.stO (g:=false) (l:=s25.1) (cs:=[eL cI d0]) d0 CH Z Z Z nofun (aG Z g35) Z Z Z)<|go h λ_ h=>?_;obtain rfl:=TV h;exact ⟨u27,trivial,BB Z<|TR Z<|TR Z<|TR Z<|TR (congrArg (hS Ur 0 u27 1) (by simp:s25.1.length=(s25.1.set s25.2.2.toNat d0).length))<|TR Z TQ⟩
    refine go h λ_ h=>?_
    cases h
    exact ⟨u27,trivial,Um⟩
   refine jM<|lX h λh=>?_
   cases h
   exact ⟨u27,trivial,Um⟩
  refine go h λ_ h=>?_
  cases h
  exact ⟨(),(),ks14,trivial,Um⟩
 refine jM<|lX h λh=>?_;obtain rfl:=TV h;exact ⟨s8.1,(b11,u10),ks2,n12,Um⟩
theorem wS (list:LL) (gw:Bool) (aB:Nat) (hgw:gw=Uq->list=[]) {q} (h:gu list=Us q):bH Uv 19 [hS gw 0 aB 1 list.length] [bE gw aB 1 31 (list.map<|cL cI)] (G9 1 31 (λx=>x) q.length (q.map<|cL cI) 0 []):=by
 refine bH.mkS func19 Z (by kernel_rfl) Z (by kernel_rfl) (e0:=ak [(0,hS gw 0 aB 1 list.length)]) (TR Z TQ)<|go h λ_ h=>?_;refine jB h λv1 cv1 h=>oA (EvA.call Z Z Z<|(zP list gw aB hgw cv1).oneE Z (.cons (bh Z)<|.cons (.pF Z) .nil) (nH qD) (nH qD) Z)<|go h λ_ h=>?_;refine jB h λv2 cv2 h=>?_;refine oGW Z Z (eX v1 gw aB (λx=>xS (hgw x) cv1) cv2) Z (.cons (JL Z (xU cv1).symm)<|.cons (.pF Z) .nil) (nH qD) (nH qD) nI λg3 v4 n5=>?_;refine go h λ_ h=>?_;obtain rfl:=TV h
 repeat (first|refine kC ?_|refine kD ?_)
 exact ⟨ak [(2,hS g3 0 v4 1 v2.length)],[bE g3 v4 1 31 (v2.map<|cL cI)],Um,jQ (vs:=[hS g3 0 v4 1 v2.length]) (.cons (.tmp Z) .nil) ⟨g3,v4,(uO (λx=>aax<|n5 x) Z),Z,Z⟩⟩
theorem Bc (p:List<|List TW) {q} (h:f7 p=Us q):ax Uv 5 [eL (cL TW.c) p] (eL (cL cI) q):=by
 refine pM func5 Z (by kernel_rfl) Z<|go h λ_ h=>?_;refine gs h λ_ h=>?_;refine oC h (λ_=>kY _) Z Z Z Z λv1 _ h=>?_;refine gi h (λ_ q2 h=>?_) λ_ q2 h=>?_
 ·refine go h λ_ h=>?_;obtain rfl:=TV h
  repeat (first|refine kC ?_|refine kD ?_)
  exact jQ (vs:=[.nil]) (.cons (.tmp Z) .nil) .nil0
 refine jG<|jH<|T.reserve ?_;refine go h λ_ h=>?_;refine T.jF (G:=(Bool×Nat)) h (λs3 gh=>(gh.1=Uq->s3=[])) (λs3 gh=>[(3,hS gh.1 0 gh.2 1 s3.length)]) (λs3 gh=>[bE gh.1 gh.2 1 31 (s3.map<|cL cI)]) (λs3 gh h n27=>?_) λs3 h=>?_
 ·obtain ⟨b26,u25⟩:=gh;refine go h λ_ h=>?_;refine jB h λv28 cv28 h=>?_;refine oGW Z Z (wS s3 b26 u25 n27 cv28) Z (.cons (bh Z) .nil) (nH qD) (nH qD) nI λg29 v30 n31=>?_;exact gf h
 refine go h λ_ h=>?_;refine oC h (λ_=>Cb _) Z Z Z Z λv4 _ h=>(go h λ_ h=>?_);refine tL h (Uq,0) (λs10 gh=>(gh.1=Uq->s10.1=[])) (λs10 gh=>[(14,I s10.2),(13,I (v4.length:Int)),(12,eL TY.c v4),(3,hS gh.1 0 gh.2 1 s10.1.length),(0,eL (cL TW.c) p)]) (λs10 gh=>[bE gh.1 gh.2 1 31 (s10.1.map<|cL cI)]) qD λs10 gh ws10 h n14=>?_;obtain ⟨b13,u12⟩:=gh;refine go h λ_ h=>?_;refine jH ?_;refine jN Z h (λq15 h=>?_) λq15 h=>?_
 ·refine go h λ_ h=>?_;refine T.jF (G:=(Bool×Nat)) h (λs16 gh=>(gh.1=Uq->s16=[])) (λs16 gh=>[(3,hS gh.1 0 gh.2 1 s16.length),(14,I s10.2),(13,I (v4.length:Int)),(12,eL TY.c v4),(0,eL (cL TW.c) p)]) (λs16 gh=>[bE gh.1 gh.2 1 31 (s16.map<|cL cI)]) (λs16 gh h n23=>?_) λs16 h=>?_
  ·obtain ⟨b22,u21⟩:=gh;refine go h λ_ h=>?_;obtain rfl:=TV h;exact ⟨(s16,(s10.2+V)),(b22,u21),Z,n23,Um⟩
  refine go h λ_ h=>?_;refine oC h (λ_=>tV _ _) Z Z Z Z λv18 _ h=>?_;refine gi h (λ_ q19 h=>?_) λ_ q19 h=>?_
  ·refine gk h λ_ _ h=>?_
   cases h
   exact ⟨(Ur,u12+1),nofun,Um⟩
  refine go h λ_ h=>?_
  cases h
  exact ⟨(b13,u12),n14,Um⟩
 refine jM<|lX h λh=>?_
 cases h
 exact ⟨(b13,u12),n14,Um⟩
theorem xk (x:TW) {q} (h:gQ x=Us q):ax Uv 103 [.agg (TW.c x)] (Bo q):=by
 refine pM func103 Z (by kernel_rfl) Z<|go h λ_ h=>?_;refine eF Z Z Z<|go h λ_ h=>?_;refine TO.jB h 4 (λs1=>[(10,Bo s1)]) (λs1=>[]) (λs1 q2 h js1=>?_) (λs1 q2 h js1=>?_) λs1 h=>?_
 ·exact gj h js1
 ·exact gj h js1
 exact gz h
theorem vU (x:TW) {q} (h:fB x=Us q):ax Uv 104 [.agg (TW.c x)] (Bo q):=by
 refine pM func104 Z (by kernel_rfl) Z<|go h λ_ h=>?_;refine eF Z Z Z<|go h λ_ h=>?_;refine TO.jB h 4 (λs1=>[(10,Bo s1),(1,.fp (TW.c x) 0)]) (λs1=>[]) (λs1 q2 h js1=>?_) (λs1 q2 h js1=>?_) λs1 h=>?_
 ·exact gj h js1
 ·exact gj h js1
 refine go h λ_ h=>?_;refine TO.jB h 4 (λs3=>[(15,Bo s3)]) (λs3=>[]) (λs3 q4 h js3=>?_) (λs3 q4 h js3=>?_) λs3 h=>?_
 ·exact gj h js3
 ·exact gj h js3
 exact gz h
theorem p8 (p:List<|List TW) {q} (h:iF p=Us q):ax Uv 62 [eL (cL TW.c) p] (eL TZ.c q):=by
 refine pM func62 Z (by kernel_rfl) Z<|go h λ_ h=>?_;refine oA (EvA.mkO (c:=TZ.c) ([]:List TZ) [] K9 Z Z Z qD Z Z)<|go h λ_ h=>?_;refine tJ h (λs1 gh=>[(3,hS Ur 0 gh 5 s1.length),(0,eL (cL TW.c) p)]) (λs1 gh=>[bE Ur gh 5 75 (s1.map TZ.c)]) (λs1 u11 h=>?_) λs1 h=>?_
 ·refine tJ h (λs12 gh=>[(3,hS Ur 0 gh 5 s12.length)]) (λs12 gh=>[bE Ur gh 5 75 (s12.map TZ.c)]) (λs12 u39 h=>?_) λs12 h=>?_
  ·exact gf h
  refine go h λ_ h=>?_;refine tT h u11 (λs16 gh=>[(5,I s16.2),(3,hS Ur 0 gh 5 s16.1.length),(0,eL (cL TW.c) p)]) (λs16 gh=>[bE Ur gh 5 75 (s16.1.map TZ.c)]) λs16 u18 ws16 h=>?_;refine Ul h (λ_ q19 h=>?_) λ_ q19 h=>?_
  ·refine go h λ_ h=>?_;refine tJ h (λs20 gh=>[(5,I s16.2),(3,hS Ur 0 gh 5 s20.length),(0,eL (cL TW.c) p)]) (λs20 gh=>[bE Ur gh 5 75 (s20.map TZ.c)]) (λs20 u37 h=>?_) λs20 h=>?_
   ·refine go h λ_ h=>?_;obtain rfl:=TV h;exact ⟨(s20,(s16.2+V)),u37,Z,trivial,Um⟩
   refine go h λ_ h=>?_;refine tT h u18 (λs24 gh=>[(6,I s24.2),(5,I s16.2),(3,hS Ur 0 gh 5 s24.1.length),(0,eL (cL TW.c) p)]) (λs24 gh=>[bE Ur gh 5 75 (s24.1.map TZ.c)]) λs24 u26 ws24 h=>?_;refine gs h λf h=>?_;obtain ⟨g27,_⟩:=f;refine jN Z h (λq28 h=>?_) λq28 h=>?_
   ·refine go h λ_ h=>?_;refine tJ h (λs29 gh=>[(3,hS Ur 0 gh 5 s29.length),(6,I s24.2),(5,I s16.2),(0,eL (cL TW.c) p)]) (λs29 gh=>[bE Ur gh 5 75 (s29.map TZ.c)]) (λs29 u35 h=>?_) λs29 h=>?_
    ·refine go h λ_ h=>?_;obtain rfl:=TV h;exact ⟨(s29,(s24.2+V)),u35,Z,trivial,Um⟩
    refine gi h (λ_ q31 h=>?_) λ_ q31 h=>?_
    ·refine T.cl [7,6,5,3,0] Z<|jP (dG [dF,dF,dF,dF,([1],Ur),([1],Ur),dF,([1],Ur),dF,dF,dF,([0],Uq),dF]) (by kernel_rfl) (by kernel_rfl) ?_;refine go h λ_ h=>?_;refine fC h (λ_=>xk _) Z Z Z Z Z λv32 _ h=>(go h λ_ h=>?_);refine fC h (λ_=>vU _) Z Z Z Z Z λv33 _ h=>(go h λ_ h=>?_);refine fN Z (TS.mkF (c:=TZ.c) ([(⟨s16.2,s24.2,(J (J p s16.2) s24.2).Loc,v32,v33⟩:TZ)]:List TZ) [[I s16.2,I s24.2,I ((J (J p s16.2) s24.2).Loc),Bo v32,Bo v33]] K9 Z Z Z qD TZ.isF Z)<|jL h λg34 h=>fW 0 [] Z Z (λG hG=>EvA.app1 (g:=false) (l:=s24.1) (⟨s16.2,s24.2,(J (J p s16.2) s24.2).Loc,v32,v33⟩:TZ) K9 (by kernel_rfl) Z Z (hG.a0 Z) nofun (cu.fz (l:=([(⟨s16.2,s24.2,(J (J p s16.2) s24.2).Loc,v32,v33⟩:TZ)]:List TZ)) Z qD) g34) ?_;refine go h λ_ h=>?_
     cases h
     exact ⟨u26+1,trivial,Um⟩
    refine go h λ_ h=>?_
    cases h
    exact ⟨u26,trivial,Um⟩
   refine jM<|lX h λh=>?_
   cases h
   exact ⟨u26,trivial,Um⟩
  refine jM<|lX h λh=>?_
  cases h
  exact ⟨u18,trivial,Um⟩
 refine go h λ_ h=>?_;refine tT h 0 (λs5 gh=>[(4,I s5.2),(3,hS Ur 0 gh 5 s5.1.length),(0,eL (cL TW.c) p)]) (λs5 gh=>[bE Ur gh 5 75 (s5.1.map TZ.c)]) λs5 u7 ws5 h=>?_;refine Ul h (λ_ q8 h=>?_) λ_ q8 h=>?_
 ·refine go h λ_ h=>?_;refine gs h λ_ h=>?_;refine oN (TS.mkF (c:=TZ.c) ([(⟨(-1:Int),s5.2,s5.2,Ur,Uq⟩:TZ)]:List TZ) [[I (-1:Int),I s5.2,I s5.2,Bo Ur,Bo Uq]] K9 Z Z Z qD TZ.isF Z)<|go h λ_ h=>?_;obtain rfl:=TV h;exact ⟨((s5.1++[(⟨(-1:Int),s5.2,s5.2,Ur,Uq⟩:TZ)]),(s5.2+V)),u7+1,Z,trivial,Um⟩
 refine jM<|lX h λh=>?_
 cases h
 exact ⟨u7,trivial,Um⟩
theorem uM (events:List TZ) (loc:Int) {q} (h:f8 events loc=Us q):ax Uv 142 [eL TZ.c events,I loc] (eL cI q):=by
 refine pM func142 Z (by kernel_rfl) Z<|go h λ_ h=>?_;refine oA (EvA.mkO (c:=cI) ([]:LI) [] lK Z Z Z qD Z Z)<|go h λ_ h=>?_;refine tJ h (λs1 gh=>[(5,hS Ur 0 gh 1 s1.length)]) (λs1 gh=>[bE Ur gh 1 3 (s1.map cI)]) (λs1 u17 h=>?_) λs1 h=>?_
 ·exact gf h
 refine go h λ_ h=>?_;refine tT h 0 (λs5 gh=>[(6,I s5.2),(5,hS Ur 0 gh 1 s5.1.length),(0,eL TZ.c events),(1,I loc)]) (λs5 gh=>[bE Ur gh 1 3 (s5.1.map cI)]) λs5 u7 ws5 h=>?_;refine Ul h (λ_ q8 h=>?_) λ_ q8 h=>?_
 ·refine go h λ_ h=>?_;refine tJ h (λs9 gh=>[(5,hS Ur 0 gh 1 s9.length),(6,I s5.2),(0,eL TZ.c events),(1,I loc)]) (λs9 gh=>[bE Ur gh 1 3 (s9.map cI)]) (λs9 u15 h=>?_) λs9 h=>?_
  ·refine go h λ_ h=>?_;obtain rfl:=TV h;exact ⟨(s9,(s5.2+V)),u15,Z,trivial,Um⟩
  refine go h λf h=>?_;obtain ⟨g10,_⟩:=f;refine TO.jB h 8 (λs11=>[(27,Bo s11),(6,I s5.2),(5,hS Ur 0 u7 1 s5.1.length),(0,eL TZ.c events),(1,I loc)]) (λs11=>[bE Ur u7 1 3 (s5.1.map cI)]) (λs11 q12 h js11=>?_) (λs11 q12 h js11=>?_) λs11 h=>?_
  ·exact gj h js11
  ·exact gj h js11
  refine gi h (λ_ q13 h=>?_) λ_ q13 h=>?_
  ·refine gk h λ_ _ h=>?_
   cases h
   exact ⟨u7+1,trivial,Um⟩
  refine go h λ_ h=>?_
  cases h
  exact ⟨u7,trivial,Um⟩
 refine jM<|lX h λh=>?_
 cases h
 exact ⟨u7,trivial,Um⟩
theorem Cc:∀ (nf:Nat) (events:List TZ) (i:Int) {q} (h:jr nf events i=Us q),ax Uv 100 [eL TZ.c events,I i] (eL (cL cI) q):=by
 intro nf
 induction nf with
 | zero=>intros;rename_i h;cases h
 | succ nf ih=>
  intro events i q h;replace h:f9 (jr nf) events i=Us q:=h;refine pM func100 Z (by kernel_rfl) Z<|jI<|oN as'<|jA<|jH<|jI<|oN mv<|oN mv<|oN (TS.lenL K9 Z)<|oN (TS.ieq Z Z)<|jA ?_;refine jN Z h (λq1 h=>?_) λq1 h=>?_
  ·refine jI<|oN (TS.mkF (c:=cI) ([]:LI) [] lK Z Z Z qD qD Z)<|oN (TS.mkF (c:=(cL cI)) ([([]:LI)]:LL) [[eL cI ([]:LI)]] vo Z Z Z qD qD Z)<|oN as'<|jA<|jK ?_
   cases h
   exact JK Z Z Z
  refine jG<|jI<|oN mv<|oN mv<|jW h λg2 h=>oN (TS.add Z Z g2)<|oC h (λ_=>ih _ _) Z Z Z Z λv3 _ h=>oN as'<|jA<|jI<|oN (TS.mkF (c:=cI) ([(-1:Int)]:LI) [[I (-1:Int)]] lK Z Z Z qD qD Z)<|oN as'<|jA ?_;refine T.jU h (λs4=>[(6,eL cI s4),(5,eL (cL cI) v3),(1,I i)]) (λs4=>[]) (λs4 h=>?_) λs4 h=>?_
  ·refine jI<|oA (EvA.mkO (c:=(cL cI)) ([]:LL) [] vo Z Z Z qD Z Z)<|oN (TS.asg (hS Ur 0 0 1<|([]:LL).length) Z)<|jA ?_;refine T.jF (G:=Nat) h (λs8 gh=>True) (λs8 gh=>[(7,hS Ur 0 gh 1 s8.length)]) (λs8 gh=>[bE Ur gh 1 31 (s8.map<|cL cI)]) (λs8 u34 h hg=>?_) λs8 h=>?_
   ·refine jI<|oN mv<|oN (TS.asg (hS Ur 0 u34 1 s8.length) Z)<|jA<|jK ?_;obtain rfl:=TV h
    repeat (first|refine kC ?_|refine kD ?_)
    exact jQ (vs:=[hS Ur 0 u34 1 s8.length]) (.cons (.tmp Z) .nil)<|Fz.own (g:=false) (ver:=u34) (l:=s8) Z Z Z nofun qD
   refine jI<|oN as'<|jA<|jE ?_;refine jO (S:=(LL)×Int) (G:=Nat) (gB i v3 s4) (λs12 gh=>True) (λs12 gh=>[(8,I s12.2),(7,hS Ur 0 gh 1 s12.1.length),(6,eL cI s4),(5,eL (cL cI) v3),(1,I i)]) (λs12 gh=>[bE Ur gh 1 31 (s12.1.map<|cL cI)]) (s0:=(([]:LL),U)) 0 h trivial (kw Z Z) λs12 u14 ws12 h hg=>?_;let d0:=s4.getD s12.2.toNat Uo;refine jH<|jI<|oN mv<|oN mv<|oN (TS.lenL lK Z)<|oN (TS.ilt Z Z)<|jA ?_;refine jN Z h (λq15 h=>?_) λq15 h=>?_
   ·refine jG ?_;refine T.jF (G:=Nat) h (λs16 gh=>True) (λs16 gh=>[(8,I s12.2),(7,hS Ur 0 gh 1 s16.length),(6,eL cI s4),(5,eL (cL cI) v3),(1,I i)]) (λs16 gh=>[bE Ur gh 1 31 (s16.map<|cL cI)]) (λs16 u32 h hg=>?_) λs16 h=>?_
    ·refine jC<|oN mv<|jW h λg33 h=>oN (TS.add Z Z g33)<|oN as'<|jA ?_;obtain rfl:=TV h;exact ⟨(s16,(s12.2+V)),u32,Z,trivial,kw Z Z⟩
    refine jE<|jI<|oN as'<|jA<|jE ?_;refine jO (S:=(LL)×Int) (G:=Nat) (gy i v3 s4 s12) (λs20 gh=>True) (λs20 gh=>[(9,I s20.2),(8,I s12.2),(7,hS Ur 0 gh 1 s20.1.length),(6,eL cI s4),(5,eL (cL cI) v3),(1,I i)]) (λs20 gh=>[bE Ur gh 1 31 (s20.1.map<|cL cI)]) (s0:=(s12.1,U)) u14 h trivial (kw Z Z) λs20 u22 ws20 h hg=>?_;refine jH<|jI<|oN mv<|oN mv<|oN (TS.lenL vo Z)<|oN (TS.ilt Z Z)<|oN mv ?_;refine TO.jB h 7 (λs23=>[(51,Bo s23),(9,I s20.2),(8,I s12.2),(7,hS Ur 0 u22 1 s20.1.length),(6,eL cI s4),(5,eL (cL cI) v3),(1,I i)]) (λs23=>[bE Ur u22 1 31 (s20.1.map<|cL cI)]) (λs23 q24 h js23=>?_) (λs23 q24 h js23=>?_) λs23 h=>?_
    ·refine gN Z q24 mv<|gN Z q24 mv<|jD h λg25 h=>gN Z q24 (TS.ixL lK Z Z g25 qD)<|gN Z q24 (lf (I d0) Uk Z)<|gN Z q24 mv<|gN Z q24 (TS.ine Z Z)<|oN (TS.pickT Z q24 (Bo<|d0 != i) Z) ?_
     cases h
     exact js23 _ _<|kw Z Z
    ·refine gS Z q24<|gS Z q24<|gS Z q24<|gS Z q24<|gS Z q24<|gS Z q24<|oN (TS.pickF Z q24 (Bo Ur) Z) ?_
     cases h
     exact js23 _ _<|kw Z Z
    refine jA ?_;refine jN Z h (λq26 h=>?_) λq26 h=>?_
    ·refine jG<|jH<|jE<|T.drawX [0,1,2,3,4,6,7,8,9,5,10,11,12,13] (λi=>([(Ur,[]),(Ur,[]),(Ur,[]),(Ur,[]),(Ur,[]),(Uq,[]),(Ur,[]),(Ur,[]),(Ur,[]),(Ur,[]),(Uq,[1]),(Uq,[]),(Uq,[0]),(Ur,[])]:List Xc).getD i (Ur,[])) (by kernel_rfl) (by kernel_rfl) (by kernel_rfl)<|xN Z Z mv<|xN Z Z mv<|xN Z Z mv<|jD h λg27 h=>xN Z Z (TS.ixL lK Z Z g27 qD)<|xN Z Z (lf (I d0) Uk Z)<|xN Z Z mv<|xN Z Z mv<|jD h λg28 h=>xN Z Z (TS.ixL vo Z Z g28 qD)<|xN Z Z (lf (eL cI<|J v3 s20.2) CH Z)<|xA Z Z (EvA.mkO (c:=cI) ([d0]:LI) [[I d0]] lK Z Z Z qD Z Z) yL ?_;refine jL h λg29 h=>xA Z Z (EvA.appF (l:=([d0]:LI)) (J v3 s20.2) lK (by kernel_rfl) Z Z Z (cu.fz (l:=(J v3 s20.2)) Z qD) g29) wy<|xA Z Z (EvA.mkR [[hS Ur 1 (0+1) 1 ((([d0]:LI)++(J v3 s20.2)).length)]] vo Z Z Z Z) yL<|jL h λg30 h=>xA Z Z (EvA.appR (g:=false) (rows:=s20.1.map<|cL cI) (rows':=s20.1.map (cL cI)++[[hS Ur 1 (0+1) 1 ((([d0]:LI)++(J v3 s20.2)).length)]]) (n':=s20.1.length+1) vo (by kernel_rfl) Z Z (by simp) nofun (cu.raw (rows:=[[hS Ur 1 (0+1) 1 ((([d0]:LI)++(J v3 s20.2)).length)]]) Z Z Z) g30 Z Z) wy<|xN Z Z (TS.asg (hS Ur 0 (u22+1) 1<|s20.1.length+1) Z)<|TX.nil<|T.cut (e0:=ak [(7,hS Ur 0 (u22+1) 1<|(s20.1++[(([d0]:LI)++(J v3 s20.2))]).length),(9,I s20.2),(8,I s12.2),(6,eL cI s4),(5,eL (cL cI) v3),(1,I i)]) (H0:=[bE Ur (u22+1) 1 31 ((s20.1++[(([d0]:LI)++(J v3 s20.2))]).map<|cL cI)]) (rI Z (.cons (.snoc qD<|.cons (.cons (.fz<|Fz.own (g:=false) (ver:=0+1) (l:=(([d0]:LI)++(J v3 s20.2))) Z Z Z nofun qD) .nil) .nil) .nil)<|ai (.eqv (congrArg (hS Ur 0 (u22+1) 1) (by simp:(s20.1.length+1)=(s20.1++[(([d0]:LI)++(J v3 s20.2))]).length))<|.hS (g:=false) (b:=0) (ver:=u22+1) (s:=1) (n:=(s20.1++[(([d0]:LI)++(J v3 s20.2))]).length) Z)<|ai (.fz<|qC Z)<|ai (.fz<|qC Z)<|ai (.fz<|qC Z)<|ai (.fz<|qC Z)<|ai (.fz<|qC Z) aY)<|jC<|oN mv<|jW h λg31 h=>oN (TS.add Z Z g31)<|oN as'<|jA ?_;obtain rfl:=TV h;exact ⟨((s20.1++[(([d0]:LI)++(J v3 s20.2))]),(s20.2+V)),u22+1,Z,trivial,kw Z Z⟩
    refine jM<|lX h λh=>?_
    cases h
    exact ⟨u22,trivial,kw Z Z⟩
   refine jM<|lX h λh=>?_
   cases h
   exact ⟨u14,trivial,kw Z Z⟩
  refine jI<|oN mv<|oN mv<|jD h λg5 h=>oN (TS.ixL K9 Z Z g5 qD)<|oN (fa Tp Z)<|oN (lf (Bo<|(J events i).Reads) ty4 Z)<|jA ?_;refine jN Z h (λq6 h=>?_) λq6 h=>?_
  ·refine T.clean (H0:=[]) (e0:=ak [(5,eL (cL cI) v3),(0,eL TZ.c events),(1,I i)]) Z (TR Z<|TR Z<|TR Z TQ)<|jC<|oN mv<|oN mv<|oN mv<|oN (TS.ixL K9 Z Z g5 qD)<|oN (fa Tp Z)<|oN (lf (I<|(J events i).Loc) Uk Z)<|oC h (λ_=>uM _ _) Z Z Z Z λv7 _ h=>oN as'<|jA ?_
   cases h
   exact ⟨(),trivial,kw Z Z⟩
  refine jG ?_
  cases h
  exact ⟨(),trivial,kw Z Z⟩
theorem CX (events:List TZ) (i:Int) {q} (h:uP events i=Us q):ax Uv 100 [eL TZ.c events,I i] (eL (cL cI) q):=by
 obtain ⟨nf,h⟩:=qP h;exact Cc nf events i h
end
end Go.Proofs.YtdmahcaohkplcaaGreatDoor
