/- Texts joined. No conditions. -/
import Derived.Test.YtjcmfddobaplbaaGreatK9
namespace Go.Proofs.YtjcmfddobaplbaaGreat
noncomputable section
set_option maxHeartbeats 4000000
open Go.RowKit
set_option maxRecDepth 100000
theorem fu (s1_:List GY) (s2_:List GY) {q} (h:aO s1_ s2_=some q):aJ Tryz.prog 54 [eL GY.c s1_,eL GY.c s2_] (Bo q):=by
 refine pM Tryz.func54 Z (by kernel_rfl) Z<|jI<|oN as'<|jA<|jH<|jI<|oN mv<|oN (GU.lenL mQ Z)<|oN mv<|oN (GU.lenL mQ Z)<|oN (GU.ine Z Z)<|jA ?_;refine jN Z h (λq1 h=>?_) λq1 h=>?_
 ·refine jI<|oN as'<|jA<|jK ?_
  cases h
  exact dL Z Z Z
 refine jG ?_;obtain ⟨Ks2,es2,ws2,h,ks2⟩:=zN h;refine T.join (S:=Unit) (G:=Unit) (λs2=>Ks2 s2=some q) (λs2 gh=>True) (λs2 gh=>[]) (λs2 gh=>[]) (λs2 gh h hg=>?_) ?_
 ·clear ks2;subst es2;refine jI<|oN as'<|jA<|jK ?_
  cases h
  exact dL Z Z Z
 refine jI<|oN mv<|oN (GU.lenL mQ Z)<|oN mv<|jA<|jE ?_;refine T.lU h (λs5=>[(13,I s5),(12,I (s1_.length:Int)),(0,eL GY.c s1_),(1,eL GY.c s2_)]) (λs5=>[]) (kw Z Z) λs5 ws5 h=>?_;refine jI<|oN (GU.ilt Z Z)<|jA<|jH ?_;refine jN Z h (λq7 h=>?_) λq7 h=>?_
 ·refine jG<|jH<|jE<|jI<|oN mv<|oN as'<|jA<|jH<|jP (λ_=>([],false)) (by kernel_rfl) (by kernel_rfl)<|fN Z mv<|fN Z mv<|jD h λg8 h=>fN Z (GU.ixL mQ Z Z g8 qD)<|fN Z (lf (.agg<|GY.c<|J s1_ s5) gB Z)<|fN Z mv<|fN Z mv ?_;refine jD h λg9 h=>fN Z (GU.ixL mQ Z Z g9 qD)<|fN Z (lf (.agg<|GY.c<|J s2_ s5) gB Z)<|fN Z (GU.ane (((J s1_ s5).Op)==((J s2_ s5).Op)&&(((J s1_ s5).Loc)==((J s2_ s5).Loc)&&(((J s1_ s5).Reg)==((J s2_ s5).Reg)&&(((J s1_ s5).Val)==((J s2_ s5).Val)&&true)))) (cs:=[I ((J s1_ s5).Op),I ((J s1_ s5).Loc),I ((J s1_ s5).Reg),I ((J s1_ s5).Val)]) (ds:=[I ((J s2_ s5).Op),I ((J s2_ s5).Loc),I ((J s2_ s5).Reg),I ((J s2_ s5).Val)]) GJ Z Z<|by kernel_rfl)<|jR ?_;refine jN Z h (λq10 h=>?_) λq10 h=>?_
  ·refine jH<|T.clean (H0:=[]) (e0:=ai []) Z GQ<|jC<|oN as'<|jA<|jK<|lX h λh=>?_;obtain rfl:=GX h;replace h:=congrArg some (show _=_ from ks2)
   cases h
   exact dL Z Z Z
  refine jG<|jC<|jW h λg11 h=>oN (GU.add Z Z g11)<|oN mv<|jA ?_;exact lE h<|kw Z Z
 refine jM<|lX h λh=>?_
 cases h
 exact ⟨(),(),ks2,trivial,kw Z Z⟩
theorem lL (x:List GY) (y:List GY) {q} (h:fD x y=some q):aJ Tryz.prog 53 [eL GY.c x,eL GY.c y] (Bo q):=by
 refine pM Tryz.func53 Z (by kernel_rfl) Z<|jI<|oN as'<|jA<|jI<|oN mv<|oN mv<|oC h (λ_=>fu _ _) Z Z Z Z λv1 _ h=>oN as'<|jA<|jK ?_
 cases h
 exact dL Z Z Z
theorem aP (s1_:List<|List GY) (s2_:List<|List GY) {q} (h:ak s1_ s2_=some q):aJ Tryz.prog 52 [eL (cL GY.c) s1_,eL (cL GY.c) s2_,.fn (.func 53) []] (Bo q):=by
 refine pM Tryz.func52 Z (by kernel_rfl) Z<|jI<|oN as'<|jA<|jH<|jI<|oN mv<|oN (GU.lenL ib Z)<|oN mv<|oN (GU.lenL ib Z)<|oN (GU.ine Z Z)<|jA ?_;refine jN Z h (λq1 h=>?_) λq1 h=>?_
 ·refine jI<|oN as'<|jA<|jK ?_
  cases h
  exact dL Z Z Z
 refine jG ?_;obtain ⟨Ks2,es2,ws2,h,ks2⟩:=zN h;refine T.join (S:=Unit) (G:=Unit) (λs2=>Ks2 s2=some q) (λs2 gh=>True) (λs2 gh=>[]) (λs2 gh=>[]) (λs2 gh h hg=>?_) ?_
 ·clear ks2;subst es2;refine jI<|oN as'<|jA<|jK ?_
  cases h
  exact dL Z Z Z
 refine jI<|oN mv<|oN (GU.lenL ib Z)<|oN mv<|jA<|jE ?_;refine T.lU h (λs5=>[(17,I s5),(16,I (s1_.length:Int)),(15,eL (cL GY.c) s1_),(1,eL (cL GY.c) s2_),(2,.fn (.func 53) [])]) (λs5=>[]) (kw Z Z) λs5 ws5 h=>?_;refine jI<|oN (GU.ilt Z Z)<|jA<|jH ?_;refine jN Z h (λq7 h=>?_) λq7 h=>?_
 ·refine jG<|jH<|jE<|jI<|oN mv<|jD h λg8 h=>oN (GU.ixL ib Z Z g8 qD)<|oN (lf (eL GY.c<|J s1_ s5) r9 Z)<|oN as'<|oN as'<|jA<|jI<|oN mv<|oN mv<|jD h λg9 h=>oN (GU.ixL ib Z Z g9 qD) ?_;refine oN (lf (eL GY.c<|J s2_ s5) r9 Z)<|oN as'<|jA<|jI<|oN mv<|oN mv<|oN mv<|oC h (λ_=>lL _ _) Z Z Z Z λv10 _ h=>oN (GU.not Z)<|jA ?_;refine jN Z h (λq11 h=>?_) λq11 h=>?_
  ·refine jH<|T.clean (H0:=[]) (e0:=ai []) Z GQ<|jC<|oN as'<|jA<|jK<|lX h λh=>?_;obtain rfl:=GX h;replace h:=congrArg some (show _=_ from ks2)
   cases h
   exact dL Z Z Z
  refine jG<|T.clean (H0:=[]) (e0:=ai [(17,I s5),(16,I (s1_.length:Int)),(15,eL (cL GY.c) s1_),(1,eL (cL GY.c) s2_),(2,.fn (.func 53) [])]) Z (GR Z<|GR Z<|GR Z<|GR Z<|GR Z GQ)<|jC<|jW h λg12 h=>oN (GU.add Z Z g12)<|oN mv<|jA ?_;exact lE h<|kw Z Z
 refine jM<|lX h λh=>?_
 cases h
 exact ⟨(),(),ks2,trivial,kw Z Z⟩
theorem iR (a:List<|List GY) (b:List<|List GY) {q} (h:db a b=some q):aJ Tryz.prog 15 [eL (cL GY.c) a,eL (cL GY.c) b] (Bo q):=by
 refine pM Tryz.func15 Z (by kernel_rfl) Z<|jI<|oN as'<|jA<|jI<|oN mv<|oN mv<|oC h (λ_=>aP _ _) Z Z Z Z λv1 _ h=>oN as'<|jA<|jK ?_
 cases h
 exact dL Z Z Z
theorem mq (x:Int) (low:Int) (high:Int) {q} (h:gJ x low high=some q):aJ Tryz.prog 47 [I x,I low,I high] (Bo q):=by
 refine pM Tryz.func47 Z (by kernel_rfl) Z<|jI<|oN as'<|jA<|jI<|oN mv<|oN mv<|oN (GU.ige Z Z)<|oN mv ?_;refine TO.jB h 4 (λs1=>[(14,Bo s1)]) (λs1=>[]) (λs1 q2 h js1=>?_) (λs1 q2 h js1=>?_) λs1 h=>?_
 ·refine gN Z q2 mv<|gN Z q2 mv<|gN Z q2 (GU.ile Z Z)<|oN (GU.pickT Z q2 (Bo<|decide<|x<=high) Z) ?_
  cases h
  exact js1 _ _<|kw Z Z
 ·refine gS Z q2<|gS Z q2<|gS Z q2<|oN (GU.pickF Z q2 (Bo false) Z) ?_
  cases h
  exact js1 _ _<|kw Z Z
 refine oN as'<|jA<|jK ?_
 cases h
 exact dL Z Z Z
theorem qx {q} (h:eu=some q):aJ Tryz.prog 126 [] (eL cS q):=by
 refine aJ.mkT Tryz.func126 Z (by kernel_rfl) Z (by kernel_rfl) (e0:=ai []) GQ<|jI<|oN as'<|jA<|jI<|oN (GU.mkF (c:=cS) ([(⟨#[120,61,49,59,97,61,121,124,121,61,49,59,97,61,120]⟩:ByteArray),(⟨#[120,61,49,59,102,101,110,99,101,59,97,61,121,124,121,61,49,59,102,101,110,99,101,59,97,61,120]⟩:ByteArray),(⟨#[120,61,49,59,121,61,49,124,97,61,121,59,98,61,120]⟩:ByteArray),(⟨#[120,61,49,59,121,61,49,124,97,61,121,59,102,101,110,99,101,59,98,61,120]⟩:ByteArray),(⟨#[120,61,49,59,102,101,110,99,101,59,121,61,49,124,97,61,121,59,98,61,120]⟩:ByteArray),(⟨#[97,61,120,59,121,61,49,124,97,61,121,59,120,61,49]⟩:ByteArray),(⟨#[97,61,120,59,121,61,97,124,97,61,121,59,120,61,97]⟩:ByteArray),(⟨#[120,61,49,124,120,61,50,124,97,61,120,59,98,61,120]⟩:ByteArray),(⟨#[120,61,49,124,121,61,49,124,97,61,120,59,98,61,121,124,97,61,121,59,98,61,120]⟩:ByteArray),(⟨#[120,61,49,124,97,61,120,59,121,61,49,124,97,61,121,59,98,61,120]⟩:ByteArray),(⟨#[120,61,49,124,121,61,49,124,97,61,120,59,98,61,121]⟩:ByteArray),(⟨#[97,61,120,58,49,124,97,61,120,58,50,124,120,61,51]⟩:ByteArray),(⟨#[120,61,49,59,97,61,120,59,98,61,121,124,121,61,49,59,97,61,121,59,98,61,120]⟩:ByteArray),(⟨#[120,61,50,59,121,61,49,124,121,61,50,59,120,61,49]⟩:ByteArray),(⟨#[97,61,120,58,49,59,98,61,121,124,97,61,121,58,49,59,98,61,120]⟩:ByteArray),(⟨#[120,61,49,59,120,61,50,124,97,61,120,59,98,61,120]⟩:ByteArray),(⟨#[120,61,49,59,121,61,49,59,97,61,122,124,122,61,49,59,97,61,121,59,98,61,120]⟩:ByteArray),(⟨#[97,61,120,58,49,124,98,61,120,58,49]⟩:ByteArray),(⟨#[102,101,110,99,101]⟩:ByteArray),(⟨#[]⟩:ByteArray),(⟨#[120,61,49,59,97,61,121,124,121,61,49,59,102,101,110,99,101,59,97,61,120]⟩:ByteArray)]:List ByteArray) [[St (⟨#[120,61,49,59,97,61,121,124,121,61,49,59,97,61,120]⟩:ByteArray)],[St (⟨#[120,61,49,59,102,101,110,99,101,59,97,61,121,124,121,61,49,59,102,101,110,99,101,59,97,61,120]⟩:ByteArray)],[St (⟨#[120,61,49,59,121,61,49,124,97,61,121,59,98,61,120]⟩:ByteArray)],[St (⟨#[120,61,49,59,121,61,49,124,97,61,121,59,102,101,110,99,101,59,98,61,120]⟩:ByteArray)],[St (⟨#[120,61,49,59,102,101,110,99,101,59,121,61,49,124,97,61,121,59,98,61,120]⟩:ByteArray)],[St (⟨#[97,61,120,59,121,61,49,124,97,61,121,59,120,61,49]⟩:ByteArray)],[St (⟨#[97,61,120,59,121,61,97,124,97,61,121,59,120,61,97]⟩:ByteArray)],[St (⟨#[120,61,49,124,120,61,50,124,97,61,120,59,98,61,120]⟩:ByteArray)],[St (⟨#[120,61,49,124,121,61,49,124,97,61,120,59,98,61,121,124,97,61,121,59,98,61,120]⟩:ByteArray)],[St (⟨#[120,61,49,124,97,61,120,59,121,61,49,124,97,61,121,59,98,61,120]⟩:ByteArray)],[St (⟨#[120,61,49,124,121,61,49,124,97,61,120,59,98,61,121]⟩:ByteArray)],[St (⟨#[97,61,120,58,49,124,97,61,120,58,50,124,120,61,51]⟩:ByteArray)],[St (⟨#[120,61,49,59,97,61,120,59,98,61,121,124,121,61,49,59,97,61,121,59,98,61,120]⟩:ByteArray)],[St (⟨#[120,61,50,59,121,61,49,124,121,61,50,59,120,61,49]⟩:ByteArray)],[St (⟨#[97,61,120,58,49,59,98,61,121,124,97,61,121,58,49,59,98,61,120]⟩:ByteArray)],[St (⟨#[120,61,49,59,120,61,50,124,97,61,120,59,98,61,120]⟩:ByteArray)],[St (⟨#[120,61,49,59,121,61,49,59,97,61,122,124,122,61,49,59,97,61,121,59,98,61,120]⟩:ByteArray)],[St (⟨#[97,61,120,58,49,124,98,61,120,58,49]⟩:ByteArray)],[St (⟨#[102,101,110,99,101]⟩:ByteArray)],[St (⟨#[]⟩:ByteArray)],[St (⟨#[120,61,49,59,97,61,121,124,121,61,49,59,102,101,110,99,101,59,97,61,120]⟩:ByteArray)]] yL Z Z Z qD qD Z) ?_;refine oN as'<|jA<|jK ?_
 cases h
 exact dL Z Z Z
theorem mr (s:ByteArray) (c:Int) {q} (h:gL s c=some q):aJ Tryz.prog 128 [St s,Y c] (eL cS q):=by
 refine pM Tryz.func128 Z (by kernel_rfl) Z<|jI<|oN as'<|jA<|jI<|oA (EvA.mkO (c:=cS) ([]:List ByteArray) [] yL Z Z Z qD Z Z)<|oN (GU.asg (hS false 0 0 1<|([]:List ByteArray).length) Z)<|jA<|jI<|oN as'<|jA ?_;refine T.jF (G:=Nat) h (λs1 gh=>True) (λs1 gh=>[(5,hS false 0 gh 1 s1.length)]) (λs1 gh=>[bE false gh 1 9 (s1.map cS)]) (λs1 u19 h hg=>?_) λs1 h=>?_
 ·refine jI<|oN mv<|oN (GU.asg (hS false 0 u19 1 s1.length) Z)<|jA<|jK ?_;obtain rfl:=GX h
  repeat (first|refine iG ?_|refine iH ?_)
  exact jQ (vs:=[hS false 0 u19 1 s1.length]) (.cons (.tmp Z) .nil)<|Fz.own (g:=false) (ver:=u19) (l:=s1) Z Z Z nofun qD
 refine jI<|oN as'<|jA<|jE ?_;refine jO (S:=(List ByteArray)×Int×Int) (G:=Nat) (fT s c) (λs5 gh=>True) (λs5 gh=>[(7,I s5.2.1),(6,I s5.2.2),(5,hS false 0 gh 1 s5.1.length),(0,St s),(1,Y c)]) (λs5 gh=>[bE false gh 1 9 (s5.1.map cS)]) (s0:=(([]:List ByteArray),U,U)) 0 h trivial (kw Z Z) λs5 u7 ws5 h hg=>?_;refine jH<|jI<|oN mv<|oN mv<|oN (GU.lenst Tryz.underlying9 Z)<|oN (GU.ile Z Z)<|jA ?_;refine jN Z h (λq8 h=>?_) λq8 h=>?_
 ·refine jG ?_;refine T.jF (G:=Nat) h (λs9 gh=>True) (λs9 gh=>[(6,I s9.2),(5,hS false 0 gh 1 s9.1.length),(7,I s5.2.1),(0,St s),(1,Y c)]) (λs9 gh=>[bE false gh 1 9 (s9.1.map cS)]) (λs9 u17 h hg=>?_) λs9 h=>?_
  ·refine jC<|oN mv<|jW h λg18 h=>oN (GU.add Z Z g18)<|oN as'<|jA ?_;obtain rfl:=GX h;exact ⟨(s9.1,(s5.2.1+V),s9.2),u17,Z,trivial,kw Z Z⟩
  refine jE<|jI<|oN mv<|oN mv<|oN (GU.lenst Tryz.underlying9 Z)<|oN (GU.ieq Z Z)<|oN mv ?_;refine TO.jB h 6 (λs10=>[(25,Bo s10),(7,I s5.2.1),(6,I s5.2.2),(5,hS false 0 u7 1 s5.1.length),(0,St s),(1,Y c)]) (λs10=>[bE false u7 1 9 (s5.1.map cS)]) (λs10 q11 h js10=>?_) (λs10 q11 h js10=>?_) λs10 h=>?_
  ·refine gS Z q11<|gS Z q11<|gS Z q11<|gS Z q11<|gS Z q11<|oN (GU.pickT Z q11 (Bo true) Z) ?_
   cases h
   exact js10 _ _<|kw Z Z
  ·refine gN Z q11 mv<|gN Z q11 mv<|jD h λg12 h=>gN Z q11 (GU.ixst Tryz.underlying9 Z Z g12)<|gN Z q11 mv<|gN Z q11 (GU.ieq Z Z)<|oN (GU.pickF Z q11 (Bo<|((s.data.getD s5.2.1.toNat 0).toNat:Int)==c) Z) ?_
   cases h
   exact js10 _ _<|kw Z Z
  refine jA ?_;refine jN Z h (λq13 h=>?_) λq13 h=>?_
  ·refine jI<|oN mv<|oN mv<|oN mv<|oN mv<|jD h λg14 h=>oN (GU.slst Tryz.underlying9 Z (.yes Z) (.yes Z) g14)<|oN (GU.mkF (c:=cS) ([(s.extract s5.2.2.toNat s5.2.1.toNat)]:List ByteArray) [[St (s.extract s5.2.2.toNat s5.2.1.toNat)]] yL Z Z Z qD qD Z)<|jL h λg15 h=>oA (EvA.app1 (g:=false) (l:=s5.1) (s.extract s5.2.2.toNat s5.2.1.toNat) yL (by kernel_rfl) Z Z Z nofun (bg.fz (l:=([(s.extract s5.2.2.toNat s5.2.1.toNat)]:List ByteArray)) Z qD) g15)<|oN (GU.asg (hS false 0 (u7+1) 1<|(s5.1++[(s.extract s5.2.2.toNat s5.2.1.toNat)]).length) Z)<|jA<|jC<|oN mv<|jW h λg16 h=>oN (GU.add Z Z g16) ?_;refine oN as'<|jA ?_
   cases h
   exact ⟨u7+1,trivial,kw Z Z⟩
  refine jG ?_
  cases h
  exact ⟨u7,trivial,kw Z Z⟩
 refine jM<|lX h λh=>?_
 cases h
 exact ⟨u7,trivial,kw Z Z⟩
theorem bJ (s:ByteArray) (at_:Int) (from_:Int) (most:Int) {q} (h:bh s at_ from_ most=some q):aJ Tryz.prog 139 [St s,I at_,Y from_,I most] (I q):=by
 refine pM Tryz.func139 Z (by kernel_rfl) Z<|jI<|oN as'<|jA<|jH<|jI<|oN mv<|oN mv<|oN (GU.lenst Tryz.underlying9 Z)<|oN (GU.ige Z Z)<|oN mv ?_;refine TO.jB h 6 (λs1=>[(19,Bo s1),(0,St s),(1,I at_),(2,Y from_),(3,I most)]) (λs1=>[]) (λs1 q2 h js1=>?_) (λs1 q2 h js1=>?_) λs1 h=>?_
 ·refine gS Z q2<|gS Z q2<|gS Z q2<|gS Z q2<|gS Z q2<|oN (GU.pickT Z q2 (Bo true) Z) ?_
  cases h
  exact js1 _ _<|kw Z Z
 ·refine gN Z q2 mv<|gN Z q2 mv<|jD h λg3 h=>gN Z q2 (GU.ixst Tryz.underlying9 Z Z g3)<|gN Z q2 mv<|gN Z q2 (GU.ilt Z Z)<|oN (GU.pickF Z q2 (Bo<|decide<|((s.data.getD at_.toNat 0).toNat:Int)<from_) Z) ?_
  cases h
  exact js1 _ _<|kw Z Z
 refine oN mv ?_;refine TO.jB h 9 (λs4=>[(29,Bo s4),(0,St s),(1,I at_),(2,Y from_)]) (λs4=>[]) (λs4 q5 h js4=>?_) (λs4 q5 h js4=>?_) λs4 h=>?_
 ·refine gS Z q5<|gS Z q5<|gS Z q5<|gS Z q5<|gS Z q5<|gS Z q5<|gS Z q5<|gS Z q5<|oN (GU.pickT Z q5 (Bo true) Z) ?_
  cases h
  exact js4 _ _<|kw Z Z
 ·refine gN Z q5 mv<|gN Z q5 mv<|jD h λg6 h=>gN Z q5 (GU.ixst Tryz.underlying9 Z Z g6)<|gN Z q5 mv<|jW h λg7 h=>gN Z q5 (GU.sub Z Z g7)<|jW h λg8 h=>gN Z q5 (GU.iconv Ha.und Tryz.underlying3 Z g8)<|gN Z q5 mv<|gN Z q5 (GU.igt Z Z)<|oN (GU.pickF Z q5 (Bo<|decide<|most<(((s.data.getD at_.toNat 0).toNat:Int)-from_)) Z) ?_
  cases h
  exact js4 _ _<|kw Z Z
 refine jA ?_;refine jN Z h (λq9 h=>?_) λq9 h=>?_
 ·refine jI<|oN as'<|jA<|jK ?_
  cases h
  exact dL Z Z Z
 refine jG<|jI<|oN mv<|oN mv<|jD h λg10 h=>oN (GU.ixst Tryz.underlying9 Z Z g10)<|oN mv<|jW h λg11 h=>oN (GU.sub Z Z g11)<|jW h λg12 h=>oN (GU.iconv Ha.und Tryz.underlying3 Z g12)<|oN as'<|jA<|jK ?_
 cases h
 exact dL Z Z Z
theorem qy (s:ByteArray) {q} (h:iq s=some q):aJ Tryz.prog 129 [St s] (.agg<|GY.c q):=by
 refine pM Tryz.func129 Z (by kernel_rfl) Z<|jI<|oA (EvA.al o8 Z Z)<|jA<|jH<|jI<|oN mv<|oN (GU.seq Z Z)<|jA ?_;refine jN Z h (λq1 h=>?_) λq1 h=>?_
 ·refine jI<|oN (GU.build [I (4:Int),I U,I U,I U] Tryz.underlying69 o8 fH Z Z)<|oV (sr [I (4:Int),I U,I U,I U] gB Z Z Z Z)<|jA<|jK ?_;obtain rfl:=GX h
  repeat (first|refine iG ?_|refine iH ?_)
  exact jQ (vs:=[.agg [I (4:Int),I U,I U,I U]]) (.cons (.cell (.agg [I (4:Int),I U,I U,I U]) gB Z Z Z Z Z Z) .nil)<|qC Z
 refine jG<|jI<|oN mv<|oC h (λ_=>bJ _ _ _ _) Z Z Z Z λv2 _ h=>oN as'<|jA<|jI<|oN mv<|oC h (λ_=>bJ _ _ _ _) Z Z Z Z λv3 _ h=>oN as'<|jA<|jH<|jI<|oN mv<|oN (GU.ige Z Z)<|oN mv ?_;refine TO.jB h 4 (λs4=>[(18,Bo s4),(4,I v3),(3,I v2),(2,.hp 0 0 4 0 0),(0,St s)]) (λs4=>[some ⟨0,4,69,[[I U,I U,I U,I U]]⟩]) (λs4 q5 h js4=>?_) (λs4 q5 h js4=>?_) λs4 h=>?_
 ·refine gN Z q5 mv<|gN Z q5 (GU.lenst Tryz.underlying9 Z)<|gN Z q5 (GU.ieq Z Z)<|oN (GU.pickT Z q5 (Bo<|(s.size:Int)==(3:Int)) Z) ?_
  cases h
  exact js4 _ _<|kw Z Z
 ·refine gS Z q5<|gS Z q5<|gS Z q5<|oN (GU.pickF Z q5 (Bo false) Z) ?_
  cases h
  exact js4 _ _<|kw Z Z
 refine jA ?_;refine jN Z h (λq6 h=>?_) λq6 h=>?_
 ·refine jI<|oN mv<|oN mv<|oC h (λ_=>bJ _ _ _ _) Z Z Z Z λv7 _ h=>oN (GU.build [I V,I v7,I v2,I U] Tryz.underlying69 o8 fH Z Z)<|oV (sr [I V,I v7,I v2,I U] gB Z Z Z Z)<|jA<|jK ?_;obtain rfl:=GX h
  repeat (first|refine iG ?_|refine iH ?_)
  exact jQ (vs:=[.agg [I V,I v7,I v2,I U]]) (.cons (.cell (.agg [I V,I v7,I v2,I U]) gB Z Z Z Z Z Z) .nil)<|qC Z
 refine jG<|jH<|jI<|oN mv<|oN (GU.ige Z Z)<|oN mv ?_;refine TO.jB h 4 (λs8=>[(29,Bo s8),(4,I v3),(3,I v2),(2,.hp 0 0 4 0 0),(0,St s)]) (λs8=>[some ⟨0,4,69,[[I U,I U,I U,I U]]⟩]) (λs8 q9 h js8=>?_) (λs8 q9 h js8=>?_) λs8 h=>?_
 ·refine gN Z q9 mv<|gN Z q9 (GU.lenst Tryz.underlying9 Z)<|gN Z q9 (GU.ieq Z Z)<|oN (GU.pickT Z q9 (Bo<|(s.size:Int)==(5:Int)) Z) ?_
  cases h
  exact js8 _ _<|kw Z Z
 ·refine gS Z q9<|gS Z q9<|gS Z q9<|oN (GU.pickF Z q9 (Bo false) Z) ?_
  cases h
  exact js8 _ _<|kw Z Z
 refine jA ?_;refine jN Z h (λq10 h=>?_) λq10 h=>?_
 ·refine jI<|oN mv<|oN mv<|oC h (λ_=>bJ _ _ _ _) Z Z Z Z λv11 _ h=>oN mv<|oC h (λ_=>bJ _ _ _ _) Z Z Z Z λv12 _ h=>oN (GU.build [I (5:Int),I v11,I v2,I v12] Tryz.underlying69 o8 fH Z Z)<|oV (sr [I (5:Int),I v11,I v2,I v12] gB Z Z Z Z)<|jA<|jK ?_;obtain rfl:=GX h
  repeat (first|refine iG ?_|refine iH ?_)
  exact jQ (vs:=[.agg [I (5:Int),I v11,I v2,I v12]]) (.cons (.cell (.agg [I (5:Int),I v11,I v2,I v12]) gB Z Z Z Z Z Z) .nil)<|qC Z
 refine jG<|jH<|jI<|oN mv<|oN (GU.ige Z Z)<|oN mv ?_;refine TO.jB h 4 (λs13=>[(42,Bo s13),(4,I v3),(2,.hp 0 0 4 0 0),(0,St s)]) (λs13=>[some ⟨0,4,69,[[I U,I U,I U,I U]]⟩]) (λs13 q14 h js13=>?_) (λs13 q14 h js13=>?_) λs13 h=>?_
 ·refine gN Z q14 mv<|jB h λv15 cv15 h=>gN Z q14 (GU.call Z Z Z (bJ s (2:Int) (97:Int) (2:Int) cv15) Z)<|gN Z q14 (GU.ige Z Z)<|oN (GU.pickT Z q14 (Bo<|decide<|U<=v15) Z) ?_
  cases h
  exact js13 _ _<|kw Z Z
 ·refine gS Z q14<|gS Z q14<|gS Z q14<|oN (GU.pickF Z q14 (Bo false) Z) ?_
  cases h
  exact js13 _ _<|kw Z Z
 refine jA ?_;refine jN Z h (λq16 h=>?_) λq16 h=>?_
 ·refine jI<|oN mv<|oN mv<|oC h (λ_=>bJ _ _ _ _) Z Z Z Z λv17 _ h=>oN (GU.build [I (3:Int),I v3,I v17,I U] Tryz.underlying69 o8 fH Z Z)<|oV (sr [I (3:Int),I v3,I v17,I U] gB Z Z Z Z)<|jA<|jK ?_;obtain rfl:=GX h
  repeat (first|refine iG ?_|refine iH ?_)
  exact jQ (vs:=[.agg [I (3:Int),I v3,I v17,I U]]) (.cons (.cell (.agg [I (3:Int),I v3,I v17,I U]) gB Z Z Z Z Z Z) .nil)<|qC Z
 refine jG<|jI<|oN mv<|oN mv<|oC h (λ_=>bJ _ _ _ _) Z Z Z Z λv18 _ h=>oN (GU.build [I (2:Int),I v3,I U,I v18] Tryz.underlying69 o8 fH Z Z)<|oV (sr [I (2:Int),I v3,I U,I v18] gB Z Z Z Z)<|jA<|jK ?_;obtain rfl:=GX h
 repeat (first|refine iG ?_|refine iH ?_)
 exact jQ (vs:=[.agg [I (2:Int),I v3,I U,I v18]]) (.cons (.cell (.agg [I (2:Int),I v3,I U,I v18]) gB Z Z Z Z Z Z) .nil)<|qC Z
theorem kK (from_:Int) (n:Int) {q} (h:eM from_ n=some q):aJ Tryz.prog 171 [Y from_,I n] (St q):=by
 refine pM Tryz.func171 Z (by kernel_rfl) Z<|jI<|oN as'<|jA<|jI<|oN mv<|oN mv<|jW h λg1 h=>oN (GU.iconv G9.und Tryz.underlying5 Z g1)<|jW h λg2 h=>oN (GU.add Z Z g2)<|oN (GU.mkF (c:=cY) ([(from_+n)]:LI) [[Y (from_+n)]] nM Z Z Z qD qD Z)<|oA (EvA.b2s (l:=([(from_+n)]:LI)) Tryz.underlying22 Tryz.underlying5 Tryz.underlying9 (Av Z)<|bg.fz (l:=([(from_+n)]:LI)) Z qD)<|oN as'<|jA<|jK ?_
 cases h
 exact dL Z Z Z
theorem qA:∀ (nf:Nat) (n:Int) {q} (h:eO nf n=some q),aJ Tryz.prog 172 [I n] (St q):=by
 intro nf
 induction nf with
 | zero=>intros;rename_i h;cases h
 | succ nf ih=>
  intro n q h;replace h:gM (eO nf) n=some q:=h;refine pM Tryz.func172 Z (by kernel_rfl) Z<|jI<|oN as'<|jA<|jH<|jI<|oN mv<|oN (GU.ilt Z Z)<|jA ?_;refine jN Z h (λq1 h=>?_) λq1 h=>?_
  ·refine jI<|oN as'<|jA<|jK ?_
   cases h
   exact dL Z Z Z
  refine jG<|jH<|jI<|oN mv<|oN (GU.ilt Z Z)<|jA ?_;refine jN Z h (λq2 h=>?_) λq2 h=>?_
  ·refine jI<|oN mv<|jW h λg3 h=>oN (GU.neg Z g3)<|oC h (λ_=>ih _) Z Z Z Z λv4 _ h=>jD h λg5 h=>oN (GU.cat Z Z g5)<|oN as'<|jA<|jK ?_
   cases h
   exact dL Z Z Z
  refine jG<|jI<|oN as'<|jA ?_;refine T.jU h (λs6=>[(3,St s6.1),(0,I s6.2)]) (λs6=>[]) (λs6 h=>?_) λs6 h=>?_
  ·refine jI<|oN mv<|jW h λg17 h=>oN (GU.add Z Z g17)<|jW h λg18 h=>oN (GU.iconv G9.und Tryz.underlying5 Z g18)<|oN (GU.mkF (c:=cY) ([((48:Int)+s6.2)]:LI) [[Y ((48:Int)+s6.2)]] nM Z Z Z qD qD Z)<|oA (EvA.b2s (l:=([((48:Int)+s6.2)]:LI)) Tryz.underlying22 Tryz.underlying5 Tryz.underlying9 (Av Z)<|bg.fz (l:=([((48:Int)+s6.2)]:LI)) Z qD)<|oN mv<|jD h λg19 h=>oN (GU.cat Z Z g19)<|oN as'<|jA<|jK ?_
   cases h
   exact dL Z Z Z
  refine jE ?_;refine T.lU h (λs9=>[(3,St s9.1),(0,I s9.2)]) (λs9=>[]) (kw Z Z) λs9 ws9 h=>?_;refine jH<|jI<|oN mv<|oN (GU.igt Z Z)<|jA ?_;refine jN Z h (λq11 h=>?_) λq11 h=>?_
  ·refine jG<|jE<|jI<|oN mv<|jD h λg12 h=>oN (GU.rem Z Z g12)<|jW h λg13 h=>oN (GU.add Z Z g13)<|jW h λg14 h=>oN (GU.iconv G9.und Tryz.underlying5 Z g14)<|oN (GU.mkF (c:=cY) ([((48:Int)+(s9.2.tmod (10:Int)))]:LI) [[Y ((48:Int)+(s9.2.tmod (10:Int)))]] nM Z Z Z qD qD Z)<|oA (EvA.b2s (l:=([((48:Int)+(s9.2.tmod (10:Int)))]:LI)) Tryz.underlying22 Tryz.underlying5 Tryz.underlying9 (Av Z)<|bg.fz (l:=([((48:Int)+(s9.2.tmod (10:Int)))]:LI)) Z qD)<|oN mv<|jD h λg15 h=>oN (GU.cat Z Z g15)<|oN as' ?_;refine jA<|jC<|oN mv<|jW h λg16 h=>oN (GU.quo Z Z g12 g16)<|oN as'<|jA ?_;exact lE h<|kw Z Z
  refine jM<|lX h λh=>?_
  cases h
  exact ⟨(),trivial,kw Z Z⟩
theorem mD (n:Int) {q} (h:iX n=some q):aJ Tryz.prog 172 [I n] (St q):=by
 obtain ⟨nf,h⟩:=DZ h;exact qA nf n h
theorem sF (x:GY) {q} (h:iY x=some q):aJ Tryz.prog 140 [.agg (GY.c x)] (St q):=by
 refine pM Tryz.func140 Z (by kernel_rfl) Z<|jI<|oN (GU.bxF (GY.c x) Z Z Z)<|oN as'<|jA<|jI<|oN (fa fH Z)<|oN (lf (I x.Loc) G9 Z)<|oC h (λ_=>kK _ _) Z Z Z Z λv1 _ h=>oN as'<|jA<|jI<|oN (fa fH Z)<|oN (lf (I x.Reg) G9 Z)<|oC h (λ_=>kK _ _) Z Z Z Z λv2 _ h=>oN as' ?_;refine jA<|jH<|jI<|oN (fa fH Z)<|oN (lf (I x.Op) G9 Z)<|jA<|jE<|jI<|oN (GU.ieq Z Z)<|oN as'<|jA ?_;refine jN Z h (λq3 h=>?_) λq3 h=>?_
 ·refine jI<|oN mv<|jD h λg4 h=>oN (GU.cat Z Z g4)<|oN mv<|jD h λg5 h=>oN (GU.cat Z Z g5)<|oN as'<|jA<|jK ?_
  cases h
  exact dL Z Z Z
 refine jI<|oN (GU.ieq Z Z)<|oN as'<|jA ?_;refine jN Z h (λq6 h=>?_) λq6 h=>?_
 ·refine jI<|oN mv<|jD h λg7 h=>oN (GU.cat Z Z g7)<|oN (fa fH Z)<|oN (lf (I x.Val) G9 Z)<|oC h (λ_=>mD _) Z Z Z Z λv8 _ h=>jD h λg9 h=>oN (GU.cat Z Z g9)<|oN as'<|jA<|jK ?_
  cases h
  exact dL Z Z Z
 refine jI<|oN (GU.ieq Z Z)<|oN as'<|jA ?_;refine jN Z h (λq10 h=>?_) λq10 h=>?_
 ·refine jH<|T.clean (H0:=[]) (e0:=ai [(4,St v2),(3,St v1)]) Z (GR Z<|GR Z GQ)<|jC<|oN mv<|jD h λg11 h=>oN (GU.cat Z Z g11)<|oN mv<|jD h λg12 h=>oN (GU.cat Z Z g12)<|oN as'<|jA<|jK ?_
  cases h
  exact dL Z Z Z
 refine jI<|oN (GU.ieq Z Z)<|oN as'<|jA ?_;refine jN Z h (λq13 h=>?_) λq13 h=>?_
 ·refine jH<|T.clean (H0:=[]) (e0:=ai [(4,St v2),(3,St v1),(1,.fp (GY.c x) 0)]) Z (GR Z<|GR Z<|GR Z GQ)<|jC<|oN mv<|jD h λg14 h=>oN (GU.cat Z Z g14)<|oN mv<|jD h λg15 h=>oN (GU.cat Z Z g15)<|jD h λg16 h=>oN (GU.cat Z Z g16)<|oN (fa fH Z)<|oN (lf (I x.Val) G9 Z)<|oC h (λ_=>mD _) Z Z Z Z λv17 _ h=>jD h λg18 h=>oN (GU.cat Z Z g18) ?_;refine oN as'<|jA<|jK ?_
  cases h
  exact dL Z Z Z
 refine jG<|jH<|T.clean (H0:=[]) (e0:=ai []) Z GQ<|jC<|oN as'<|jA<|jK ?_
 cases h
 exact dL Z Z Z
theorem o6 (p:List<|List GY) {q} (h:fU p=some q):aJ Tryz.prog 130 [eL (cL GY.c) p] (St q):=by
 refine pM Tryz.func130 Z (by kernel_rfl) Z<|jI<|oN as'<|jA<|jI<|oN as'<|jA ?_;refine T.jU h (λs1=>[(3,St s1)]) (λs1=>[]) (λs1 h=>?_) λs1 h=>?_
 ·refine jI<|oN mv<|oN as'<|jA<|jK ?_
  cases h
  exact dL Z Z Z
 refine jI<|oN as'<|jA<|jE ?_;refine T.lU h (λs4=>[(4,I s4.1),(3,St s4.2),(0,eL (cL GY.c) p)]) (λs4=>[]) (kw Z Z) λs4 ws4 h=>?_;refine jH<|jI<|oN mv<|oN mv<|oN (GU.lenL ib Z)<|oN (GU.ilt Z Z)<|jA ?_;refine jN Z h (λq6 h=>?_) λq6 h=>?_
 ·refine jG ?_;refine T.jU h (λs7=>[(3,St s7),(4,I s4.1),(0,eL (cL GY.c) p)]) (λs7=>[]) (λs7 h=>?_) λs7 h=>?_
  ·refine jC<|oN mv<|jW h λg24 h=>oN (GU.add Z Z g24)<|oN as'<|jA ?_;exact lE h<|kw Z Z
  refine jE ?_;refine T.jU h (λs8=>[(3,St s8),(4,I s4.1),(0,eL (cL GY.c) p)]) (λs8=>[]) (λs8 h=>?_) λs8 h=>?_
  ·refine jI<|oN as'<|jA<|jE ?_;refine T.lU h (λs13=>[(5,I s13.1),(3,St s13.2),(4,I s4.1),(0,eL (cL GY.c) p)]) (λs13=>[]) (kw Z Z) λs13 ws13 h=>?_;refine jH<|jI<|oN mv<|oN mv<|oN mv<|jD h λg15 h=>oN (GU.ixL ib Z Z g15 qD)<|oN (lf (eL GY.c<|J p s4.1) r9 Z)<|oN (GU.lenL mQ Z)<|oN (GU.ilt Z Z)<|jA ?_;refine jN Z h (λq16 h=>?_) λq16 h=>?_
   ·refine jG<|jH<|jE ?_;refine T.jU h (λs17=>[(3,St s17),(5,I s13.1),(4,I s4.1),(0,eL (cL GY.c) p)]) (λs17=>[]) (λs17 h=>?_) λs17 h=>?_
    ·refine jC<|oN mv<|oN mv<|oN mv<|oN (GU.ixL ib Z Z g15 qD)<|oN (lf (eL GY.c<|J p s4.1) r9 Z)<|oN mv<|jD h λg20 h=>oN (GU.ixL mQ Z Z g20 qD)<|oN (lf (.agg<|GY.c<|J (J p s4.1) s13.1) gB Z)<|oC h (λ_=>sF _) Z Z Z Z λv21 _ h=>jD h λg22 h=>oN (GU.cat Z Z g22)<|oN as'<|jA<|jC ?_;refine oN mv<|jW h λg23 h=>oN (GU.add Z Z g23)<|oN as'<|jA ?_;exact lE h<|kw Z Z
    refine jI<|oN mv<|oN (GU.igt Z Z)<|jA ?_;refine jN Z h (λq18 h=>?_) λq18 h=>?_
    ·refine jC<|oN mv<|jD h λg19 h=>oN (GU.cat Z Z g19)<|oN as'<|jA ?_
     cases h
     exact ⟨(),trivial,kw Z Z⟩
    refine jG ?_
    cases h
    exact ⟨(),trivial,kw Z Z⟩
   refine jM<|lX h λh=>?_
   cases h
   exact ⟨(),trivial,kw Z Z⟩
  refine jI<|oN mv<|oN (GU.igt Z Z)<|jA ?_;refine jN Z h (λq9 h=>?_) λq9 h=>?_
  ·refine jC<|oN mv<|jD h λg10 h=>oN (GU.cat Z Z g10)<|oN as'<|jA ?_
   cases h
   exact ⟨(),trivial,kw Z Z⟩
  refine jG ?_
  cases h
  exact ⟨(),trivial,kw Z Z⟩
 refine jM<|lX h λh=>?_
 cases h
 exact ⟨(),trivial,kw Z Z⟩
theorem iF (text:ByteArray) {q} (h:aX text=some q):aJ Tryz.prog 109 [St text] (.tup [eL (cL GY.c) q.1,Bo q.2]):=by
 refine pM Tryz.func109 Z (by kernel_rfl) Z<|jI<|oN as'<|oN as'<|jA<|jI<|oA (EvA.mkO (c:=(cL GY.c)) ([]:List<|List GY) [] ib Z Z Z qD Z Z)<|oN (GU.asg (hS false 0 0 1<|([]:List<|List GY).length) Z)<|jA<|jI<|oN mv<|oC h (λ_=>mr _ _) Z Z Z Z λv1 _ h=>oN as'<|jA ?_;refine T.jF (G:=Nat) h (λs2 gh=>True) (λs2 gh=>[(4,hS false 0 gh 1 s2.length),(0,St text)]) (λs2 gh=>[bE false gh 1 66 (s2.map<|cL GY.c)]) (λs2 u35 h hg=>?_) λs2 h=>?_
 ·refine jH<|jI<|oN mv<|jB h λv36 cv36 h=>oA (EvA.callT Z Z (eX s2 cv36) (.cons (Fz.own (g:=false) (ver:=u35) (l:=s2) Z Z Z nofun qD) .nil) Z)<|oN (GU.not Z)<|oN mv ?_;refine TO.jB h 5 (λs37=>[(66,Bo s37),(4,hS false 0 u35 1 s2.length)]) (λs37=>[bE false u35 1 66 (s2.map<|cL GY.c)]) (λs37 q38 h js37=>?_) (λs37 q38 h js37=>?_) λs37 h=>?_
  ·refine gS Z q38<|gS Z q38<|gS Z q38<|gS Z q38<|oN (GU.pickT Z q38 (Bo true) Z) ?_
   cases h
   exact js37 _ _<|kw Z Z
  ·refine gN Z q38 mv<|jB h λv39 cv39 h=>gA Z q38 (EvA.callT Z Z (o6 s2 cv39) (.cons (Fz.own (g:=false) (ver:=u35) (l:=s2) Z Z Z nofun qD) .nil) Z)<|gN Z q38 mv<|gN Z q38 (GU.sne Z Z)<|oN (GU.pickF Z q38 (Bo<|!decide (v39=text)) Z) ?_
   cases h
   exact js37 _ _<|kw Z Z
  refine jA ?_;refine jN Z h (λq40 h=>?_) λq40 h=>?_
  ·refine jI<|oN (GU.mkF (c:=(cL GY.c)) ([]:List<|List GY) [] ib Z Z Z qD qD Z)<|oN as'<|oN as'<|jA<|jK ?_;obtain rfl:=GX h
   repeat (first|refine iG ?_|refine iH ?_)
   exact jQ (vs:=[eL (cL GY.c) ([]:List<|List GY),Bo false]) (.cons (.tmp Z)<|.cons (.tmp Z) .nil)<|.tupL<|.cons (qC Z)<|.cons (qC Z) .nil
  refine jG<|jI<|oN mv<|oN (GU.asg (hS false 0 u35 1 s2.length) Z)<|oN as'<|jA<|jK ?_;obtain rfl:=GX h
  repeat (first|refine iG ?_|refine iH ?_)
  exact jQ (vs:=[hS false 0 u35 1 s2.length,Bo true]) (.cons (.tmp Z)<|.cons (.tmp Z) .nil)<|.tupL<|.cons (Fz.own (g:=false) (ver:=u35) (l:=s2) Z Z Z nofun qD)<|.cons (qC Z) .nil
 refine jI<|oN as'<|jA<|jE ?_;refine jO (S:=(List<|List GY)×Int) (G:=Nat) (cT v1) (λs6 gh=>True) (λs6 gh=>[(6,I s6.2),(5,eL cS v1),(4,hS false 0 gh 1 s6.1.length),(0,St text)]) (λs6 gh=>[bE false gh 1 66 (s6.1.map<|cL GY.c)]) (s0:=(([]:List<|List GY),U)) 0 h trivial (kw Z Z) λs6 u8 ws6 h hg=>?_;refine jH<|jI<|oN mv<|oN mv<|oN (GU.lenL yL Z)<|oN (GU.ilt Z Z)<|oN mv ?_;refine TO.jB h 3 (λs9=>[(20,Bo s9),(6,I s6.2),(5,eL cS v1),(4,hS false 0 u8 1 s6.1.length),(0,St text)]) (λs9=>[bE false u8 1 66 (s6.1.map<|cL GY.c)]) (λs9 q10 h js9=>?_) (λs9 q10 h js9=>?_) λs9 h=>?_
 ·refine gN Z q10 mv<|gN Z q10 (GU.ile Z Z)<|oN (GU.pickT Z q10 (Bo<|decide<|s6.2<=(3:Int)) Z) ?_
  cases h
  exact js9 _ _<|kw Z Z
 ·refine gS Z q10<|gS Z q10<|oN (GU.pickF Z q10 (Bo false) Z) ?_
  cases h
  exact js9 _ _<|kw Z Z
 refine jA ?_;refine jN Z h (λq11 h=>?_) λq11 h=>?_
 ·refine jG ?_;refine T.jF (G:=Nat) h (λs12 gh=>True) (λs12 gh=>[(4,hS false 0 gh 1 s12.length),(6,I s6.2),(5,eL cS v1),(0,St text)]) (λs12 gh=>[bE false gh 1 66 (s12.map<|cL GY.c)]) (λs12 u33 h hg=>?_) λs12 h=>?_
  ·refine jC<|oN mv<|jW h λg34 h=>oN (GU.add Z Z g34)<|oN as'<|jA ?_;obtain rfl:=GX h;exact ⟨(s12,(s6.2+V)),u33,Z,trivial,kw Z Z⟩
  refine jE<|jI<|oA (EvA.mkO (c:=GY.c) ([]:List GY) [] mQ Z Z Z qD Z Z)<|oN (GU.asg (hS false 1 0 4<|([]:List GY).length) Z)<|jA<|jI<|oN mv<|oN mv<|jD h λg13 h=>oN (GU.ixL yL Z Z g13 qD)<|oN (lf (St<|J v1 s6.2) ty9 Z)<|oC h (λ_=>mr _ _) Z Z Z Z λv14 _ h=>oN as'<|jA ?_;refine T.jF (G:=Nat) h (λs15 gh=>True) (λs15 gh=>[(7,hS false 1 gh 4 s15.length),(6,I s6.2),(5,eL cS v1),(4,hS false 0 u8 1 s6.1.length),(0,St text)]) (λs15 gh=>[bE false u8 1 66 (s6.1.map<|cL GY.c),bE false gh 4 69 (s15.map GY.c)]) (λs15 u31 h hg=>?_) λs15 h=>?_
  ·refine jC<|oN mv<|oN mv<|oA (EvA.mkR [[hS false 1 u31 4 s15.length]] ib Z Z Z Z)<|jL h λg32 h=>oA (EvA.appR (g:=false) (rows:=s6.1.map<|cL GY.c) (rows':=s6.1.map (cL GY.c)++[[hS false 1 u31 4 s15.length]]) (n':=s6.1.length+1) ib (by kernel_rfl) Z Z (by simp) nofun (bg.raw (rows:=[[hS false 1 u31 4 s15.length]]) Z Z Z) g32 Z Z)<|oN (GU.asg (hS false 0 (u8+1) 1<|s6.1.length+1) Z)<|jA ?_;obtain rfl:=GX h;exact ⟨u8+1,trivial,pG Z (.cons (.snoc qD<|.cons (.cons (.fz<|Fz.own (g:=false) (ver:=u31) (l:=s15) Z Z Z nofun GY.isF) .nil) .nil) .nil)<|au (.eqv (congrArg (hS false 0 (u8+1) 1) (by simp:(s6.1.length+1)=(s6.1++[s15]).length))<|.hS (g:=false) (b:=0) (ver:=u8+1) (s:=1) (n:=(s6.1++[s15]).length) Z)<|au (.fz<|qC Z)<|au (.fz<|qC Z)<|au (.fz<|qC Z) bO⟩
  refine jI<|oN as'<|jA<|jE ?_;refine jO (S:=(List GY)×Int) (G:=Nat) (cE v1 s6 v14) (λs19 gh=>True) (λs19 gh=>[(9,I s19.2),(8,eL cS v14),(7,hS false 1 gh 4 s19.1.length),(6,I s6.2),(5,eL cS v1),(4,hS false 0 u8 1 s6.1.length),(0,St text)]) (λs19 gh=>[bE false u8 1 66 (s6.1.map<|cL GY.c),bE false gh 4 69 (s19.1.map GY.c)]) (s0:=(([]:List GY),U)) 0 h trivial (kw Z Z) λs19 u21 ws19 h hg=>?_;refine jH<|jI<|oN mv<|oN mv<|oN (GU.lenL yL Z)<|oN (GU.ilt Z Z)<|oN mv ?_;refine TO.jB h 3 (λs22=>[(36,Bo s22),(9,I s19.2),(8,eL cS v14),(7,hS false 1 u21 4 s19.1.length),(6,I s6.2),(5,eL cS v1),(4,hS false 0 u8 1 s6.1.length),(0,St text)]) (λs22=>[bE false u8 1 66 (s6.1.map<|cL GY.c),bE false u21 4 69 (s19.1.map GY.c)]) (λs22 q23 h js22=>?_) (λs22 q23 h js22=>?_) λs22 h=>?_
  ·refine gN Z q23 mv<|gN Z q23 (GU.ile Z Z)<|oN (GU.pickT Z q23 (Bo<|decide<|s19.2<=(7:Int)) Z) ?_
   cases h
   exact js22 _ _<|kw Z Z
  ·refine gS Z q23<|gS Z q23<|oN (GU.pickF Z q23 (Bo false) Z) ?_
   cases h
   exact js22 _ _<|kw Z Z
  refine oN mv ?_;refine TO.jB h 6 (λs24=>[(43,Bo s24),(9,I s19.2),(8,eL cS v14),(7,hS false 1 u21 4 s19.1.length),(6,I s6.2),(5,eL cS v1),(4,hS false 0 u8 1 s6.1.length),(0,St text)]) (λs24=>[bE false u8 1 66 (s6.1.map<|cL GY.c),bE false u21 4 69 (s19.1.map GY.c)]) (λs24 q25 h js24=>?_) (λs24 q25 h js24=>?_) λs24 h=>?_
  ·refine gN Z q25 mv<|gN Z q25 mv<|gN Z q25 (GU.ixL yL Z Z g13 qD)<|gN Z q25 (lf (St<|J v1 s6.2) ty9 Z)<|gN Z q25 (GU.sne Z Z)<|oN (GU.pickT Z q25 (Bo<|!decide ((J v1 s6.2)=(⟨#[]⟩:ByteArray))) Z) ?_
   cases h
   exact js24 _ _<|kw Z Z
  ·refine gS Z q25<|gS Z q25<|gS Z q25<|gS Z q25<|gS Z q25<|oN (GU.pickF Z q25 (Bo false) Z) ?_
   cases h
   exact js24 _ _<|kw Z Z
  refine jA ?_;refine jN Z h (λq26 h=>?_) λq26 h=>?_
  ·refine jG<|jH<|jE<|jC<|oN mv<|oN mv<|oN mv<|jD h λg27 h=>oN (GU.ixL yL Z Z g27 qD)<|oN (lf (St<|J v14 s19.2) ty9 Z)<|oC h (λ_=>qy _) Z Z Z Z λv28 _ h=>oN (GU.mkF (c:=GY.c) ([v28]:List GY) [(GY.c v28)] mQ Z Z Z qD GY.isF Z)<|jL h λg29 h=>oA (EvA.app1 (g:=false) (l:=s19.1) v28 mQ (by kernel_rfl) Z Z Z nofun (bg.fz (l:=([v28]:List GY)) Z qD) g29)<|oN (GU.asg (hS false 1 (u21+1) 4<|(s19.1++[v28]).length) Z)<|jA ?_;refine jC<|oN mv<|jW h λg30 h=>oN (GU.add Z Z g30)<|oN as'<|jA ?_;obtain rfl:=GX h;exact ⟨((s19.1++[v28]),(s19.2+V)),u21+1,Z,trivial,kw Z Z⟩
  refine jM<|lX h λh=>?_
  cases h
  exact ⟨u21,trivial,kw Z Z⟩
 refine jM<|lX h λh=>?_
 cases h
 exact ⟨u8,trivial,kw Z Z⟩
theorem lC (r_:aa) (bv:Nat) {q} (h:fO r_=some q):dB Tryz.prog 127 [.hp 0 bv 2 0 0] [some ⟨bv,2,99,[(aa.c r_)]⟩] (.agg<|GY.c q.2) [some ⟨bv,2,99,[(aa.c q.1)]⟩]:=by
 refine aM Tryz.func127 Z (by kernel_rfl) Z<|jI<|oA (EvA.al o8 Z Z)<|jA<|jI<|oN mv<|jB h λv1 cv1 h=>oA (EvA.call Z Z Z<|(aB (⟨r_.b,r_.p⟩:aa) (2:Int) bv cv1).one 0 Z (.cons (.hp Z)<|.cons (.pF Z) .nil) (aj Z) (aj Z) Z)<|oN as'<|jA<|jH<|jI<|oN mv<|jB h λv2 cv2 h=>oA (EvA.call Z Z Z<|(aB (⟨v1.1.b,v1.1.p⟩:aa) (7:Int) bv cv2).one 0 Z (.cons (.hp Z)<|.cons (.pF Z) .nil) (aj Z) (aj Z) Z)<|jA ?_;refine jE<|jI<|oN (GU.ieq Z Z)<|oN as'<|jA ?_;refine jN Z h (λq3 h=>?_) λq3 h=>?_
 ·refine jI<|oN (GU.build [I (4:Int),I U,I U,I U] Tryz.underlying69 o8 fH Z Z)<|oV (sr [I (4:Int),I U,I U,I U] gB Z Z Z Z)<|jA<|jK ?_;obtain rfl:=GX h
  repeat (first|refine iG ?_|refine iH ?_)
  exact ⟨ai [(2,.fp (GY.c (⟨(4:Int),U,U,U⟩:GY)) 0)],[some ⟨bv,2,99,[(aa.c (⟨v2.1.b,v2.1.p⟩:aa))]⟩],pG Z (.cons (.row<|.cons (.fz<|qC Z)<|.cons (.fz<|qC Z) .nil) .nil)<|au (.fz<|Fz.fpL (ver:=0) (s:=4) (ty:=69) (rows:=[[I (4:Int),I U,I U,I U]]) Z Z Z<|.cons (qC Z)<|.cons (qC Z)<|.cons (qC Z)<|.cons (qC Z) .nil) bO,jQ (vs:=[.agg (GY.c (⟨(4:Int),U,U,U⟩:GY))]) (.cons (.cellF (.agg<|GY.c (⟨(4:Int),U,U,U⟩:GY)) gB Z Z) .nil) ⟨Z,Z⟩⟩
 refine jI<|oN (GU.ieq Z Z)<|oN as'<|jA ?_;refine jN Z h (λq4 h=>?_) λq4 h=>?_
 ·refine jI<|oN mv<|oN mv<|jB h λv5 cv5 h=>oA (EvA.call Z Z Z<|(aB (⟨v2.1.b,v2.1.p⟩:aa) (2:Int) bv cv5).one 0 Z (.cons (.hp Z)<|.cons (.pF Z) .nil) (aj Z) (aj Z) Z)<|oN (GU.build [I (3:Int),I v1.2,I v5.2,I U] Tryz.underlying69 o8 fH Z Z)<|oV (sr [I (3:Int),I v1.2,I v5.2,I U] gB Z Z Z Z)<|jA<|jK ?_;obtain rfl:=GX h
  repeat (first|refine iG ?_|refine iH ?_)
  exact ⟨ai [(2,.fp (GY.c (⟨(3:Int),v1.2,v5.2,U⟩:GY)) 0)],[some ⟨bv,2,99,[(aa.c (⟨v5.1.b,v5.1.p⟩:aa))]⟩],pG Z (.cons (.row<|.cons (.fz<|qC Z)<|.cons (.fz<|qC Z) .nil) .nil)<|au (.fz<|Fz.fpL (ver:=0) (s:=4) (ty:=69) (rows:=[[I (3:Int),I v1.2,I v5.2,I U]]) Z Z Z<|.cons (qC Z)<|.cons (qC Z)<|.cons (qC Z)<|.cons (qC Z) .nil) bO,jQ (vs:=[.agg (GY.c (⟨(3:Int),v1.2,v5.2,U⟩:GY))]) (.cons (.cellF (.agg<|GY.c (⟨(3:Int),v1.2,v5.2,U⟩:GY)) gB Z Z) .nil) ⟨Z,Z⟩⟩
 refine jI<|oN (GU.ieq Z Z)<|oN as'<|jA ?_;refine jN Z h (λq6 h=>?_) λq6 h=>?_
 ·refine jI<|oN mv<|oN mv<|jB h λv7 cv7 h=>oA (EvA.call Z Z Z<|(aB (⟨v2.1.b,v2.1.p⟩:aa) (2:Int) bv cv7).one 0 Z (.cons (.hp Z)<|.cons (.pF Z) .nil) (aj Z) (aj Z) Z)<|oN mv<|jB h λv8 cv8 h=>oA (EvA.call Z Z Z<|(aB (⟨v7.1.b,v7.1.p⟩:aa) (3:Int) bv cv8).one 0 Z (.cons (.hp Z)<|.cons (.pF Z) .nil) (aj Z) (aj Z) Z)<|jW h λg9 h=>oN (GU.add Z Z g9)<|oN (GU.build [I (5:Int),I v1.2,I v7.2,I (V+v8.2)] Tryz.underlying69 o8 fH Z Z)<|oV (sr [I (5:Int),I v1.2,I v7.2,I (V+v8.2)] gB Z Z Z Z)<|jA<|jK ?_;obtain rfl:=GX h
  repeat (first|refine iG ?_|refine iH ?_)
  exact ⟨ai [(2,.fp (GY.c (⟨(5:Int),v1.2,v7.2,(V+v8.2)⟩:GY)) 0)],[some ⟨bv,2,99,[(aa.c (⟨v8.1.b,v8.1.p⟩:aa))]⟩],pG Z (.cons (.row<|.cons (.fz<|qC Z)<|.cons (.fz<|qC Z) .nil) .nil)<|au (.fz<|Fz.fpL (ver:=0) (s:=4) (ty:=69) (rows:=[[I (5:Int),I v1.2,I v7.2,I (V+v8.2)]]) Z Z Z<|.cons (qC Z)<|.cons (qC Z)<|.cons (qC Z)<|.cons (qC Z) .nil) bO,jQ (vs:=[.agg (GY.c (⟨(5:Int),v1.2,v7.2,(V+v8.2)⟩:GY))]) (.cons (.cellF (.agg<|GY.c (⟨(5:Int),v1.2,v7.2,(V+v8.2)⟩:GY)) gB Z Z) .nil) ⟨Z,Z⟩⟩
 refine T.jU h (λs10=>[(26,Bo s10),(3,I v1.2),(2,.hp 1 0 4 0 0),(0,.hp 0 bv 2 0 0)]) (λs10=>[some ⟨bv,2,99,[(aa.c v2.1)]⟩,some ⟨0,4,69,[[I U,I U,I U,I U]]⟩]) (λs10 h=>?_) λs10 h=>?_
 ·refine jN Z h (λq12 h=>?_) λq12 h=>?_
  ·refine jI<|oN mv<|oN mv<|jB h λv13 cv13 h=>oA (EvA.call Z Z Z<|(aB (⟨v2.1.b,v2.1.p⟩:aa) (3:Int) bv cv13).one 0 Z (.cons (.hp Z)<|.cons (.pF Z) .nil) (aj Z) (aj Z) Z)<|jW h λg14 h=>oN (GU.add Z Z g14)<|oN (GU.build [I (2:Int),I v1.2,I U,I (V+v13.2)] Tryz.underlying69 o8 fH Z Z)<|oV (sr [I (2:Int),I v1.2,I U,I (V+v13.2)] gB Z Z Z Z)<|jA<|jK ?_;obtain rfl:=GX h
   repeat (first|refine iG ?_|refine iH ?_)
   exact ⟨ai [(2,.fp (GY.c (⟨(2:Int),v1.2,U,(V+v13.2)⟩:GY)) 0)],[some ⟨bv,2,99,[(aa.c (⟨v13.1.b,v13.1.p⟩:aa))]⟩],pG Z (.cons (.row<|.cons (.fz<|qC Z)<|.cons (.fz<|qC Z) .nil) .nil)<|au (.fz<|Fz.fpL (ver:=0) (s:=4) (ty:=69) (rows:=[[I (2:Int),I v1.2,I U,I (V+v13.2)]]) Z Z Z<|.cons (qC Z)<|.cons (qC Z)<|.cons (qC Z)<|.cons (qC Z) .nil) bO,jQ (vs:=[.agg (GY.c (⟨(2:Int),v1.2,U,(V+v13.2)⟩:GY))]) (.cons (.cellF (.agg<|GY.c (⟨(2:Int),v1.2,U,(V+v13.2)⟩:GY)) gB Z Z) .nil) ⟨Z,Z⟩⟩
  refine jG<|jI<|oN mv<|oN mv<|jB h λv15 cv15 h=>oA (EvA.call Z Z Z<|(aB (⟨v2.1.b,v2.1.p⟩:aa) (2:Int) bv cv15).one 0 Z (.cons (.hp Z)<|.cons (.pF Z) .nil) (aj Z) (aj Z) Z)<|oN (GU.build [I V,I v1.2,I v15.2,I U] Tryz.underlying69 o8 fH Z Z)<|oV (sr [I V,I v1.2,I v15.2,I U] gB Z Z Z Z)<|jA<|jK ?_;obtain rfl:=GX h
  repeat (first|refine iG ?_|refine iH ?_)
  exact ⟨ai [(2,.fp (GY.c (⟨V,v1.2,v15.2,U⟩:GY)) 0)],[some ⟨bv,2,99,[(aa.c (⟨v15.1.b,v15.1.p⟩:aa))]⟩],pG Z (.cons (.row<|.cons (.fz<|qC Z)<|.cons (.fz<|qC Z) .nil) .nil)<|au (.fz<|Fz.fpL (ver:=0) (s:=4) (ty:=69) (rows:=[[I V,I v1.2,I v15.2,I U]]) Z Z Z<|.cons (qC Z)<|.cons (qC Z)<|.cons (qC Z)<|.cons (qC Z) .nil) bO,jQ (vs:=[.agg (GY.c (⟨V,v1.2,v15.2,U⟩:GY))]) (.cons (.cellF (.agg<|GY.c (⟨V,v1.2,v15.2,U⟩:GY)) gB Z Z) .nil) ⟨Z,Z⟩⟩
 refine jI<|oN (GU.ieq Z Z)<|oN as'<|jA ?_;refine jN Z h (λq11 h=>?_) λq11 h=>?_
 ·refine jG ?_
  cases h
  exact ⟨(),trivial,kw Z Z⟩
 refine jC<|oN (GU.ieq Z Z)<|oN as'<|jA ?_
 cases h
 exact ⟨(),trivial,kw Z Z⟩
theorem sG (r_:aa) (bv:Nat) {q} (h:iZ r_=some q):dB Tryz.prog 108 [.hp 0 bv 2 0 0] [some ⟨bv,2,99,[(aa.c r_)]⟩] (eL (cL GY.c) q.2) [some ⟨bv,2,99,[(aa.c q.1)]⟩]:=by
 refine aM Tryz.func108 Z (by kernel_rfl) Z<|jI<|oN as'<|jA<|jI<|oC h (λ_=>qx) Z Z Z Z λv1 _ h=>oN as'<|jA ?_;obtain ⟨Ks2,es2,ws2,h,ks2⟩:=zN h;refine T.join (S:=(LI)×Int) (G:=Unit) (λs2=>Ks2 s2=some q) (λs2 gh=>True) (λs2 gh=>[(0,.hp 0 bv 2 0 0)]) (λs2 gh=>[some ⟨bv,2,99,[[eL cY s2.1,I s2.2]]⟩]) (λs2 gh h hg=>?_) ?_
 ·clear ks2;subst es2;refine jI<|oA (EvA.mkO (c:=(cL GY.c)) ([]:List<|List GY) [] ib Z Z Z qD Z Z)<|oN (GU.asg (hS false 1 0 1<|([]:List<|List GY).length) Z)<|jA ?_;refine T.jF (G:=Nat) h (λs9 gh=>True) (λs9 gh=>[(6,hS false 1 gh 1 s9.2.2.length),(0,.hp 0 bv 2 0 0)]) (λs9 gh=>[some ⟨bv,2,99,[[eL cY s9.1,I s9.2.1]]⟩,bE false gh 1 66 (s9.2.2.map<|cL GY.c)]) (λs9 u35 h hg=>?_) λs9 h=>?_
  ·refine jH<|jI<|oN mv<|jB h λv36 cv36 h=>oA (EvA.callT Z Z (eX s9.2.2 cv36) (.cons (Fz.own (g:=false) (ver:=u35) (l:=s9.2.2) Z Z Z nofun qD) .nil) Z)<|jA ?_;refine jN Z h (λq37 h=>?_) λq37 h=>?_
   ·refine jI<|oN mv<|oN (GU.asg (hS false 1 u35 1 s9.2.2.length) Z)<|jA<|jK ?_;obtain rfl:=GX h
    repeat (first|refine iG ?_|refine iH ?_)
    exact ⟨ai [(2,eL (cL GY.c) s9.2.2)],[some ⟨bv,2,99,[(aa.c (⟨s9.1,s9.2.1⟩:aa))]⟩],pG Z (.cons (.row<|.cons (.fz<|qC Z)<|.cons (.fz<|qC Z) .nil) .nil)<|au (.fz<|Fz.own (g:=false) (ver:=u35) (l:=s9.2.2) Z Z Z nofun qD) bO,jQ (vs:=[eL (cL GY.c) s9.2.2]) (.cons (.tmp Z) .nil) ⟨Z,Z⟩⟩
   refine jG<|jI<|oN mv<|jB h λv38 cv38 h=>oA (EvA.call Z Z Z<|(lC (⟨s9.1,s9.2.1⟩:aa) bv cv38).one 0 Z (.cons (.hp Z) .nil) (aj Z) (aj Z) Z)<|oN (GU.mkF (c:=GY.c) ([v38.2]:List GY) [(GY.c v38.2)] mQ Z Z Z qD GY.isF Z)<|oN (GU.mkF (c:=(cL GY.c)) ([([v38.2]:List GY)]:List<|List GY) [[eL GY.c ([v38.2]:List GY)]] ib Z Z Z qD qD Z)<|oN as'<|jA<|jK ?_;obtain rfl:=GX h
   repeat (first|refine iG ?_|refine iH ?_)
   exact ⟨ai [(2,eL (cL GY.c) ([([v38.2]:List GY)]:List<|List GY))],[some ⟨bv,2,99,[(aa.c (⟨v38.1.b,v38.1.p⟩:aa))]⟩],pG Z (.cons (.row<|.cons (.fz<|qC Z)<|.cons (.fz<|qC Z) .nil) .nil)<|au (.fz<|qC Z) bO,jQ (vs:=[eL (cL GY.c) ([([v38.2]:List GY)]:List<|List GY)]) (.cons (.tmp Z) .nil) ⟨Z,Z⟩⟩
  refine jI<|oN mv<|oN (GU.mkF (c:=cI) ([(2:Int),(3:Int),V]:LI) [[I (2:Int)],[I (3:Int)],[I V]] mV Z Z Z qD qD Z)<|jB h λv10 cv10 h=>oA (EvA.call Z Z Z<|(bF (⟨s2.1,s2.2⟩:aa) ([(2:Int),(3:Int),V]:LI) bv cv10).one 0 Z (.cons (.hp Z)<|.cons (.pF Z) .nil) (aj Z) (aj Z) Z)<|oN as'<|jA<|jE ?_;refine jO (S:=(LI)×Int×(List<|List GY)×Int) (G:=Nat) fo (λs14 gh=>True) (λs14 gh=>[(7,I s14.2.2.2),(6,hS false 1 gh 1 s14.2.2.1.length),(0,.hp 0 bv 2 0 0)]) (λs14 gh=>[some ⟨bv,2,99,[[eL cY s14.1,I s14.2.1]]⟩,bE false gh 1 66 (s14.2.2.1.map<|cL GY.c)]) (s0:=(v10.1.b,v10.1.p,([]:List<|List GY),v10.2)) 0 h trivial (kw Z Z) λs14 u16 ws14 h hg=>?_;refine jH<|jI<|oN mv<|oN (GU.igt Z Z)<|jA ?_;refine jN Z h (λq17 h=>?_) λq17 h=>?_
  ·refine jG ?_;refine T.jF (G:=Nat) h (λs18 gh=>True) (λs18 gh=>[(6,hS false 1 gh 1 s18.2.2.length),(7,I s14.2.2.2),(0,.hp 0 bv 2 0 0)]) (λs18 gh=>[some ⟨bv,2,99,[[eL cY s18.1,I s18.2.1]]⟩,bE false gh 1 66 (s18.2.2.map<|cL GY.c)]) (λs18 u33 h hg=>?_) λs18 h=>?_
   ·refine jC<|oN mv<|jW h λg34 h=>oN (GU.sub Z Z g34)<|oN as'<|jA ?_;obtain rfl:=GX h;exact ⟨(s18.1,s18.2.1,s18.2.2,(s14.2.2.2-V)),u33,Z,trivial,kw Z Z⟩
   refine jE<|jI<|oA (EvA.mkO (c:=GY.c) ([]:List GY) [] mQ Z Z Z qD Z Z)<|oN (GU.asg (hS false 2 0 4<|([]:List GY).length) Z)<|jA ?_;refine T.jF (G:=Nat) h (λs19 gh=>True) (λs19 gh=>[(8,hS false 2 gh 4 s19.2.2.length),(7,I s14.2.2.2),(6,hS false 1 u16 1 s14.2.2.1.length),(0,.hp 0 bv 2 0 0)]) (λs19 gh=>[some ⟨bv,2,99,[[eL cY s19.1,I s19.2.1]]⟩,bE false u16 1 66 (s14.2.2.1.map<|cL GY.c),bE false gh 4 69 (s19.2.2.map GY.c)]) (λs19 u31 h hg=>?_) λs19 h=>?_
   ·refine jC<|oN mv<|oN mv<|oA (EvA.mkR [[hS false 2 u31 4 s19.2.2.length]] ib Z Z Z Z)<|jL h λg32 h=>oA (EvA.appR (g:=false) (rows:=s14.2.2.1.map<|cL GY.c) (rows':=s14.2.2.1.map (cL GY.c)++[[hS false 2 u31 4 s19.2.2.length]]) (n':=s14.2.2.1.length+1) ib (by kernel_rfl) Z Z (by simp) nofun (bg.raw (rows:=[[hS false 2 u31 4 s19.2.2.length]]) Z Z Z) g32 Z Z)<|oN (GU.asg (hS false 1 (u16+1) 1<|s14.2.2.1.length+1) Z)<|jA ?_;obtain rfl:=GX h;exact ⟨u16+1,trivial,pG Z (.cons (.row<|.cons (.fz<|qC Z)<|.cons (.fz<|qC Z) .nil)<|.cons (.snoc qD<|.cons (.cons (.fz<|Fz.own (g:=false) (ver:=u31) (l:=s19.2.2) Z Z Z nofun GY.isF) .nil) .nil) .nil)<|au (.eqv (congrArg (hS false 1 (u16+1) 1) (by simp:(s14.2.2.1.length+1)=(s14.2.2.1++[s19.2.2]).length))<|.hS (g:=false) (b:=1) (ver:=u16+1) (s:=1) (n:=(s14.2.2.1++[s19.2.2]).length) Z)<|au (.fz<|qC Z)<|au (.hp<|nlb Z) bO⟩
   refine jI<|oN mv<|oN (GU.mkF (c:=cI) ([(2:Int),V,(3:Int),(2:Int),U]:LI) [[I (2:Int)],[I V],[I (3:Int)],[I (2:Int)],[I U]] mV Z Z Z qD qD Z)<|jB h λv20 cv20 h=>oA (EvA.call Z Z Z<|(bF (⟨s14.1,s14.2.1⟩:aa) ([(2:Int),V,(3:Int),(2:Int),U]:LI) bv cv20).one 0 Z (.cons (.hp Z)<|.cons (.pF Z) .nil) (aj Z) (aj Z) Z)<|oN as'<|jA<|jE ?_;refine jO (S:=(LI)×Int×(List GY)×Int) (G:=Nat) fg (λs24 gh=>True) (λs24 gh=>[(9,I s24.2.2.2),(8,hS false 2 gh 4 s24.2.2.1.length),(7,I s14.2.2.2),(6,hS false 1 u16 1 s14.2.2.1.length),(0,.hp 0 bv 2 0 0)]) (λs24 gh=>[some ⟨bv,2,99,[[eL cY s24.1,I s24.2.1]]⟩,bE false u16 1 66 (s14.2.2.1.map<|cL GY.c),bE false gh 4 69 (s24.2.2.1.map GY.c)]) (s0:=(v20.1.b,v20.1.p,([]:List GY),v20.2)) 0 h trivial (kw Z Z) λs24 u26 ws24 h hg=>?_;refine jH<|jI<|oN mv<|oN (GU.igt Z Z)<|jA ?_;refine jN Z h (λq27 h=>?_) λq27 h=>?_
   ·refine jG<|jH<|jE<|jC<|oN mv<|oN mv<|jB h λv28 cv28 h=>oA (EvA.call Z Z Z<|(lC (⟨s24.1,s24.2.1⟩:aa) bv cv28).one 0 Z (.cons (.hp Z) .nil) (aj Z) (aj Z) Z)<|oN (GU.mkF (c:=GY.c) ([v28.2]:List GY) [(GY.c v28.2)] mQ Z Z Z qD GY.isF Z)<|jL h λg29 h=>oA (EvA.app1 (g:=false) (l:=s24.2.2.1) v28.2 mQ (by kernel_rfl) Z Z Z nofun (bg.fz (l:=([v28.2]:List GY)) Z qD) g29)<|oN (GU.asg (hS false 2 (u26+1) 4<|(s24.2.2.1++[v28.2]).length) Z)<|jA<|jC<|oN mv<|jW h λg30 h=>?_;refine oN (GU.sub Z Z g30)<|oN as'<|jA ?_;obtain rfl:=GX h;exact ⟨(v28.1.b,v28.1.p,(s24.2.2.1++[v28.2]),(s24.2.2.2-V)),u26+1,Z,trivial,kw Z Z⟩
   refine jM<|lX h λh=>?_
   cases h
   exact ⟨u26,trivial,kw Z Z⟩
  refine jM<|lX h λh=>?_
  cases h
  exact ⟨u16,trivial,kw Z Z⟩
 refine jI<|oN mv<|jB h λv3 cv3 h=>oA (EvA.call Z Z Z<|(aB (⟨r_.b,r_.p⟩:aa) (3:Int) bv cv3).one 0 Z (.cons (.hp Z)<|.cons (.pF Z) .nil) (aj Z) (aj Z) Z)<|oN (GU.igt Z Z)<|jA ?_;refine jN Z h (λq4 h=>?_) λq4 h=>?_
 ·refine jI<|oN mv<|oN mv<|oN mv<|oN (GU.lenL yL Z)<|jB h λv5 cv5 h=>oA (EvA.call Z Z Z<|(aB (⟨v3.1.b,v3.1.p⟩:aa) (v1.length:Int) bv cv5).one 0 Z (.cons (.hp Z)<|.cons (.pF Z) .nil) (aj Z) (aj Z) Z)<|jD h λg6 h=>oN (GU.ixL yL Z Z g6 qD)<|oN (lf (St<|J v1 v5.2) ty9 Z)<|oC h (λ_=>iF _) Z Z Z Z λv7 _ h=>oN mv<|oN (GU.ext (eL (cL GY.c) v7.1) Z Z)<|oN (GU.ext (Bo v7.2) Z Z)<|oN as'<|oN as' ?_;refine jA<|jH<|T.clean (H0:=[some ⟨bv,2,99,[(aa.c v5.1)]⟩]) (e0:=ai [(5,Bo v7.2),(4,eL (cL GY.c) v7.1),(0,.hp 0 bv 2 0 0)]) Z (GR Z<|GR Z<|GR Z GQ)<|jC<|oN mv<|jA ?_;refine jN Z h (λq8 h=>?_) λq8 h=>?_
  ·refine jI<|oN mv<|oN as'<|jA<|jK ?_;obtain rfl:=GX h;replace h:=congrArg some (show _=_ from ks2);obtain rfl:=GX h
   repeat (first|refine iG ?_|refine iH ?_)
   exact ⟨ai [(2,eL (cL GY.c) v7.1)],[some ⟨bv,2,99,[(aa.c (⟨v5.1.b,v5.1.p⟩:aa))]⟩],kw Z Z,jQ (vs:=[eL (cL GY.c) v7.1]) (.cons (.tmp Z) .nil) ⟨Z,Z⟩⟩
  refine jG ?_;obtain rfl:=GX h;exact ⟨(v5.1.b,v5.1.p),(),ks2,trivial,kw Z Z⟩
 refine jG ?_;obtain rfl:=GX h;exact ⟨(v3.1.b,v3.1.p),(),ks2,trivial,kw Z Z⟩
theorem p9 (x:GY) {q} (h:gP x=some q):aJ Tryz.prog 135 [.agg (GY.c x)] (Bo q):=by
 refine pM Tryz.func135 Z (by kernel_rfl) Z<|jI<|oN (GU.bxF (GY.c x) Z Z Z)<|oN as'<|jA<|jI<|oN (fa fH Z)<|oN (lf (I x.Op) G9 Z)<|oN (GU.ieq Z Z)<|oN mv ?_;refine TO.jB h 4 (λs1=>[(10,Bo s1),(1,.fp (GY.c x) 0)]) (λs1=>[]) (λs1 q2 h js1=>?_) (λs1 q2 h js1=>?_) λs1 h=>?_
 ·refine gS Z q2<|gS Z q2<|gS Z q2<|oN (GU.pickT Z q2 (Bo true) Z) ?_
  cases h
  exact js1 _ _<|kw Z Z
 ·refine gN Z q2 (fa fH Z)<|gN Z q2 (lf (I x.Op) G9 Z)<|gN Z q2 (GU.ieq Z Z)<|oN (GU.pickF Z q2 (Bo<|x.Op==(3:Int)) Z) ?_
  cases h
  exact js1 _ _<|kw Z Z
 refine oN mv ?_;refine TO.jB h 4 (λs3=>[(15,Bo s3)]) (λs3=>[]) (λs3 q4 h js3=>?_) (λs3 q4 h js3=>?_) λs3 h=>?_
 ·refine gS Z q4<|gS Z q4<|gS Z q4<|oN (GU.pickT Z q4 (Bo true) Z) ?_
  cases h
  exact js3 _ _<|kw Z Z
 ·refine gN Z q4 (fa fH Z)<|gN Z q4 (lf (I x.Op) G9 Z)<|gN Z q4 (GU.ieq Z Z)<|oN (GU.pickF Z q4 (Bo<|x.Op==(5:Int)) Z) ?_
  cases h
  exact js3 _ _<|kw Z Z
 refine oN as'<|jA<|jK ?_
 cases h
 exact dL Z Z Z
theorem dZ (x:GY) {q} (h:bU x=some q):aJ Tryz.prog 106 [.agg (GY.c x)] (Bo q):=by
 refine pM Tryz.func106 Z (by kernel_rfl) Z<|jI<|oN (GU.bxF (GY.c x) Z Z Z)<|oN as'<|jA<|jI<|oN (fa fH Z)<|oN (lf (I x.Op) G9 Z)<|oN (GU.ieq Z Z)<|oN mv ?_;refine TO.jB h 4 (λs1=>[(10,Bo s1)]) (λs1=>[]) (λs1 q2 h js1=>?_) (λs1 q2 h js1=>?_) λs1 h=>?_
 ·refine gS Z q2<|gS Z q2<|gS Z q2<|oN (GU.pickT Z q2 (Bo true) Z) ?_
  cases h
  exact js1 _ _<|kw Z Z
 ·refine gN Z q2 (fa fH Z)<|gN Z q2 (lf (I x.Op) G9 Z)<|gN Z q2 (GU.ieq Z Z)<|oN (GU.pickF Z q2 (Bo<|x.Op==(5:Int)) Z) ?_
  cases h
  exact js1 _ _<|kw Z Z
 refine oN as'<|jA<|jK ?_
 cases h
 exact dL Z Z Z
theorem lD (p:List<|List GY) (loc:Int) (writes:Bool) {q} (h:fP p loc writes=some q):aJ Tryz.prog 120 [eL (cL GY.c) p,I loc,Bo writes] (I q):=by
 refine pM Tryz.func120 Z (by kernel_rfl) Z<|jI<|oN as'<|jA<|jI<|oN as'<|jA ?_;refine T.jU h (λs1=>[(7,I s1)]) (λs1=>[]) (λs1 h=>?_) λs1 h=>?_
 ·refine jI<|oN mv<|oN as'<|jA<|jK ?_
  cases h
  exact dL Z Z Z
 refine jI<|oN as'<|jA<|jE ?_;refine T.lU h (λs4=>[(8,I s4.1),(7,I s4.2),(0,eL (cL GY.c) p),(1,I loc),(2,Bo writes)]) (λs4=>[]) (kw Z Z) λs4 ws4 h=>?_;refine jH<|jI<|oN mv<|oN mv<|oN (GU.lenL ib Z)<|oN (GU.ilt Z Z)<|jA ?_;refine jN Z h (λq6 h=>?_) λq6 h=>?_
 ·refine jG ?_;refine T.jU h (λs7=>[(8,I s4.1),(7,I s7),(0,eL (cL GY.c) p),(1,I loc),(2,Bo writes)]) (λs7=>[]) (λs7 h=>?_) λs7 h=>?_
  ·refine jC<|oN mv<|jW h λg29 h=>oN (GU.add Z Z g29)<|oN as'<|jA ?_;exact lE h<|kw Z Z
  refine jE<|jI<|oN as'<|jA<|jE ?_;refine T.lU h (λs10=>[(9,I s10.1),(8,I s4.1),(7,I s10.2),(0,eL (cL GY.c) p),(1,I loc),(2,Bo writes)]) (λs10=>[]) (kw Z Z) λs10 ws10 h=>?_;refine jH<|jI<|oN mv<|oN mv<|oN mv<|jD h λg12 h=>oN (GU.ixL ib Z Z g12 qD)<|oN (lf (eL GY.c<|J p s4.1) r9 Z)<|oN (GU.lenL mQ Z)<|oN (GU.ilt Z Z)<|jA ?_;refine jN Z h (λq13 h=>?_) λq13 h=>?_
  ·refine jG ?_;refine T.jU h (λs14=>[(7,I s14),(9,I s10.1),(8,I s4.1),(0,eL (cL GY.c) p),(1,I loc),(2,Bo writes)]) (λs14=>[]) (λs14 h=>?_) λs14 h=>?_
   ·refine jC<|oN mv<|jW h λg28 h=>oN (GU.add Z Z g28)<|oN as'<|jA ?_;exact lE h<|kw Z Z
   refine jE<|jI<|oN mv<|oN mv<|oN (GU.ixL ib Z Z g12 qD)<|oN (lf (eL GY.c<|J p s4.1) r9 Z)<|oN mv<|jD h λg15 h=>oN (GU.ixL mQ Z Z g15 qD)<|oN (lf (.agg<|GY.c<|J (J p s4.1) s10.1) gB Z)<|oA (EvA.al o8 Z Z)<|oV (sr (GY.c<|J (J p s4.1) s10.1) gB Z Z Z Z)<|jA<|jI<|oN (fa fH Z)<|oA (lh (I<|(J (J p s4.1) s10.1).Loc) G9 Z Z Z) ?_;refine oN mv<|oN (GU.ieq Z Z)<|oN mv ?_;refine TO.jB h 14 (λs16=>[(51,Bo s16),(9,I s10.1),(8,I s4.1),(7,I s10.2),(0,eL (cL GY.c) p),(1,I loc),(2,Bo writes)]) (λs16=>[some ⟨0,4,69,[(GY.c<|J (J p s4.1) s10.1)]⟩]) (λs16 q17 h js16=>?_) (λs16 q17 h js16=>?_) λs16 h=>?_
   ·refine gN Z q17 mv<|gN Z q17 mv ?_;refine TO.jB h 3 (λs18=>[(42,Bo s18),(39,Bo writes),(38,Bo writes),(37,Bo<|((J (J p s4.1) s10.1).Loc)==loc),(10,.hp 0 0 4 0 0),(9,I s10.1),(8,I s4.1),(7,I s10.2),(0,eL (cL GY.c) p),(1,I loc),(2,Bo writes)]) (λs18=>[some ⟨0,4,69,[(GY.c<|J (J p s4.1) s10.1)]⟩]) (λs18 q19 h js18=>?_) (λs18 q19 h js18=>?_) λs18 h=>?_
    ·refine gA Z q19 (lh (.agg<|GY.c<|J (J p s4.1) s10.1) gB Z Z Z)<|jB h λv20 cv20 h=>gN Z q19 (GU.call Z Z Z (p9 (⟨(J (J p s4.1) s10.1).Op,(J (J p s4.1) s10.1).Loc,(J (J p s4.1) s10.1).Reg,(J (J p s4.1) s10.1).Val⟩:GY) cv20) Z)<|gN Z q17 (GU.pickT Z q19 (Bo v20) Z) ?_
     cases h
     exact js18 _ _<|kw Z Z
    ·refine gS Z q19<|gS Z q19<|gN Z q17 (GU.pickF Z q19 (Bo false) Z) ?_
     cases h
     exact js18 _ _<|kw Z Z
    refine gN Z q17 mv ?_;refine TO.jB h 7 (λs21=>[(50,Bo s21),(43,Bo s18),(42,Bo s18),(39,Bo writes),(38,Bo writes),(37,Bo<|((J (J p s4.1) s10.1).Loc)==loc),(9,I s10.1),(8,I s4.1),(7,I s10.2),(0,eL (cL GY.c) p),(1,I loc),(2,Bo writes)]) (λs21=>[some ⟨0,4,69,[(GY.c<|J (J p s4.1) s10.1)]⟩]) (λs21 q22 h js21=>?_) (λs21 q22 h js21=>?_) λs21 h=>?_
    ·refine gS Z q22<|gS Z q22<|gS Z q22<|gU Z<|gU Z<|gS Z q22<|gN Z q17 (GU.pickT Z q22 (Bo true) Z) ?_
     cases h
     exact js21 _ _<|kw Z Z
    ·refine gN Z q22 mv<|gN Z q22 (GU.not Z)<|gN Z q22 mv ?_;refine TO.jB h 3 (λs23=>[(49,Bo s23),(46,Bo<|!writes),(45,Bo<|!writes),(44,Bo writes),(43,Bo s18),(42,Bo s18),(39,Bo writes),(38,Bo writes),(37,Bo<|((J (J p s4.1) s10.1).Loc)==loc),(9,I s10.1),(8,I s4.1),(7,I s10.2),(0,eL (cL GY.c) p),(1,I loc),(2,Bo writes)]) (λs23=>[some ⟨0,4,69,[(GY.c<|J (J p s4.1) s10.1)]⟩]) (λs23 q24 h js23=>?_) (λs23 q24 h js23=>?_) λs23 h=>?_
     ·refine gA Z q24 (lh (.agg<|GY.c<|J (J p s4.1) s10.1) gB Z Z Z)<|jB h λv25 cv25 h=>gN Z q24 (GU.call Z Z Z (dZ (⟨(J (J p s4.1) s10.1).Op,(J (J p s4.1) s10.1).Loc,(J (J p s4.1) s10.1).Reg,(J (J p s4.1) s10.1).Val⟩:GY) cv25) Z)<|gN Z q22 (GU.pickT Z q24 (Bo v25) Z) ?_
      cases h
      exact js23 _ _<|kw Z Z
     ·refine gS Z q24<|gS Z q24<|gN Z q22 (GU.pickF Z q24 (Bo false) Z) ?_
      cases h
      exact js23 _ _<|kw Z Z
     refine gN Z q17 (GU.pickF Z q22 (Bo s23) Z) ?_
     cases h
     exact js21 _ _<|kw Z Z
    refine oN (GU.pickT Z q17 (Bo s21) Z) ?_
    cases h
    exact js16 _ _<|kw Z Z
   ·refine gS Z q17<|gS Z q17<|gU Z<|gU Z<|gS Z q17<|gS Z q17<|gU Z<|gU Z<|gU Z<|gU Z<|gU Z<|gU Z<|gS Z q17<|oN (GU.pickF Z q17 (Bo false) Z) ?_
    cases h
    exact js16 _ _<|kw Z Z
   refine jA ?_;refine jN Z h (λq26 h=>?_) λq26 h=>?_
   ·refine jC<|oN mv<|jW h λg27 h=>oN (GU.add Z Z g27)<|oN as'<|jA ?_
    cases h
    exact ⟨(),trivial,pG Z .nil<|au (.fz<|qC Z)<|au (.fz<|qC Z)<|au (.fz<|qC Z)<|au (.fz<|qC Z)<|au (.fz<|qC Z)<|au (.fz<|qC Z) bO⟩
   refine jG ?_
   cases h
   exact ⟨(),trivial,pG Z .nil<|au (.fz<|qC Z)<|au (.fz<|qC Z)<|au (.fz<|qC Z)<|au (.fz<|qC Z)<|au (.fz<|qC Z)<|au (.fz<|qC Z) bO⟩
  refine jM<|lX h λh=>?_
  cases h
  exact ⟨(),trivial,kw Z Z⟩
 refine jM<|lX h λh=>?_
 cases h
 exact ⟨(),trivial,kw Z Z⟩
theorem qB (p:List<|List GY) (most:Int) {q} (h:iw p most=some q):aJ Tryz.prog 103 [eL (cL GY.c) p,I most] (I q):=by
 refine pM Tryz.func103 Z (by kernel_rfl) Z<|jI<|oN as'<|jA<|jI<|oN as'<|jA ?_;refine T.jU h (λs1=>[(5,I s1),(1,I most)]) (λs1=>[]) (λs1 h=>?_) λs1 h=>?_
 ·refine jH<|jI<|oN mv<|oN mv<|oN (GU.igt Z Z)<|jA ?_;refine jN Z h (λq31 h=>?_) λq31 h=>?_
  ·refine jI<|oN mv<|jW h λg32 h=>oN (GU.add Z Z g32)<|oN as'<|jA<|jK ?_
   cases h
   exact dL Z Z Z
  refine jG<|jI<|oN mv<|oN as'<|jA<|jK ?_
  cases h
  exact dL Z Z Z
 refine jI<|oN as'<|jA<|jE ?_;refine T.lU h (λs4=>[(6,I s4.1),(5,I s4.2),(0,eL (cL GY.c) p),(1,I most)]) (λs4=>[]) (kw Z Z) λs4 ws4 h=>?_;refine jH<|jI<|oN mv<|oN (GU.ile Z Z)<|jA ?_;refine jN Z h (λq6 h=>?_) λq6 h=>?_
 ·refine jG ?_;refine T.jU h (λs7=>[(6,I s4.1),(5,I s7),(0,eL (cL GY.c) p),(1,I most)]) (λs7=>[]) (λs7 h=>?_) λs7 h=>?_
  ·refine jC<|oN mv<|jW h λg30 h=>oN (GU.add Z Z g30)<|oN as'<|jA ?_;exact lE h<|kw Z Z
  refine jE<|jI<|oN mv<|oN mv<|oC h (λ_=>lD _ _ _) Z Z Z Z λv8 _ h=>oN as'<|jA ?_;refine T.jU h (λs9=>[(7,I v8),(6,I s4.1),(5,I s9),(0,eL (cL GY.c) p),(1,I most)]) (λs9=>[]) (λs9 h=>?_) λs9 h=>?_
  ·refine jI<|oN as'<|jA<|jE ?_;refine T.lU h (λs23=>[(9,I s23.1),(7,I v8),(6,I s4.1),(5,I s23.2),(0,eL (cL GY.c) p),(1,I most)]) (λs23=>[]) (kw Z Z) λs23 ws23 h=>?_;refine jH<|jI<|oN mv<|oN mv<|oN (GU.ile Z Z)<|oN mv ?_;refine TO.jB h 4 (λs25=>[(40,Bo s25),(9,I s23.1),(7,I v8),(6,I s4.1),(5,I s23.2),(0,eL (cL GY.c) p),(1,I most)]) (λs25=>[]) (λs25 q26 h js25=>?_) (λs25 q26 h js25=>?_) λs25 h=>?_
   ·refine gN Z q26 mv<|gN Z q26 mv<|gN Z q26 (GU.ile Z Z)<|oN (GU.pickT Z q26 (Bo<|decide<|s23.2<=most) Z) ?_
    cases h
    exact js25 _ _<|kw Z Z
   ·refine gS Z q26<|gS Z q26<|gS Z q26<|oN (GU.pickF Z q26 (Bo false) Z) ?_
    cases h
    exact js25 _ _<|kw Z Z
   refine jA ?_;refine jN Z h (λq27 h=>?_) λq27 h=>?_
   ·refine jG<|jH<|jE<|jC<|oN mv<|oN mv<|jW h λg28 h=>oN (GU.mul Z Z g28)<|oN as'<|jA<|jC<|oN mv<|jW h λg29 h=>oN (GU.add Z Z g29)<|oN as'<|jA ?_;exact lE h<|kw Z Z
   refine jM<|lX h λh=>?_
   cases h
   exact ⟨(),trivial,kw Z Z⟩
  refine jI<|oN as'<|jA<|jE ?_;refine T.lU h (λs12=>[(8,I s12.1),(7,I v8),(6,I s4.1),(5,I s12.2),(0,eL (cL GY.c) p),(1,I most)]) (λs12=>[]) (kw Z Z) λs12 ws12 h=>?_;refine jH<|jI<|oN mv<|oN mv<|oN mv<|oC h (λ_=>lD _ _ _) Z Z Z Z λv14 _ h=>oN (GU.ilt Z Z)<|oN mv ?_;refine TO.jB h 4 (λs15=>[(26,Bo s15),(8,I s12.1),(7,I v8),(6,I s4.1),(5,I s12.2),(0,eL (cL GY.c) p),(1,I most)]) (λs15=>[]) (λs15 q16 h js15=>?_) (λs15 q16 h js15=>?_) λs15 h=>?_
  ·refine gN Z q16 mv<|gN Z q16 mv<|gN Z q16 (GU.ile Z Z)<|oN (GU.pickT Z q16 (Bo<|decide<|s12.2<=most) Z) ?_
   cases h
   exact js15 _ _<|kw Z Z
  ·refine gS Z q16<|gS Z q16<|gS Z q16<|oN (GU.pickF Z q16 (Bo false) Z) ?_
   cases h
   exact js15 _ _<|kw Z Z
  refine jA ?_;refine jN Z h (λq17 h=>?_) λq17 h=>?_
  ·refine jG<|jH<|jE<|jC<|oN mv<|oN mv<|jW h λg18 h=>oN (GU.add Z Z g18)<|jW h λg19 h=>oN (GU.mul Z Z g19)<|oN as'<|jA<|jC<|oN mv<|jW h λg20 h=>oN (GU.add Z Z g20) ?_;refine oN as'<|jA ?_;exact lE h<|kw Z Z
  refine jM<|lX h λh=>?_
  cases h
  exact ⟨(),trivial,kw Z Z⟩
 refine jM<|lX h λh=>?_
 cases h
 exact ⟨(),trivial,kw Z Z⟩
theorem qE (r_:aa) (bv:Nat) {q} (h:iy r_=some q):dB Tryz.prog 85 [.hp 0 bv 2 0 0] [some ⟨bv,2,99,[(aa.c r_)]⟩] (eL (cL GY.c) q.2) [some ⟨bv,2,99,[(aa.c q.1)]⟩]:=by
 refine aM Tryz.func85 Z (by kernel_rfl) Z<|jI<|oN as'<|jA<|jI<|oN mv<|jB h λv1 cv1 h=>oA (EvA.call Z Z Z<|(sG (⟨r_.b,r_.p⟩:aa) bv cv1).one 0 Z (.cons (.hp Z) .nil) (aj Z) (aj Z) Z)<|oN as'<|jA<|jH<|jI<|oN mv<|oC h (λ_=>qB _ _) Z Z Z Z λv2 _ h=>oN (GU.ile Z Z)<|jA ?_;refine jN Z h (λq3 h=>?_) λq3 h=>?_
 ·refine jI<|oN mv<|oN as'<|jA<|jK ?_;obtain rfl:=GX h
  repeat (first|refine iG ?_|refine iH ?_)
  exact ⟨ai [(2,eL (cL GY.c) v1.2)],[some ⟨bv,2,99,[(aa.c (⟨v1.1.b,v1.1.p⟩:aa))]⟩],kw Z Z,jQ (vs:=[eL (cL GY.c) v1.2]) (.cons (.tmp Z) .nil) ⟨Z,Z⟩⟩
 refine jG<|jI<|oC h (λ_=>iF _) Z Z Z Z λv4 _ h=>oN mv<|oN (GU.ext (eL (cL GY.c) v4.1) Z Z)<|oN (GU.ext (Bo v4.2) Z Z)<|oN as'<|oN as'<|jA<|jI<|oN mv<|oN as'<|jA<|jK ?_;obtain rfl:=GX h
 repeat (first|refine iG ?_|refine iH ?_)
 exact ⟨ai [(2,eL (cL GY.c) v4.1)],[some ⟨bv,2,99,[(aa.c (⟨v1.1.b,v1.1.p⟩:aa))]⟩],kw Z Z,jQ (vs:=[eL (cL GY.c) v4.1]) (.cons (.tmp Z) .nil) ⟨Z,Z⟩⟩
theorem sH (code:LI) {q} (h:kW code=some q):aJ Tryz.prog 65 [eL cY code] (.tup [eL (cL GY.c) q.1,I q.2.1,I q.2.2]):=by
 refine pM Tryz.func65 Z (by kernel_rfl) Z<|jI<|oN as'<|oN as'<|oN as'<|jA<|jI<|oN mv<|jB h λv1 cv1 h=>oA (EvA.call Z Z Z<|(lu code cv1).fresh Z (aj Z) 0 Z)<|oN as'<|jA<|jI<|oN mv<|oN mv<|jB h λv2 cv2 h=>?_;refine oA (EvA.call Z Z Z<|(qE (⟨v1.b,v1.p⟩:aa) 0 cv2).one 0 Z (.cons (.hp Z) .nil) (aj Z) (aj Z) Z)<|jB h λv3 cv3 h=>oA (EvA.call Z Z Z<|(p5 (⟨v2.1.b,v2.1.p⟩:aa) v2.2 0 cv3).one 0 Z (.cons (.hp Z)<|.cons (.pF Z) .nil) (aj Z) (aj Z) Z)<|oN as'<|jA<|jI<|oN mv<|oN mv<|oN (GU.mkF (c:=cI) ([(0:Int),V,U,(2:Int),(-1:Int)]:LI) [[I U],[I V],[I U],[I (2:Int)],[I (-1:Int)]] mV Z Z Z qD qD Z)<|jB h λv4 cv4 h=>oA (EvA.call Z Z Z<|(bF (⟨v3.1.b,v3.1.p⟩:aa) ([(0:Int),V,U,(2:Int),(-1:Int)]:LI) 0 cv4).one 0 Z (.cons (.hp Z)<|.cons (.pF Z) .nil) (aj Z) (aj Z) Z)<|oN mv<|oN (GU.mkF (c:=cI) ([V,U,(2:Int),(3:Int)]:LI) [[I V],[I U],[I (2:Int)],[I (3:Int)]] mV Z Z Z qD qD Z)<|jB h λv5 cv5 h=>oA (EvA.call Z Z Z<|(bF (⟨v4.1.b,v4.1.p⟩:aa) ([V,U,(2:Int),(3:Int)]:LI) 0 cv5).one 0 Z (.cons (.hp Z)<|.cons (.pF Z) .nil) (aj Z) (aj Z) Z)<|oN as' ?_;refine oN as'<|oN as'<|jA<|jK ?_;obtain rfl:=GX h
 repeat (first|refine iG ?_|refine iH ?_)
 exact jQ (vs:=[eL (cL GY.c) v3.2,I v4.2,I v5.2]) (.cons (.tmp Z)<|.cons (.tmp Z)<|.cons (.tmp Z) .nil)<|.tupL<|.cons (qC Z)<|.cons (qC Z)<|.cons (qC Z) .nil
theorem lc (code:LI) {q} (h:dc code=some q):aJ Tryz.prog 30 [eL cY code] (.tup [eL (cL GY.c) q.1,I q.2.1,I q.2.2.1,St q.2.2.2]):=by
 refine pM Tryz.func30 Z (by kernel_rfl) Z<|jI<|oN as'<|oN as'<|oN as'<|oN as'<|jA<|jI<|oN mv<|oC h (λ_=>sH _) Z Z Z Z λv1 _ h=>oN mv<|oN (GU.ext (eL (cL GY.c) v1.1) Z Z)<|oN (GU.ext (I v1.2.1) Z Z)<|oN (GU.ext (I v1.2.2) Z Z)<|oN as'<|oN as' ?_;refine oN as'<|jA<|jI<|oN mv<|jB h λv2 cv2 h=>oA (EvA.call Z Z Z<|(lu code cv2).fresh Z (aj Z) 0 Z)<|oN as'<|jA<|jI<|oN mv<|oN mv<|oN mv<|jD h λg3 h=>oN (GU.rem Z Z g3)<|oN mv<|oN (GU.mkF (c:=cS) ([(⟨#[116,115,111]⟩:ByteArray),(⟨#[112,115,111]⟩:ByteArray),(⟨#[112,115,111]⟩:ByteArray),(⟨#[116,115,111]⟩:ByteArray),(⟨#[115,101,113]⟩:ByteArray),(⟨#[]⟩:ByteArray)]:List ByteArray) [[St (⟨#[116,115,111]⟩:ByteArray)],[St (⟨#[112,115,111]⟩:ByteArray)],[St (⟨#[112,115,111]⟩:ByteArray)],[St (⟨#[116,115,111]⟩:ByteArray)],[St (⟨#[115,101,113]⟩:ByteArray)],[St (⟨#[]⟩:ByteArray)]] yL Z Z Z qD qD Z) ?_;refine jB h λv4 cv4 h=>oA (EvA.call Z Z Z<|(pY (⟨v2.b,v2.p⟩:aa) ([(⟨#[116,115,111]⟩:ByteArray),(⟨#[112,115,111]⟩:ByteArray),(⟨#[112,115,111]⟩:ByteArray),(⟨#[116,115,111]⟩:ByteArray),(⟨#[115,101,113]⟩:ByteArray),(⟨#[]⟩:ByteArray)]:List ByteArray) 0 cv4).one 0 Z (.cons (.hp Z)<|.cons (.pF Z) .nil) (aj Z) (aj Z) Z)<|oN as'<|oN as'<|oN as'<|oN as'<|jA<|jK ?_;obtain rfl:=GX h
 repeat (first|refine iG ?_|refine iH ?_)
 exact jQ (vs:=[eL (cL GY.c) v1.1,I v1.2.1,I (v1.2.2.tmod (2:Int)),St v4.2]) (.cons (.tmp Z)<|.cons (.tmp Z)<|.cons (.tmp Z)<|.cons (.tmp Z) .nil)<|.tupL<|.cons (qC Z)<|.cons (qC Z)<|.cons (qC Z)<|.cons (qC Z) .nil
theorem qb (p:List<|List GY) (t:Int) {q} (h:jm p t=some q):aJ Tryz.prog 66 [eL (cL GY.c) p,I t] (Bo q):=by
 refine pM Tryz.func66 Z (by kernel_rfl) Z<|jI<|oN as'<|jA<|jI<|oN mv<|oC h (λ_=>eU _) Z Z Z Z λv1 _ h=>oN mv ?_;refine TO.jB h 6 (λs2=>[(13,Bo s2)]) (λs2=>[]) (λs2 q3 h js2=>?_) (λs2 q3 h js2=>?_) λs2 h=>?_
 ·refine gN Z q3 mv<|gN Z q3 mv<|gN Z q3 (GU.lenL ib Z)<|jW h λg4 h=>gN Z q3 (GU.sub Z Z g4)<|jB h λv5 cv5 h=>gN Z q3 (GU.call Z Z Z (mq t U ((p.length:Int)-V) cv5) Z)<|oN (GU.pickT Z q3 (Bo v5) Z) ?_
  cases h
  exact js2 _ _<|kw Z Z
 ·refine gS Z q3<|gS Z q3<|gS Z q3<|gS Z q3<|gS Z q3<|oN (GU.pickF Z q3 (Bo false) Z) ?_
  cases h
  exact js2 _ _<|kw Z Z
 refine oN as'<|jA<|jK ?_
 cases h
 exact dL Z Z Z
theorem mE (p:List<|List GY) (t:Int) (i:Int) {q} (h:dY p t i=some q):aJ Tryz.prog 77 [eL (cL GY.c) p,I t,I i] (Bo q):=by
 refine pM Tryz.func77 Z (by kernel_rfl) Z<|jI<|oN as'<|jA<|jI<|oN mv<|oN mv<|oC h (λ_=>qb _ _) Z Z Z Z λv1 _ h=>oN mv ?_;refine TO.jB h 9 (λs2=>[(19,Bo s2)]) (λs2=>[]) (λs2 q3 h js2=>?_) (λs2 q3 h js2=>?_) λs2 h=>?_
 ·refine gN Z q3 mv<|gN Z q3 mv<|gN Z q3 mv<|jD h λg4 h=>gN Z q3 (GU.ixL ib Z Z g4 qD)<|gN Z q3 (lf (eL GY.c<|J p t) r9 Z)<|gN Z q3 (GU.lenL mQ Z)<|jW h λg5 h=>gN Z q3 (GU.sub Z Z g5)<|jB h λv6 cv6 h=>gN Z q3 (GU.call Z Z Z (mq i U (((J p t).length:Int)-(2:Int)) cv6) Z)<|oN (GU.pickT Z q3 (Bo v6) Z) ?_
  cases h
  exact js2 _ _<|kw Z Z
 ·refine gS Z q3<|gS Z q3<|gS Z q3<|gS Z q3<|gS Z q3<|gS Z q3<|gS Z q3<|gS Z q3<|oN (GU.pickF Z q3 (Bo false) Z) ?_
  cases h
  exact js2 _ _<|kw Z Z
 refine oN as'<|jA<|jK ?_
 cases h
 exact dL Z Z Z
theorem nP (name:ByteArray) {q} (h:ik name=some q):aJ Tryz.prog 79 [St name] (Bo q):=by
 refine pM Tryz.func79 Z (by kernel_rfl) Z<|jI<|oN as'<|jA<|jI<|oN mv<|oN (GU.seq Z Z)<|oN mv ?_;refine TO.jB h 3 (λs1=>[(8,Bo s1)]) (λs1=>[]) (λs1 q2 h js1=>?_) (λs1 q2 h js1=>?_) λs1 h=>?_
 ·refine gS Z q2<|gS Z q2<|oN (GU.pickT Z q2 (Bo true) Z) ?_
  cases h
  exact js1 _ _<|kw Z Z
 ·refine gN Z q2 mv<|gN Z q2 (GU.seq Z Z)<|oN (GU.pickF Z q2 (Bo<|decide<|name=(⟨#[112,115,111]⟩:ByteArray)) Z) ?_
  cases h
  exact js1 _ _<|kw Z Z
 refine oN as'<|jA<|jK ?_
 cases h
 exact dL Z Z Z
theorem nQ (p:List<|List GY) (t:Int) (i:Int) (name:ByteArray) {q} (h:fq p t i name=some q):aJ Tryz.prog 31 [eL (cL GY.c) p,I t,I i,St name] (Bo q):=by
 refine pM Tryz.func31 Z (by kernel_rfl) Z<|jI<|oN as'<|jA<|jH<|jI<|oN mv<|oN mv<|oN mv<|oC h (λ_=>mE _ _ _) Z Z Z Z λv1 _ h=>oN (GU.not Z)<|jA ?_;refine jN Z h (λq2 h=>?_) λq2 h=>?_
 ·refine jI<|oN as'<|jA<|jK ?_
  cases h
  exact dL Z Z Z
 refine jG<|jH<|T.reserve<|T.reserve<|jP (dG [dF,dF,dF,dF,dF,dF,dF,dF,dF,dF,dF,dF,dF,dF,dF,([0],true),([1],true),([0],true),([1],true)]) (by kernel_rfl) (by kernel_rfl)<|fN Z mv<|fN Z mv<|jD h λg3 h=>fN Z (GU.ixL ib Z Z g3 qD)<|fN Z (lf (eL GY.c<|J p t) r9 Z)<|fN Z mv<|jD h λg4 h=>fN Z (GU.ixL mQ Z Z g4 qD)<|fN Z (lf (.agg<|GY.c<|J (J p t) i) gB Z)<|fN Z mv<|fN Z mv ?_;refine fN Z (GU.ixL ib Z Z g3 qD)<|fN Z (lf (eL GY.c<|J p t) r9 Z)<|fN Z mv<|jW h λg5 h=>fN Z (GU.add Z Z g5)<|jD h λg6 h=>fN Z (GU.ixL mQ Z Z g6 qD)<|fN Z (lf (.agg<|GY.c<|J (J p t)<|i+V) gB Z)<|fW 0 [] Z Z (λG hG=>EvA.alR 0 o8 Z Z<|hG.a0 Z)<|fW 1 [] Z Z (λG hG=>EvA.alR 1 o8 Z Z<|hG.a0 Z)<|fV 0 [] Z Z (λG hG=>EvA.st (cs:=(GY.c<|J (J p t) i)) ⟨0,4,69,[(GY.c<|J (J p t) i)]⟩ gB Z Z (hG.a0 Z) Z Z Z Z Z Z)<|fV 1 [] Z Z (λG hG=>EvA.st (cs:=(GY.c<|J (J p t)<|i+V)) ⟨0,4,69,[(GY.c<|J (J p t)<|i+V)]⟩ gB Z Z (hG.a0 Z) Z Z Z Z Z Z)<|jR<|jH<|jH<|T.clean (H0:=[some ⟨0,4,69,[(GY.c<|J (J p t) i)]⟩,some ⟨0,4,69,[(GY.c<|J (J p t)<|i+V)]⟩]) (e0:=ai [(10,.hp 1 0 4 0 0),(9,.hp 0 0 4 0 0),(3,St name)]) Z (GR Z<|GR Z<|GR Z GQ) ?_;refine jC<|oN (fa fH Z)<|oA (lh (I<|(J (J p t) i).Op) G9 Z Z Z)<|oN (GU.ine Z Z)<|oN mv ?_;refine TO.jB h 4 (λs7=>[(38,Bo s7),(10,.hp 1 0 4 0 0),(9,.hp 0 0 4 0 0),(3,St name)]) (λs7=>[some ⟨0,4,69,[(GY.c<|J (J p t) i)]⟩,some ⟨0,4,69,[(GY.c<|J (J p t)<|i+V)]⟩]) (λs7 q8 h js7=>?_) (λs7 q8 h js7=>?_) λs7 h=>?_
 ·refine gN Z q8 (fa fH Z)<|gA Z q8 (lh (I<|(J (J p t) i).Op) G9 Z Z Z)<|gN Z q8 (GU.ine Z Z)<|oN (GU.pickT Z q8 (Bo<|((J (J p t) i).Op) != (3:Int)) Z) ?_
  cases h
  exact js7 _ _<|kw Z Z
 ·refine gS Z q8<|gS Z q8<|gS Z q8<|oN (GU.pickF Z q8 (Bo false) Z) ?_
  cases h
  exact js7 _ _<|kw Z Z
 refine oN mv ?_;refine TO.jB h 6 (λs9=>[(45,Bo s9),(10,.hp 1 0 4 0 0),(9,.hp 0 0 4 0 0),(3,St name)]) (λs9=>[some ⟨0,4,69,[(GY.c<|J (J p t) i)]⟩,some ⟨0,4,69,[(GY.c<|J (J p t)<|i+V)]⟩]) (λs9 q10 h js9=>?_) (λs9 q10 h js9=>?_) λs9 h=>?_
 ·refine gS Z q10<|gS Z q10<|gS Z q10<|gS Z q10<|gS Z q10<|oN (GU.pickT Z q10 (Bo true) Z) ?_
  cases h
  exact js9 _ _<|kw Z Z
 ·refine gN Z q10 (fa fH Z)<|gA Z q10 (lh (I<|(J (J p t) i).Loc) G9 Z Z Z)<|gN Z q10 (fa fH Z)<|gA Z q10 (lh (I<|(J (J p t)<|i+V).Loc) G9 Z Z Z)<|gN Z q10 (GU.ieq Z Z)<|oN (GU.pickF Z q10 (Bo<|((J (J p t) i).Loc)==((J (J p t)<|i+V).Loc)) Z) ?_
  cases h
  exact js9 _ _<|kw Z Z
 refine oN mv ?_;refine TO.jB h 15 (λs11=>[(61,Bo s11),(10,.hp 1 0 4 0 0),(3,St name)]) (λs11=>[some ⟨0,4,69,[(GY.c<|J (J p t) i)]⟩,some ⟨0,4,69,[(GY.c<|J (J p t)<|i+V)]⟩]) (λs11 q12 h js11=>?_) (λs11 q12 h js11=>?_) λs11 h=>?_
 ·refine gS Z q12<|gS Z q12<|gS Z q12<|gS Z q12<|gU Z<|gU Z<|gS Z q12<|gS Z q12<|gU Z<|gU Z<|gU Z<|gU Z<|gU Z<|gS Z q12<|oN (GU.pickT Z q12 (Bo true) Z) ?_
  cases h
  exact js11 _ _<|kw Z Z
 ·refine gN Z q12 (fa fH Z)<|gA Z q12 (lh (I<|(J (J p t) i).Op) G9 Z Z Z)<|gN Z q12 (GU.ieq Z Z)<|gN Z q12 mv ?_;refine TO.jB h 3 (λs13=>[(53,Bo s13),(46,Bo s9),(10,.hp 1 0 4 0 0),(9,.hp 0 0 4 0 0),(3,St name)]) (λs13=>[some ⟨0,4,69,[(GY.c<|J (J p t) i)]⟩,some ⟨0,4,69,[(GY.c<|J (J p t)<|i+V)]⟩]) (λs13 q14 h js13=>?_) (λs13 q14 h js13=>?_) λs13 h=>?_
  ·refine gA Z q14 (lh (.agg<|GY.c<|J (J p t)<|i+V) gB Z Z Z)<|jB h λv15 cv15 h=>gN Z q14 (GU.call Z Z Z (fI (⟨(J (J p t)<|i+V).Op,(J (J p t)<|i+V).Loc,(J (J p t)<|i+V).Reg,(J (J p t)<|i+V).Val⟩:GY) cv15) Z)<|gN Z q12 (GU.pickT Z q14 (Bo v15) Z) ?_
   cases h
   exact js13 _ _<|kw Z Z
  ·refine gS Z q14<|gS Z q14<|gN Z q12 (GU.pickF Z q14 (Bo false) Z) ?_
   cases h
   exact js13 _ _<|kw Z Z
  refine gN Z q12 mv ?_;refine TO.jB h 6 (λs16=>[(60,Bo s16),(46,Bo s9),(10,.hp 1 0 4 0 0),(3,St name)]) (λs16=>[some ⟨0,4,69,[(GY.c<|J (J p t) i)]⟩,some ⟨0,4,69,[(GY.c<|J (J p t)<|i+V)]⟩]) (λs16 q17 h js16=>?_) (λs16 q17 h js16=>?_) λs16 h=>?_
  ·refine gN Z q17 (fa fH Z)<|gA Z q17 (lh (I<|(J (J p t) i).Reg) G9 Z Z Z)<|gN Z q17 (fa fH Z)<|gA Z q17 (lh (I<|(J (J p t)<|i+V).Reg) G9 Z Z Z)<|gN Z q17 (GU.ieq Z Z)<|gN Z q12 (GU.pickT Z q17 (Bo<|((J (J p t) i).Reg)==((J (J p t)<|i+V).Reg)) Z) ?_
   cases h
   exact js16 _ _<|kw Z Z
  ·refine gS Z q17<|gS Z q17<|gS Z q17<|gS Z q17<|gS Z q17<|gN Z q12 (GU.pickF Z q17 (Bo false) Z) ?_
   cases h
   exact js16 _ _<|kw Z Z
  refine oN (GU.pickF Z q12 (Bo s16) Z) ?_
  cases h
  exact js11 _ _<|kw Z Z
 refine jA ?_;refine jN Z h (λq18 h=>?_) λq18 h=>?_
 ·refine jI<|oN as'<|jA<|jK ?_
  cases h
  exact dL Z Z Z
 refine jG<|jH<|jI<|oN (fa fH Z)<|oA (lh (I<|(J (J p t)<|i+V).Op) G9 Z Z Z)<|jA<|jE<|jI<|oN (GU.ieq Z Z)<|oN as'<|jA ?_;refine jN Z h (λq19 h=>?_) λq19 h=>?_
 ·refine jI<|oN mv<|oC h (λ_=>nP _) Z Z Z Z λv20 _ h=>oN as'<|jA<|jK ?_
  cases h
  exact dL Z Z Z
 refine T.jU h (λs21=>[(68,Bo s21),(3,St name)]) (λs21=>[some ⟨0,4,69,[(GY.c<|J (J p t) i)]⟩,some ⟨0,4,69,[(GY.c<|J (J p t)<|i+V)]⟩]) (λs21 h=>?_) λs21 h=>?_
 ·refine jN Z h (λq23 h=>?_) λq23 h=>?_
  ·refine jI<|oN mv<|oN (GU.seq Z Z)<|oN as'<|jA<|jK ?_
   cases h
   exact dL Z Z Z
  refine jG<|jI<|oN as'<|jA<|jK ?_
  cases h
  exact dL Z Z Z
 refine jI<|oN (GU.ieq Z Z)<|oN as'<|jA ?_;refine jN Z h (λq22 h=>?_) λq22 h=>?_
 ·refine jG ?_
  cases h
  exact ⟨(),trivial,kw Z Z⟩
 refine jC<|oN (GU.ieq Z Z)<|oN as'<|jA ?_
 cases h
 exact ⟨(),trivial,kw Z Z⟩
theorem vk (n:Int) (most:Int) {q} (h:nL n most=some q):aJ Tryz.prog 69 [I n,I most] (Bo q):=by
 refine pM Tryz.func69 Z (by kernel_rfl) Z<|jI<|oN as'<|jA<|jI<|oN mv<|oN (GU.ige Z Z)<|oN mv ?_;refine TO.jB h 4 (λs1=>[(11,Bo s1)]) (λs1=>[]) (λs1 q2 h js1=>?_) (λs1 q2 h js1=>?_) λs1 h=>?_
 ·refine gN Z q2 mv<|gN Z q2 mv<|gN Z q2 (GU.ile Z Z)<|oN (GU.pickT Z q2 (Bo<|decide<|n<=most) Z) ?_
  cases h
  exact js1 _ _<|kw Z Z
 ·refine gS Z q2<|gS Z q2<|gS Z q2<|oN (GU.pickF Z q2 (Bo false) Z) ?_
  cases h
  exact js1 _ _<|kw Z Z
 refine oN as'<|jA<|jK ?_
 cases h
 exact dL Z Z Z
theorem kL (x:GY) {q} (h:gT x=some q):aJ Tryz.prog 80 [.agg (GY.c x)] (Bo q):=by
 refine pM Tryz.func80 Z (by kernel_rfl) Z<|jI<|oN (GU.bxF (GY.c x) Z Z Z)<|oN as'<|jA<|jI<|oN (fa fH Z)<|oN (lf (I x.Op) G9 Z)<|oN (GU.ieq Z Z)<|oN mv ?_;refine TO.jB h 4 (λs1=>[(10,Bo s1)]) (λs1=>[]) (λs1 q2 h js1=>?_) (λs1 q2 h js1=>?_) λs1 h=>?_
 ·refine gS Z q2<|gS Z q2<|gS Z q2<|oN (GU.pickT Z q2 (Bo true) Z) ?_
  cases h
  exact js1 _ _<|kw Z Z
 ·refine gN Z q2 (fa fH Z)<|gN Z q2 (lf (I x.Op) G9 Z)<|gN Z q2 (GU.ieq Z Z)<|oN (GU.pickF Z q2 (Bo<|x.Op==(3:Int)) Z) ?_
  cases h
  exact js1 _ _<|kw Z Z
 refine oN as'<|jA<|jK ?_
 cases h
 exact dL Z Z Z
theorem qc (a:GY) (b:GY) {q} (h:jo a b=some q):aJ Tryz.prog 81 [.agg (GY.c a),.agg (GY.c b)] (Bo q):=by
 refine pM Tryz.func81 Z (by kernel_rfl) Z<|jI<|oN (GU.bxF (GY.c a) Z Z Z)<|oN (GU.bxF (GY.c b) Z Z Z)<|oN as'<|jA<|jH<|jI<|oN (fa fH Z)<|oN (lf (I a.Loc) G9 Z)<|oN (fa fH Z)<|oN (lf (I b.Loc) G9 Z)<|oN (GU.ieq Z Z)<|jA ?_;refine jN Z h (λq1 h=>?_) λq1 h=>?_
 ·refine jI<|oN as'<|jA<|jK ?_
  cases h
  exact dL Z Z Z
 refine jG<|jI<|oN (lf (.agg<|GY.c a) gB Z)<|oC h (λ_=>dZ _) Z Z Z Z λv2 _ h=>oN mv ?_;refine TO.jB h 3 (λs3=>[(17,Bo s3),(3,.fp (GY.c b) 0),(2,.fp (GY.c a) 0)]) (λs3=>[]) (λs3 q4 h js3=>?_) (λs3 q4 h js3=>?_) λs3 h=>?_
 ·refine gN Z q4 (lf (.agg<|GY.c b) gB Z)<|jB h λv5 cv5 h=>gN Z q4 (GU.call Z Z Z (dZ b cv5) Z)<|oN (GU.pickT Z q4 (Bo v5) Z) ?_
  cases h
  exact js3 _ _<|kw Z Z
 ·refine gS Z q4<|gS Z q4<|oN (GU.pickF Z q4 (Bo false) Z) ?_
  cases h
  exact js3 _ _<|kw Z Z
 refine oN mv ?_;refine TO.jB h 6 (λs6=>[(24,Bo s6),(3,.fp (GY.c b) 0),(2,.fp (GY.c a) 0)]) (λs6=>[]) (λs6 q7 h js6=>?_) (λs6 q7 h js6=>?_) λs6 h=>?_
 ·refine gN Z q7 (fa fH Z)<|gN Z q7 (lf (I a.Reg) G9 Z)<|gN Z q7 (fa fH Z)<|gN Z q7 (lf (I b.Reg) G9 Z)<|gN Z q7 (GU.ieq Z Z)<|oN (GU.pickT Z q7 (Bo<|a.Reg==b.Reg) Z) ?_
  cases h
  exact js6 _ _<|kw Z Z
 ·refine gS Z q7<|gS Z q7<|gS Z q7<|gS Z q7<|gS Z q7<|oN (GU.pickF Z q7 (Bo false) Z) ?_
  cases h
  exact js6 _ _<|kw Z Z
 refine oN as'<|jA<|jI<|oN (lf (.agg<|GY.c a) gB Z)<|oC h (λ_=>dZ _) Z Z Z Z λv8 _ h=>oN mv ?_;refine TO.jB h 4 (λs9=>[(31,Bo s9),(5,Bo s6),(3,.fp (GY.c b) 0),(2,.fp (GY.c a) 0)]) (λs9=>[]) (λs9 q10 h js9=>?_) (λs9 q10 h js9=>?_) λs9 h=>?_
 ·refine gN Z q10 (fa fH Z)<|gN Z q10 (lf (I b.Op) G9 Z)<|gN Z q10 (GU.ieq Z Z)<|oN (GU.pickT Z q10 (Bo<|b.Op==(3:Int)) Z) ?_
  cases h
  exact js9 _ _<|kw Z Z
 ·refine gS Z q10<|gS Z q10<|gS Z q10<|oN (GU.pickF Z q10 (Bo false) Z) ?_
  cases h
  exact js9 _ _<|kw Z Z
 refine oN mv ?_;refine TO.jB h 6 (λs11=>[(38,Bo s11),(5,Bo s6),(3,.fp (GY.c b) 0),(2,.fp (GY.c a) 0)]) (λs11=>[]) (λs11 q12 h js11=>?_) (λs11 q12 h js11=>?_) λs11 h=>?_
 ·refine gN Z q12 (fa fH Z)<|gN Z q12 (lf (I a.Reg) G9 Z)<|gN Z q12 (fa fH Z)<|gN Z q12 (lf (I b.Reg) G9 Z)<|gN Z q12 (GU.ieq Z Z)<|oN (GU.pickT Z q12 (Bo<|a.Reg==b.Reg) Z) ?_
  cases h
  exact js11 _ _<|kw Z Z
 ·refine gS Z q12<|gS Z q12<|gS Z q12<|gS Z q12<|gS Z q12<|oN (GU.pickF Z q12 (Bo false) Z) ?_
  cases h
  exact js11 _ _<|kw Z Z
 refine oN mv ?_;refine TO.jB h 15 (λs13=>[(54,Bo s13),(5,Bo s6)]) (λs13=>[]) (λs13 q14 h js13=>?_) (λs13 q14 h js13=>?_) λs13 h=>?_
 ·refine gS Z q14<|gS Z q14<|gS Z q14<|gU Z<|gU Z<|gU Z<|gS Z q14<|gS Z q14<|gU Z<|gU Z<|gU Z<|gU Z<|gU Z<|gS Z q14<|oN (GU.pickT Z q14 (Bo true) Z) ?_
  cases h
  exact js13 _ _<|kw Z Z
 ·refine gN Z q14 (lf (.agg<|GY.c b) gB Z)<|jB h λv15 cv15 h=>gN Z q14 (GU.call Z Z Z (dZ b cv15) Z)<|gN Z q14 mv ?_;refine TO.jB h 4 (λs16=>[(46,Bo s16),(39,Bo s11),(5,Bo s6),(3,.fp (GY.c b) 0),(2,.fp (GY.c a) 0)]) (λs16=>[]) (λs16 q17 h js16=>?_) (λs16 q17 h js16=>?_) λs16 h=>?_
  ·refine gN Z q17 (fa fH Z)<|gN Z q17 (lf (I a.Op) G9 Z)<|gN Z q17 (GU.ieq Z Z)<|gN Z q14 (GU.pickT Z q17 (Bo<|a.Op==(3:Int)) Z) ?_
   cases h
   exact js16 _ _<|kw Z Z
  ·refine gS Z q17<|gS Z q17<|gS Z q17<|gN Z q14 (GU.pickF Z q17 (Bo false) Z) ?_
   cases h
   exact js16 _ _<|kw Z Z
  refine gN Z q14 mv ?_;refine TO.jB h 6 (λs18=>[(53,Bo s18),(39,Bo s11),(5,Bo s6)]) (λs18=>[]) (λs18 q19 h js18=>?_) (λs18 q19 h js18=>?_) λs18 h=>?_
  ·refine gN Z q19 (fa fH Z)<|gN Z q19 (lf (I a.Reg) G9 Z)<|gN Z q19 (fa fH Z)<|gN Z q19 (lf (I b.Reg) G9 Z)<|gN Z q19 (GU.ieq Z Z)<|gN Z q14 (GU.pickT Z q19 (Bo<|a.Reg==b.Reg) Z) ?_
   cases h
   exact js18 _ _<|kw Z Z
  ·refine gS Z q19<|gS Z q19<|gS Z q19<|gS Z q19<|gS Z q19<|gN Z q14 (GU.pickF Z q19 (Bo false) Z) ?_
   cases h
   exact js18 _ _<|kw Z Z
  refine oN (GU.pickF Z q14 (Bo s18) Z) ?_
  cases h
  exact js13 _ _<|kw Z Z
 refine oN as'<|jA<|jI<|oN mv<|oN (GU.not Z)<|oN mv ?_;refine TO.jB h 3 (λs20=>[(60,Bo s20)]) (λs20=>[]) (λs20 q21 h js20=>?_) (λs20 q21 h js20=>?_) λs20 h=>?_
 ·refine gN Z q21 mv<|gN Z q21 (GU.not Z)<|oN (GU.pickT Z q21 (Bo<|!s13) Z) ?_
  cases h
  exact js20 _ _<|kw Z Z
 ·refine gS Z q21<|gS Z q21<|oN (GU.pickF Z q21 (Bo false) Z) ?_
  cases h
  exact js20 _ _<|kw Z Z
 refine oN as'<|jA<|jK ?_
 cases h
 exact dL Z Z Z
theorem ju (p:List<|List GY) (t:Int) (i:Int) (name:ByteArray) {q} (h:dJ p t i name=some q):aJ Tryz.prog 34 [eL (cL GY.c) p,I t,I i,St name] (Bo q):=by
 refine pM Tryz.func34 Z (by kernel_rfl) Z<|jI<|oN as'<|jA<|jH<|jI<|oN mv<|oC h (λ_=>eX _) Z Z Z Z λv1 _ h=>oN (GU.not Z)<|oN mv ?_;refine TO.jB h 7 (λs2=>[(21,Bo s2),(0,eL (cL GY.c) p),(1,I t),(2,I i),(3,St name)]) (λs2=>[]) (λs2 q3 h js2=>?_) (λs2 q3 h js2=>?_) λs2 h=>?_
 ·refine gS Z q3<|gS Z q3<|gS Z q3<|gS Z q3<|gS Z q3<|gS Z q3<|oN (GU.pickT Z q3 (Bo true) Z) ?_
  cases h
  exact js2 _ _<|kw Z Z
 ·refine gN Z q3 mv<|gN Z q3 mv<|gN Z q3 (GU.lenL ib Z)<|jW h λg4 h=>gN Z q3 (GU.sub Z Z g4)<|jB h λv5 cv5 h=>gN Z q3 (GU.call Z Z Z (vk t ((p.length:Int)-V) cv5) Z)<|gN Z q3 (GU.not Z)<|oN (GU.pickF Z q3 (Bo<|!v5) Z) ?_
  cases h
  exact js2 _ _<|kw Z Z
 refine oN mv ?_;refine TO.jB h 3 (λs6=>[(25,Bo s6),(0,eL (cL GY.c) p),(1,I t),(2,I i),(3,St name)]) (λs6=>[]) (λs6 q7 h js6=>?_) (λs6 q7 h js6=>?_) λs6 h=>?_
 ·refine gS Z q7<|gS Z q7<|oN (GU.pickT Z q7 (Bo true) Z) ?_
  cases h
  exact js6 _ _<|kw Z Z
 ·refine gN Z q7 mv<|gN Z q7 (GU.ilt Z Z)<|oN (GU.pickF Z q7 (Bo<|decide<|i<U) Z) ?_
  cases h
  exact js6 _ _<|kw Z Z
 refine oN mv ?_;refine TO.jB h 9 (λs8=>[(35,Bo s8),(0,eL (cL GY.c) p),(1,I t),(2,I i),(3,St name)]) (λs8=>[]) (λs8 q9 h js8=>?_) (λs8 q9 h js8=>?_) λs8 h=>?_
 ·refine gS Z q9<|gS Z q9<|gS Z q9<|gS Z q9<|gS Z q9<|gS Z q9<|gS Z q9<|gS Z q9<|oN (GU.pickT Z q9 (Bo true) Z) ?_
  cases h
  exact js8 _ _<|kw Z Z
 ·refine gN Z q9 mv<|gN Z q9 mv<|gN Z q9 mv<|jD h λg10 h=>gN Z q9 (GU.ixL ib Z Z g10 qD)<|gN Z q9 (lf (eL GY.c<|J p t) r9 Z)<|gN Z q9 (GU.lenL mQ Z)<|jW h λg11 h=>gN Z q9 (GU.sub Z Z g11)<|gN Z q9 (GU.ige Z Z)<|oN (GU.pickF Z q9 (Bo<|decide<|(((J p t).length:Int)-V)<=i) Z) ?_
  cases h
  exact js8 _ _<|kw Z Z
 refine jA ?_;refine jN Z h (λq12 h=>?_) λq12 h=>?_
 ·refine jI<|oN as'<|jA<|jK ?_
  cases h
  exact dL Z Z Z
 refine jG<|jI<|oN mv<|oN mv<|jD h λg13 h=>oN (GU.ixL ib Z Z g13 qD)<|oN (lf (eL GY.c<|J p t) r9 Z)<|oN mv<|jD h λg14 h=>oN (GU.ixL mQ Z Z g14 qD)<|oN (lf (.agg<|GY.c<|J (J p t) i) gB Z)<|oA (EvA.al o8 Z Z)<|oV (sr (GY.c<|J (J p t) i) gB Z Z Z Z)<|jA<|jI<|oN mv ?_;refine oN mv<|oN (GU.ixL ib Z Z g13 qD)<|oN (lf (eL GY.c<|J p t) r9 Z)<|oN mv<|jW h λg15 h=>oN (GU.add Z Z g15)<|jD h λg16 h=>oN (GU.ixL mQ Z Z g16 qD)<|oN (lf (.agg<|GY.c<|J (J p t)<|i+V) gB Z)<|oA (EvA.al o8 Z Z)<|oV (sr (GY.c<|J (J p t)<|i+V) gB Z Z Z Z)<|jA<|jH<|jH<|T.clean (H0:=[some ⟨0,4,69,[(GY.c<|J (J p t) i)]⟩,some ⟨0,4,69,[(GY.c<|J (J p t)<|i+V)]⟩]) (e0:=ai [(10,.hp 1 0 4 0 0),(9,.hp 0 0 4 0 0),(3,St name)]) Z (GR Z<|GR Z<|GR Z GQ)<|jC ?_;refine oA (lh (.agg<|GY.c<|J (J p t) i) gB Z Z Z)<|oC h (λ_=>kL _) Z Z Z Z λv17 _ h=>oN (GU.not Z)<|oN mv ?_;refine TO.jB h 5 (λs18=>[(59,Bo s18),(10,.hp 1 0 4 0 0),(3,St name)]) (λs18=>[some ⟨0,4,69,[(GY.c<|J (J p t) i)]⟩,some ⟨0,4,69,[(GY.c<|J (J p t)<|i+V)]⟩]) (λs18 q19 h js18=>?_) (λs18 q19 h js18=>?_) λs18 h=>?_
 ·refine gS Z q19<|gS Z q19<|gS Z q19<|gS Z q19<|oN (GU.pickT Z q19 (Bo true) Z) ?_
  cases h
  exact js18 _ _<|kw Z Z
 ·refine gA Z q19 (lh (.agg<|GY.c<|J (J p t) i) gB Z Z Z)<|gA Z q19 (lh (.agg<|GY.c<|J (J p t)<|i+V) gB Z Z Z)<|jB h λv20 cv20 h=>gN Z q19 (GU.call Z Z Z (qc (⟨(J (J p t) i).Op,(J (J p t) i).Loc,(J (J p t) i).Reg,(J (J p t) i).Val⟩:GY) (⟨(J (J p t)<|i+V).Op,(J (J p t)<|i+V).Loc,(J (J p t)<|i+V).Reg,(J (J p t)<|i+V).Val⟩:GY) cv20) Z)<|gN Z q19 (GU.not Z)<|oN (GU.pickF Z q19 (Bo<|!v20) Z) ?_
  cases h
  exact js18 _ _<|kw Z Z
 refine jA ?_;refine jN Z h (λq21 h=>?_) λq21 h=>?_
 ·refine jI<|oN as'<|jA<|jK ?_
  cases h
  exact dL Z Z Z
 refine jG<|jI<|oN mv<|oN (GU.seq Z Z)<|oN mv ?_;refine TO.jB h 4 (λs22=>[(66,Bo s22),(10,.hp 1 0 4 0 0),(3,St name)]) (λs22=>[some ⟨0,4,69,[(GY.c<|J (J p t) i)]⟩,some ⟨0,4,69,[(GY.c<|J (J p t)<|i+V)]⟩]) (λs22 q23 h js22=>?_) (λs22 q23 h js22=>?_) λs22 h=>?_
 ·refine gN Z q23 (fa fH Z)<|gA Z q23 (lh (I<|(J (J p t)<|i+V).Op) G9 Z Z Z)<|gN Z q23 (GU.ieq Z Z)<|oN (GU.pickT Z q23 (Bo<|((J (J p t)<|i+V).Op)==V) Z) ?_
  cases h
  exact js22 _ _<|kw Z Z
 ·refine gS Z q23<|gS Z q23<|gS Z q23<|oN (GU.pickF Z q23 (Bo false) Z) ?_
  cases h
  exact js22 _ _<|kw Z Z
 refine oN mv ?_;refine TO.jB h 12 (λs24=>[(79,Bo s24)]) (λs24=>[some ⟨0,4,69,[(GY.c<|J (J p t) i)]⟩,some ⟨0,4,69,[(GY.c<|J (J p t)<|i+V)]⟩]) (λs24 q25 h js24=>?_) (λs24 q25 h js24=>?_) λs24 h=>?_
 ·refine gS Z q25<|gS Z q25<|gS Z q25<|gU Z<|gU Z<|gU Z<|gU Z<|gU Z<|gU Z<|gU Z<|gS Z q25<|oN (GU.pickT Z q25 (Bo true) Z) ?_
  cases h
  exact js24 _ _<|kw Z Z
 ·refine gN Z q25 mv<|gN Z q25 (GU.seq Z Z)<|gN Z q25 mv ?_;refine TO.jB h 8 (λs26=>[(78,Bo s26),(67,Bo s22)]) (λs26=>[some ⟨0,4,69,[(GY.c<|J (J p t) i)]⟩,some ⟨0,4,69,[(GY.c<|J (J p t)<|i+V)]⟩]) (λs26 q27 h js26=>?_) (λs26 q27 h js26=>?_) λs26 h=>?_
  ·refine gN Z q27 (fa fH Z)<|gA Z q27 (lh (I<|(J (J p t)<|i+V).Op) G9 Z Z Z)<|gN Z q27 (GU.ieq Z Z)<|gN Z q27 mv ?_;refine TO.jB h 3 (λs28=>[(77,Bo s28),(70,Bo<|decide<|name=(⟨#[112,115,111]⟩:ByteArray)),(67,Bo s22)]) (λs28=>[some ⟨0,4,69,[(GY.c<|J (J p t) i)]⟩,some ⟨0,4,69,[(GY.c<|J (J p t)<|i+V)]⟩]) (λs28 q29 h js28=>?_) (λs28 q29 h js28=>?_) λs28 h=>?_
   ·refine gS Z q29<|gS Z q29<|gN Z q27 (GU.pickT Z q29 (Bo true) Z) ?_
    cases h
    exact js28 _ _<|kw Z Z
   ·refine gA Z q29 (lh (.agg<|GY.c<|J (J p t)<|i+V) gB Z Z Z)<|jB h λv30 cv30 h=>gN Z q29 (GU.call Z Z Z (kL (⟨(J (J p t)<|i+V).Op,(J (J p t)<|i+V).Loc,(J (J p t)<|i+V).Reg,(J (J p t)<|i+V).Val⟩:GY) cv30) Z)<|gN Z q27 (GU.pickF Z q29 (Bo v30) Z) ?_
    cases h
    exact js28 _ _<|kw Z Z
   refine gN Z q25 (GU.pickT Z q27 (Bo s28) Z) ?_
   cases h
   exact js26 _ _<|kw Z Z
  ·refine gS Z q27<|gS Z q27<|gS Z q27<|gS Z q27<|gU Z<|gU Z<|gS Z q27<|gN Z q25 (GU.pickF Z q27 (Bo false) Z) ?_
   cases h
   exact js26 _ _<|kw Z Z
  refine oN (GU.pickF Z q25 (Bo s26) Z) ?_
  cases h
  exact js24 _ _<|kw Z Z
 refine oN as'<|jA<|jK ?_
 cases h
 exact dL Z Z Z
theorem sI (a:LI) (b:LI) {q} (h:jc a b=some q):aJ Tryz.prog 64 [eL cI a,eL cI b] (Bo q):=by
 refine pM Tryz.func64 Z (by kernel_rfl) Z<|jI<|oN as'<|jA<|jH<|jI<|oN mv<|oN (GU.lenL mV Z)<|oN mv<|oN (GU.lenL mV Z)<|oN (GU.ine Z Z)<|jA ?_;refine jN Z h (λq1 h=>?_) λq1 h=>?_
 ·refine jI<|oN as'<|jA<|jK ?_
  cases h
  exact dL Z Z Z
 refine jG ?_;obtain ⟨Ks2,es2,ws2,h,ks2⟩:=zN h;refine T.join (S:=Unit) (G:=Unit) (λs2=>Ks2 s2=some q) (λs2 gh=>True) (λs2 gh=>[]) (λs2 gh=>[]) (λs2 gh h hg=>?_) ?_
 ·clear ks2;subst es2;refine jI<|oN as'<|jA<|jK ?_
  cases h
  exact dL Z Z Z
 refine jI<|oN as'<|jA<|jE ?_;refine T.lU h (λs5=>[(5,I s5),(0,eL cI a),(1,eL cI b)]) (λs5=>[]) (kw Z Z) λs5 ws5 h=>?_;refine jH<|jI<|oN mv<|oN mv<|oN (GU.lenL mV Z)<|oN (GU.ilt Z Z)<|jA ?_;refine jN Z h (λq7 h=>?_) λq7 h=>?_
 ·refine jG<|jH<|jE<|jH<|jP (λ_=>([],false)) (by kernel_rfl) (by kernel_rfl)<|fN Z mv<|fN Z mv<|jD h λg8 h=>fN Z (GU.ixL mV Z Z g8 qD)<|fN Z (lf (I<|J a s5) G9 Z)<|fN Z mv<|fN Z mv<|jD h λg9 h=>fN Z (GU.ixL mV Z Z g9 qD)<|fN Z (lf (I<|J b s5) G9 Z)<|fN Z (GU.ine Z Z) ?_;refine jR ?_;refine jN Z h (λq10 h=>?_) λq10 h=>?_
  ·refine jH<|T.clean (H0:=[]) (e0:=ai []) Z GQ<|jC<|oN as'<|jA<|jK<|lX h λh=>?_;obtain rfl:=GX h;replace h:=congrArg some (show _=_ from ks2)
   cases h
   exact dL Z Z Z
  refine jG<|jC<|oN mv<|jW h λg11 h=>oN (GU.add Z Z g11)<|oN as'<|jA ?_;exact lE h<|kw Z Z
 refine jM<|lX h λh=>?_
 cases h
 exact ⟨(),(),ks2,trivial,kw Z Z⟩
theorem o7 (list:LL) (o_:LI) {q} (h:fZ list o_=some q):aJ Tryz.prog 26 [eL (cL cI) list,eL cI o_] (Bo q):=by
 refine pM Tryz.func26 Z (by kernel_rfl) Z<|jI<|oN as'<|jA ?_;obtain ⟨Ks1,es1,ws1,h,ks1⟩:=zN h;refine T.join (S:=Unit) (G:=Unit) (λs1=>Ks1 s1=some q) (λs1 gh=>True) (λs1 gh=>[]) (λs1 gh=>[]) (λs1 gh h hg=>?_) ?_
 ·clear ks1;subst es1;refine jI<|oN as'<|jA<|jK ?_
  cases h
  exact dL Z Z Z
 refine jI<|oN as'<|jA<|jE ?_;refine T.lU h (λs4=>[(5,I s4),(0,eL (cL cI) list),(1,eL cI o_)]) (λs4=>[]) (kw Z Z) λs4 ws4 h=>?_;refine jH<|jI<|oN mv<|oN mv<|oN (GU.lenL vq Z)<|oN (GU.ilt Z Z)<|jA ?_;refine jN Z h (λq6 h=>?_) λq6 h=>?_
 ·refine jG<|jH<|jE<|jI<|oN mv<|oN mv<|jD h λg7 h=>oN (GU.ixL vq Z Z g7 qD)<|oN (lf (eL cI<|J list s4) zP Z)<|oN mv<|oC h (λ_=>sI _ _) Z Z Z Z λv8 _ h=>jA ?_;refine jN Z h (λq9 h=>?_) λq9 h=>?_
  ·refine jI<|oN as'<|jA<|jK<|lX h λh=>?_;obtain rfl:=GX h;replace h:=congrArg some (show _=_ from ks1)
   cases h
   exact dL Z Z Z
  refine jG<|jC<|oN mv<|jW h λg10 h=>oN (GU.add Z Z g10)<|oN as'<|jA ?_;exact lE h<|kw Z Z
 refine jM<|lX h λh=>?_
 cases h
 exact ⟨(),(),ks1,trivial,kw Z Z⟩
theorem kM (a:LL) (b:LL) {q} (h:eT a b=some q):aJ Tryz.prog 35 [eL (cL cI) a,eL (cL cI) b] (Bo q):=by
 refine pM Tryz.func35 Z (by kernel_rfl) Z<|jI<|oN as'<|jA ?_;obtain ⟨Ks1,es1,ws1,h,ks1⟩:=zN h;refine T.join (S:=Unit) (G:=Unit) (λs1=>Ks1 s1=some q) (λs1 gh=>True) (λs1 gh=>[]) (λs1 gh=>[]) (λs1 gh h hg=>?_) ?_
 ·clear ks1;subst es1;refine jI<|oN as'<|jA<|jK ?_
  cases h
  exact dL Z Z Z
 refine jI<|oN as'<|jA<|jE ?_;refine T.lU h (λs4=>[(5,I s4),(0,eL (cL cI) a),(1,eL (cL cI) b)]) (λs4=>[]) (kw Z Z) λs4 ws4 h=>?_;refine jH<|jI<|oN mv<|oN mv<|oN (GU.lenL vq Z)<|oN (GU.ilt Z Z)<|jA ?_;refine jN Z h (λq6 h=>?_) λq6 h=>?_
 ·refine jG<|jH<|jE<|jI<|oN mv<|oN mv<|oN mv<|jD h λg7 h=>oN (GU.ixL vq Z Z g7 qD)<|oN (lf (eL cI<|J a s4) zP Z)<|oC h (λ_=>o7 _ _) Z Z Z Z λv8 _ h=>oN (GU.not Z)<|jA ?_;refine jN Z h (λq9 h=>?_) λq9 h=>?_
  ·refine jI<|oN as'<|jA<|jK<|lX h λh=>?_;obtain rfl:=GX h;replace h:=congrArg some (show _=_ from ks1)
   cases h
   exact dL Z Z Z
  refine jG<|jC<|oN mv<|jW h λg10 h=>oN (GU.add Z Z g10)<|oN as'<|jA ?_;exact lE h<|kw Z Z
 refine jM<|lX h λh=>?_
 cases h
 exact ⟨(),(),ks1,trivial,kw Z Z⟩
theorem mF (code:LI) {q} (h:cJ code=some q):aJ Tryz.prog 7 [eL cY code] (Bo q):=by
 refine pM Tryz.func7 Z (by kernel_rfl) Z<|jI<|oN as'<|jA<|jH<|jI<|oN mv<|oN (GU.lenL nM Z)<|oN (GU.igt Z Z)<|jA ?_;refine jN Z h (λq1 h=>?_) λq1 h=>?_
 ·refine jI<|oN as'<|jA<|jK ?_
  cases h
  exact dL Z Z Z
 refine jG<|jI<|oN mv<|oC h (λ_=>lc _) Z Z Z Z λv2 _ h=>oN mv<|oN (GU.ext (eL (cL GY.c) v2.1) Z Z)<|oN (GU.ext (I v2.2.1) Z Z)<|oN (GU.ext (I v2.2.2.1) Z Z)<|oN (GU.ext (St v2.2.2.2) Z Z)<|oN as'<|oN as'<|oN as'<|oN as'<|jA<|jI<|oN mv ?_;refine oN mv<|oN mv<|oN mv<|oC h (λ_=>nQ _ _ _ _) Z Z Z Z λv3 _ h=>oN as'<|jA<|jH<|T.clean (H0:=[]) (e0:=ai [(7,Bo v3),(6,St v2.2.2.2),(5,I v2.2.2.1),(4,I v2.2.1),(3,eL (cL GY.c) v2.1)]) Z (GR Z<|GR Z<|GR Z<|GR Z<|GR Z GQ)<|jC<|oN mv<|oN mv<|oN mv<|oC h (λ_=>mb _ _ _) Z Z Z Z λv4 _ h=>oN mv<|oN (GU.ext (eL (cL GY.c) v4.1) Z Z)<|oN (GU.ext (Bo v4.2) Z Z) ?_;refine oN as'<|oN as'<|jA<|jI<|oN mv<|oN mv<|oN mv<|oC h (λ_=>mf _ _ _) Z Z Z Z λv5 _ h=>oN mv<|oN (GU.ext (eL (cL GY.c) v5.1) Z Z)<|oN (GU.ext (Bo v5.2) Z Z)<|oN as'<|oN as'<|jA<|jH<|jI ?_;refine oN mv<|oN mv<|oN mv<|oN mv<|oN mv<|oC h (λ_=>ju _ _ _ _) Z Z Z Z λv6 _ h=>oN (GU.bne bt4 Z Z)<|oN mv ?_;refine TO.jB h 4 (λs7=>[(52,Bo s7),(11,Bo v5.2),(10,eL (cL GY.c) v5.1),(9,Bo v4.2),(8,eL (cL GY.c) v4.1),(7,Bo v3),(6,St v2.2.2.2),(5,I v2.2.2.1),(4,I v2.2.1),(3,eL (cL GY.c) v2.1)]) (λs7=>[]) (λs7 q8 h js7=>?_) (λs7 q8 h js7=>?_) λs7 h=>?_
 ·refine gS Z q8<|gS Z q8<|gS Z q8<|oN (GU.pickT Z q8 (Bo true) Z) ?_
  cases h
  exact js7 _ _<|kw Z Z
 ·refine gN Z q8 mv<|gN Z q8 mv<|gN Z q8 (GU.bne bt4 Z Z)<|oN (GU.pickF Z q8 (Bo<|!(v4.2==v5.2)) Z) ?_
  cases h
  exact js7 _ _<|kw Z Z
 refine oN mv ?_;refine TO.jB h 5 (λs9=>[(58,Bo s9),(11,Bo v5.2),(10,eL (cL GY.c) v5.1),(9,Bo v4.2),(8,eL (cL GY.c) v4.1),(7,Bo v3),(6,St v2.2.2.2),(5,I v2.2.2.1),(4,I v2.2.1),(3,eL (cL GY.c) v2.1)]) (λs9=>[]) (λs9 q10 h js9=>?_) (λs9 q10 h js9=>?_) λs9 h=>?_
 ·refine gS Z q10<|gS Z q10<|gS Z q10<|gS Z q10<|oN (GU.pickT Z q10 (Bo true) Z) ?_
  cases h
  exact js9 _ _<|kw Z Z
 ·refine gN Z q10 mv<|gN Z q10 mv<|jB h λv11 cv11 h=>gN Z q10 (GU.call Z Z Z (iR v4.1 v5.1 cv11) Z)<|gN Z q10 (GU.not Z)<|oN (GU.pickF Z q10 (Bo<|!v11) Z) ?_
  cases h
  exact js9 _ _<|kw Z Z
 refine oN mv ?_;refine TO.jB h 3 (λs12=>[(62,Bo s12),(11,Bo v5.2),(10,eL (cL GY.c) v5.1),(9,Bo v4.2),(8,eL (cL GY.c) v4.1),(7,Bo v3),(6,St v2.2.2.2),(5,I v2.2.2.1),(4,I v2.2.1),(3,eL (cL GY.c) v2.1)]) (λs12=>[]) (λs12 q13 h js12=>?_) (λs12 q13 h js12=>?_) λs12 h=>?_
 ·refine gS Z q13<|gS Z q13<|oN (GU.pickT Z q13 (Bo true) Z) ?_
  cases h
  exact js12 _ _<|kw Z Z
 ·refine gN Z q13 mv<|gN Z q13 (GU.not Z)<|oN (GU.pickF Z q13 (Bo<|!v3) Z) ?_
  cases h
  exact js12 _ _<|kw Z Z
 refine jA ?_;refine jN Z h (λq14 h=>?_) λq14 h=>?_
 ·refine jI<|oN mv<|oN mv<|oN mv<|oN mv<|oN mv<|oC h (λ_=>ju _ _ _ _) Z Z Z Z λv15 _ h=>oN (GU.beq bt4 Z Z)<|oN mv ?_;refine TO.jB h 4 (λs16=>[(74,Bo s16),(10,eL (cL GY.c) v5.1),(8,eL (cL GY.c) v4.1)]) (λs16=>[]) (λs16 q17 h js16=>?_) (λs16 q17 h js16=>?_) λs16 h=>?_
  ·refine gN Z q17 mv<|gN Z q17 mv<|gN Z q17 (GU.beq bt4 Z Z)<|oN (GU.pickT Z q17 (Bo<|v4.2==v5.2) Z) ?_
   cases h
   exact js16 _ _<|kw Z Z
  ·refine gS Z q17<|gS Z q17<|gS Z q17<|oN (GU.pickF Z q17 (Bo false) Z) ?_
   cases h
   exact js16 _ _<|kw Z Z
  refine oN mv ?_;refine TO.jB h 4 (λs18=>[(79,Bo s18)]) (λs18=>[]) (λs18 q19 h js18=>?_) (λs18 q19 h js18=>?_) λs18 h=>?_
  ·refine gN Z q19 mv<|gN Z q19 mv<|jB h λv20 cv20 h=>gN Z q19 (GU.call Z Z Z (iR v4.1 v5.1 cv20) Z)<|oN (GU.pickT Z q19 (Bo v20) Z) ?_
   cases h
   exact js18 _ _<|kw Z Z
  ·refine gS Z q19<|gS Z q19<|gS Z q19<|oN (GU.pickF Z q19 (Bo false) Z) ?_
   cases h
   exact js18 _ _<|kw Z Z
  refine oN as'<|jA<|jK ?_
  cases h
  exact dL Z Z Z
 refine jG<|jI<|oN mv<|oN mv ?_;refine TO.jB h 8 (λs21=>[(89,Bo s21),(8,eL (cL GY.c) v4.1),(6,St v2.2.2.2),(3,eL (cL GY.c) v2.1)]) (λs21=>[]) (λs21 q22 h js21=>?_) (λs21 q22 h js21=>?_) λs21 h=>?_
 ·refine gN Z q22 mv<|gN Z q22 mv<|jB h λv23 cv23 h=>gN Z q22 (GU.call Z Z Z (dK v4.1 v2.2.2.2 cv23) Z)<|gN Z q22 mv<|gN Z q22 mv<|jB h λv24 cv24 h=>gN Z q22 (GU.call Z Z Z (dK v2.1 v2.2.2.2 cv24) Z)<|jB h λv25 cv25 h=>gN Z q22 (GU.call Z Z Z (kM v23 v24 cv25) Z)<|oN (GU.pickT Z q22 (Bo v25) Z) ?_
  cases h
  exact js21 _ _<|kw Z Z
 ·refine gS Z q22<|gS Z q22<|gS Z q22<|gS Z q22<|gS Z q22<|gS Z q22<|gS Z q22<|oN (GU.pickF Z q22 (Bo false) Z) ?_
  cases h
  exact js21 _ _<|kw Z Z
 refine oN mv ?_;refine TO.jB h 7 (λs26=>[(97,Bo s26)]) (λs26=>[]) (λs26 q27 h js26=>?_) (λs26 q27 h js26=>?_) λs26 h=>?_
 ·refine gN Z q27 mv<|jB h λv28 cv28 h=>gN Z q27 (GU.call Z Z Z (mi v4.1 cv28) Z)<|gN Z q27 mv<|gN Z q27 mv<|jB h λv29 cv29 h=>gN Z q27 (GU.call Z Z Z (dK v2.1 v2.2.2.2 cv29) Z)<|jB h λv30 cv30 h=>gN Z q27 (GU.call Z Z Z (kM v28 v29 cv30) Z)<|oN (GU.pickT Z q27 (Bo v30) Z) ?_
  cases h
  exact js26 _ _<|kw Z Z
 ·refine gS Z q27<|gS Z q27<|gS Z q27<|gS Z q27<|gS Z q27<|gS Z q27<|oN (GU.pickF Z q27 (Bo false) Z) ?_
  cases h
  exact js26 _ _<|kw Z Z
 refine oN as'<|jA<|jK ?_
 cases h
 exact dL Z Z Z
end
end Go.Proofs.YtjcmfddobaplbaaGreat
