/- Texts joined. No conditions. -/
import Derived.Test.YtjcmfddobaplbaaGreatQ8
namespace Go.Proofs.YtjcmfddobaplbaaGreat
noncomputable section
set_option maxHeartbeats 4000000
open Go.RowKit
set_option maxRecDepth 100000
theorem iV (code:LI) {q} (h:cH code=some q):aO Tryz.prog 12 [eL cY code] (I q):=by
 refine pM Tryz.func12 Z (by kernel_rfl) Z<|jI<|oN as'<|jA<|jI<|oN mv<|jB h λv1 cv1 h=>oA (EvA.call Z Z Z<|(mQ code cv1).fresh Z (dM Z) 0 Z)<|oN as'<|jA<|jH<|jI<|oN mv<|jB h λv2 cv2 h=>oA (EvA.call Z Z Z<|(dA (⟨v1.b,v1.p⟩:ah) (10:Int) 0 cv2).one 0 Z (.cons (.hp Z)<|.cons (.pF Z) .nil) (dM Z) (dM Z) Z)<|oN (CR.ieq Z Z) ?_;refine jA ?_;refine jN Z h (λq3 h=>?_) λq3 h=>?_
 ·refine jI<|oN mv<|oN (CR.mkF (c:=cI) ([(-1:Int),(1296:Int),(1295:Int),U]:LI) [[I (-1:Int)],[I (1296:Int)],[I (1295:Int)],[I U]] oq Z Z Z qD qD Z)<|jB h λv4 cv4 h=>oA (EvA.call Z Z Z<|(lM (⟨v2.1.b,v2.1.p⟩:ah) ([(-1:Int),(1296:Int),(1295:Int),U]:LI) 0 cv4).one 0 Z (.cons (.hp Z)<|.cons (.pF Z) .nil) (dM Z) (dM Z) Z)<|oN as'<|jA<|jK ?_
  cases h
  exact eH Z Z Z
 refine jG<|jI<|oN mv<|jB h λv5 cv5 h=>oA (EvA.call Z Z Z<|(dA (⟨v2.1.b,v2.1.p⟩:ah) (36:Int) 0 cv5).one 0 Z (.cons (.hp Z)<|.cons (.pF Z) .nil) (dM Z) (dM Z) Z)<|jW h λg6 h=>oN (CR.mul Z Z g6)<|oN mv<|jB h λv7 cv7 h=>oA (EvA.call Z Z Z<|(dA (⟨v5.1.b,v5.1.p⟩:ah) (36:Int) 0 cv7).one 0 Z (.cons (.hp Z)<|.cons (.pF Z) .nil) (dM Z) (dM Z) Z)<|jW h λg8 h=>oN (CR.add Z Z g8)<|oN as'<|jA<|jK ?_
 cases h
 exact eH Z Z Z
theorem kP {q} (h:dV=some q):aO Tryz.prog 48 [] (I q):=by
 refine aO.mkT Tryz.func48 Z (by kernel_rfl) Z (by kernel_rfl) (e0:=aj []) wkN<|jI<|oN as'<|jA<|jI<|oN as'<|jA<|jK ?_
 cases h
 exact eH Z Z Z
theorem om (x:Int) (low:Int) (high:Int) {q} (h:gB x low high=some q):aO Tryz.prog 47 [I x,I low,I high] (Bo q):=by
 refine pM Tryz.func47 Z (by kernel_rfl) Z<|jI<|oN as'<|jA<|jI<|oN mv<|oN mv<|oN (CR.ige Z Z)<|oN mv ?_;refine TO.jB h 4 (λs1=>[(14,Bo s1)]) (λs1=>[]) (λs1 q2 h js1=>?_) (λs1 q2 h js1=>?_) λs1 h=>?_
 ·refine gN Z q2 mv<|gN Z q2 mv<|gN Z q2 (CR.ile Z Z)<|oN (CR.pickT Z q2 (Bo<|decide<|x<=high) Z) ?_
  cases h
  exact js1 _ _<|kw Z Z
 ·refine gS Z q2<|gS Z q2<|gS Z q2<|oN (CR.pickF Z q2 (Bo false) Z) ?_
  cases h
  exact js1 _ _<|kw Z Z
 refine oN as'<|jA<|jK ?_
 cases h
 exact eH Z Z Z
theorem j6 {q} (h:dK=some q):aO Tryz.prog 92 [] (eL CV.c q):=by
 refine aO.mkT Tryz.func92 Z (by kernel_rfl) Z (by kernel_rfl) (e0:=aj []) wkN<|jI<|oN as'<|jA<|jI<|oN (CR.build [I (2:Int),I U,I U,I V] Tryz.underlying69 pU j4 Z Z)<|oN (CR.build [I (2:Int),I V,I U,I V] Tryz.underlying69 pU j4 Z Z)<|oN (CR.build [I V,I U,I U,I U] Tryz.underlying69 pU j4 Z Z)<|oN (CR.build [I V,I V,I V,I U] Tryz.underlying69 pU j4 Z Z)<|oN (CR.build [I (4:Int),I U,I U,I U] Tryz.underlying69 pU j4 Z Z)<|oN (CR.build [I (5:Int),I U,I (2:Int),I (2:Int)] Tryz.underlying69 pU j4 Z Z)<|oN (CR.mkF (c:=CV.c) ([(⟨(2:Int),U,U,V⟩:CV),(⟨(2:Int),V,U,V⟩:CV),(⟨V,U,U,U⟩:CV),(⟨V,V,V,U⟩:CV),(⟨(4:Int),U,U,U⟩:CV),(⟨(5:Int),U,(2:Int),(2:Int)⟩:CV)]:List CV) [[I (2:Int),I U,I U,I V],[I (2:Int),I V,I U,I V],[I V,I U,I U,I U],[I V,I V,I V,I U],[I (4:Int),I U,I U,I U],[I (5:Int),I U,I (2:Int),I (2:Int)]] n8 Z Z Z qD CV.isF Z)<|oN as'<|jA<|jK ?_
 cases h
 exact eH Z Z Z
theorem lN (n:Int) {q} (h:eD n=some q):aO Tryz.prog 49 [I n] (eL (cL CV.c) q):=by
 refine pM Tryz.func49 Z (by kernel_rfl) Z<|jI<|oN as'<|jA<|jI<|oC h (λ_=>j6) Z Z Z Z λv1 _ h=>oN as'<|jA<|jH<|jP (λ_=>([],false)) (by kernel_rfl) (by kernel_rfl)<|fN Z mv<|fN Z mv<|jD h λg2 h=>jW h λg3 h=>fN Z (CR.quo Z Z g2 g3)<|jD h λg4 h=>?_;refine fN Z (CR.ixL n8 Z Z g4 qD)<|fN Z (lf (.agg<|CV.c<|J v1<|n.tdiv (216:Int)) nZ Z)<|fN Z mv<|fN Z mv<|jD h λg5 h=>jW h λg6 h=>fN Z (CR.quo Z Z g5 g6)<|jD h λg7 h=>fN Z (CR.rem Z Z g7)<|jD h λg8 h=>fN Z (CR.ixL n8 Z Z g8 qD)<|fN Z (lf (.agg<|CV.c<|J v1<|(n.tdiv (36:Int)).tmod (6:Int)) nZ Z)<|fN Z (CR.mkF (c:=CV.c) ([(J v1<|n.tdiv (216:Int)),(J v1<|(n.tdiv (36:Int)).tmod (6:Int))]:List CV) [(CV.c<|J v1<|n.tdiv (216:Int)),(CV.c<|J v1<|(n.tdiv (36:Int)).tmod (6:Int))] n8 Z Z Z qD CV.isF Z)<|fN Z mv<|fN Z mv<|jW h λg9 h=>?_;refine fN Z (CR.quo Z Z g7 g9)<|fN Z (CR.rem Z Z g7)<|jD h λg10 h=>fN Z (CR.ixL n8 Z Z g10 qD)<|fN Z (lf (.agg<|CV.c<|J v1<|(n.tdiv (6:Int)).tmod (6:Int)) nZ Z)<|fN Z mv<|fN Z mv<|fN Z (CR.rem Z Z g7)<|jD h λg11 h=>fN Z (CR.ixL n8 Z Z g11 qD)<|fN Z (lf (.agg<|CV.c<|J v1<|n.tmod (6:Int)) nZ Z)<|fN Z (CR.mkF (c:=CV.c) ([(J v1<|(n.tdiv (6:Int)).tmod (6:Int)),(J v1<|n.tmod (6:Int))]:List CV) [(CV.c<|J v1<|(n.tdiv (6:Int)).tmod (6:Int)),(CV.c<|J v1<|n.tmod (6:Int))] n8 Z Z Z qD CV.isF Z)<|fN Z (CR.mkF (c:=(cL CV.c)) ([([(J v1<|n.tdiv (216:Int)),(J v1<|(n.tdiv (36:Int)).tmod (6:Int))]:List CV),([(J v1<|(n.tdiv (6:Int)).tmod (6:Int)),(J v1<|n.tmod (6:Int))]:List CV)]:List<|List CV) [[eL CV.c ([(J v1<|n.tdiv (216:Int)),(J v1<|(n.tdiv (36:Int)).tmod (6:Int))]:List CV)],[eL CV.c ([(J v1<|(n.tdiv (6:Int)).tmod (6:Int)),(J v1<|n.tmod (6:Int))]:List CV)]] oK Z Z Z qD qD Z)<|fN Z as'<|jR<|jK ?_
 cases h
 exact eH Z Z Z
theorem lQ (n:Int) {q} (h:dC n=some q):aO Tryz.prog 13 [I n] (.tup [eL (cL CV.c) q.1,Bo q.2]):=by
 refine pM Tryz.func13 Z (by kernel_rfl) Z<|jI<|oN as'<|oN as'<|jA<|jH<|jI<|oN mv<|oC h (λ_=>kP) Z Z Z Z λv1 _ h=>jW h λg2 h=>oN (CR.sub Z Z g2)<|oC h (λ_=>om _ _ _) Z Z Z Z λv3 _ h=>oN (CR.not Z)<|jA ?_;refine jN Z h (λq4 h=>?_) λq4 h=>?_
 ·refine jI<|oN as'<|oN as'<|jA<|jK ?_;obtain rfl:=CU h
  repeat (first|refine jS ?_|refine jT ?_)
  exact jQ (vs:=[.nil,Bo false]) (.cons (.tmp Z)<|.cons (.tmp Z) .nil)<|.tupL<|.cons .nil0<|.cons (qC Z) .nil
 refine jG<|jI<|oN mv<|oC h (λ_=>lN _) Z Z Z Z λv5 _ h=>oN as'<|oN as'<|jA<|jK ?_;obtain rfl:=CU h
 repeat (first|refine jS ?_|refine jT ?_)
 exact jQ (vs:=[eL (cL CV.c) v5,Bo true]) (.cons (.tmp Z)<|.cons (.tmp Z) .nil)<|.tupL<|.cons (qC Z)<|.cons (qC Z) .nil
theorem gX {q} (h:dD=some q):aO Tryz.prog 93 [] (eL CV.c q):=by
 refine aO.mkT Tryz.func93 Z (by kernel_rfl) Z (by kernel_rfl) (e0:=aj []) wkN<|jI<|oN as'<|jA<|jI<|oN (CR.build [I (2:Int),I U,I U,I V] Tryz.underlying69 pU j4 Z Z)<|oN (CR.build [I (2:Int),I V,I U,I V] Tryz.underlying69 pU j4 Z Z)<|oN (CR.build [I V,I U,I U,I U] Tryz.underlying69 pU j4 Z Z)<|oN (CR.build [I V,I V,I V,I U] Tryz.underlying69 pU j4 Z Z)<|oN (CR.build [I (4:Int),I U,I U,I U] Tryz.underlying69 pU j4 Z Z)<|oN (CR.build [I (5:Int),I U,I (2:Int),I (2:Int)] Tryz.underlying69 pU j4 Z Z)<|oN (CR.mkF (c:=CV.c) ([(⟨(2:Int),U,U,V⟩:CV),(⟨(2:Int),V,U,V⟩:CV),(⟨V,U,U,U⟩:CV),(⟨V,V,V,U⟩:CV),(⟨(4:Int),U,U,U⟩:CV),(⟨(5:Int),U,(2:Int),(2:Int)⟩:CV)]:List CV) [[I (2:Int),I U,I U,I V],[I (2:Int),I V,I U,I V],[I V,I U,I U,I U],[I V,I V,I V,I U],[I (4:Int),I U,I U,I U],[I (5:Int),I U,I (2:Int),I (2:Int)]] n8 Z Z Z qD CV.isF Z)<|oN as'<|jA<|jK ?_
 cases h
 exact eH Z Z Z
theorem kQ {q} (h:dW=some q):aO Tryz.prog 50 [] (I q):=by
 refine aO.mkT Tryz.func50 Z (by kernel_rfl) Z (by kernel_rfl) (e0:=aj []) wkN<|jI<|oN as'<|jA<|jI<|oC h (λ_=>gX) Z Z Z Z λv1 _ h=>oN (CR.lenL n8 Z)<|oN as'<|jA<|jI<|oN mv<|oN mv<|jW h λg2 h=>oN (CR.mul Z Z g2)<|oN mv<|jW h λg3 h=>?_;refine oN (CR.mul Z Z g3)<|oN mv<|jW h λg4 h=>oN (CR.mul Z Z g4)<|oN as'<|jA<|jK ?_
 cases h
 exact eH Z Z Z
theorem mR (n:Int) {q} (h:fQ n=some q):aO Tryz.prog 51 [I n] (eL (cL CV.c) q):=by
 refine pM Tryz.func51 Z (by kernel_rfl) Z<|jI<|oN as'<|jA<|jI<|oC h (λ_=>gX) Z Z Z Z λv1 _ h=>oN as'<|jA<|jI<|oN (CR.mkF (c:=CV.c) ([]:List CV) [] n8 Z Z Z qD CV.isF Z)<|oN (CR.mkF (c:=CV.c) ([]:List CV) [] n8 Z Z Z qD CV.isF Z)<|oA (EvA.mkO (c:=(cL CV.c)) ([([]:List CV),([]:List CV)]:List<|List CV) [[eL CV.c ([]:List CV)],[eL CV.c ([]:List CV)]] oK Z Z Z qD Z Z)<|oN (CR.asg (hS false 0 0 1<|([([]:List CV),([]:List CV)]:List<|List CV).length) Z)<|jA ?_;refine T.jF (G:=Nat) h (λs2 gh=>True) (λs2 gh=>[(4,hS false 0 gh 1 s2.length)]) (λs2 gh=>[bE false gh 1 66 (s2.map<|cL CV.c)]) (λs2 u18 h hg=>?_) λs2 h=>?_
 ·refine jI<|oN mv<|oN (CR.asg (hS false 0 u18 1 s2.length) Z)<|jA<|jK ?_;obtain rfl:=CU h
  repeat (first|refine jS ?_|refine jT ?_)
  exact jQ (vs:=[hS false 0 u18 1 s2.length]) (.cons (.tmp Z) .nil)<|Fz.own (g:=false) (ver:=u18) (l:=s2) Z Z Z nofun qD
 refine jI<|oN as'<|jA<|jE ?_;refine jO (S:=(List<|List CV)×Int×Int) (G:=Nat) (dX v1) (λs6 gh=>True) (λs6 gh=>[(5,I s6.2.1),(4,hS false 0 gh 1 s6.1.length),(3,eL CV.c v1),(0,I s6.2.2)]) (λs6 gh=>[bE false gh 1 66 (s6.1.map<|cL CV.c)]) (s0:=(([([]:List CV),([]:List CV)]:List<|List CV),(3:Int),n)) 0 h trivial (kw Z Z) λs6 u8 ws6 h hg=>?_;refine jH<|jI<|oN mv<|oN (CR.ige Z Z)<|jA ?_;refine jN Z h (λq9 h=>?_) λq9 h=>?_
 ·refine jG<|jH<|jE<|jH<|T.reserve<|jP (dG [dF,dF,dF,dF,dF,dF,dF,dF,dF,dF,([1],true),dF,dF,dF,dF,([0],false),([1],true),dF,([0],true)]) (by kernel_rfl) (by kernel_rfl)<|fN Z mv<|fN Z mv<|jD h λg10 h=>jW h λg11 h=>fN Z (CR.quo Z Z g10 g11)<|fN Z mv<|fN Z mv<|fN Z mv<|fN Z (CR.lenL n8 Z)<|jD h λg12 h=>?_;refine fN Z (CR.rem Z Z g12)<|jD h λg13 h=>fN Z (CR.ixL n8 Z Z g13 qD)<|fN Z (lf (.agg<|CV.c<|J v1<|s6.2.2.tmod (v1.length:Int)) nZ Z)<|fW 1 [] Z Z (λG hG=>EvA.mkOR (c:=CV.c) 1 ([(J v1<|s6.2.2.tmod (v1.length:Int))]:List CV) [(CV.c<|J v1<|s6.2.2.tmod (v1.length:Int))] n8 Z Z Z qD CV.isF Z<|hG.a0 Z)<|fN Z mv<|fN Z mv<|fN Z (CR.quo Z Z g10 g11)<|jD h λg14 h=>fN Z (CR.ixO (g:=false) oK Z Z nofun g14)<|fR [0] Z (λG hG=>EvA.ldO (g:=false) (l:=s6.1) (eL CV.c<|s6.1.getD ((s6.2.1.tdiv (2:Int)).toNat) default) Ac Z (hG.a0 Z) nofun (eX Z g14) Z)<|jL h λg15 h=>fW 1 [] Z Z (λG hG=>EvA.appF (l:=([(J v1<|s6.2.2.tmod (v1.length:Int))]:List CV)) (s6.1.getD ((s6.2.1.tdiv (2:Int)).toNat) default) n8 (by kernel_rfl) Z Z (hG.a0 Z) (bK.fz (l:=(s6.1.getD ((s6.2.1.tdiv (2:Int)).toNat) default)) Z qD) g15)<|fN Z (CR.ixO (g:=false) oK Z Z nofun g14)<|fV 0 [] Z Z (λG hG=>EvA.stS (g:=false) (xs:=s6.1) (cs:=[hS false 1 (0+1) 4 ((([(J v1<|s6.2.2.tmod (v1.length:Int))]:List CV)++(s6.1.getD ((s6.2.1.tdiv (2:Int)).toNat) default)).length)]) Ac Z Z (hG.a0 Z) nofun (eX Z g14) qD Z Z)<|jR ?_;refine T.cut (e0:=aj [(5,I s6.2.1),(4,hS false 0 u8 1<|(s6.1.set ((s6.2.1.tdiv (2:Int)).toNat)<|([(J v1<|s6.2.2.tmod (v1.length:Int))]:List CV)++(s6.1.getD ((s6.2.1.tdiv (2:Int)).toNat) default)).length),(3,eL CV.c v1),(0,I s6.2.2)]) (H0:=[bE false u8 1 66 ((s6.1.set ((s6.2.1.tdiv (2:Int)).toNat)<|([(J v1<|s6.2.2.tmod (v1.length:Int))]:List CV)++(s6.1.getD ((s6.2.1.tdiv (2:Int)).toNat) default)).map<|cL CV.c)]) (wu Z (.cons (.rows<|.setM (f:=(cL CV.c)) (v:=(([(J v1<|s6.2.2.tmod (v1.length:Int))]:List CV)++(s6.1.getD ((s6.2.1.tdiv (2:Int)).toNat) default))) qD (.cons (.fz<|Fz.own (g:=false) (ver:=0+1) (l:=(([(J v1<|s6.2.2.tmod (v1.length:Int))]:List CV)++(s6.1.getD ((s6.2.1.tdiv (2:Int)).toNat) default))) Z Z Z nofun CV.isF) .nil) s6.1<|(s6.2.1.tdiv (2:Int)).toNat) .nil)<|aD (.fz<|qC Z)<|aD (.eqv (congrArg (hS false 0 u8 1) (by simp:s6.1.length=(s6.1.set ((s6.2.1.tdiv (2:Int)).toNat)<|([(J v1<|s6.2.2.tmod (v1.length:Int))]:List CV)++(s6.1.getD ((s6.2.1.tdiv (2:Int)).toNat) default)).length))<|.hS (g:=false) (b:=0) (ver:=u8) (s:=1) (n:=(s6.1.set ((s6.2.1.tdiv (2:Int)).toNat)<|([(J v1<|s6.2.2.tmod (v1.length:Int))]:List CV)++(s6.1.getD ((s6.2.1.tdiv (2:Int)).toNat) default)).length) Z)<|aD (.fz<|qC Z)<|aD (.fz<|qC Z) gJ)<|jC<|oN mv<|oN mv<|oN (CR.lenL n8 Z)<|jW h λg16 h=>oN (CR.quo Z Z g12 g16)<|oN as'<|jA<|jC<|oN mv<|jW h λg17 h=>oN (CR.sub Z Z g17)<|oN as'<|jA ?_;obtain rfl:=CU h;exact ⟨((s6.1.set ((s6.2.1.tdiv (2:Int)).toNat)<|([(J v1<|s6.2.2.tmod (v1.length:Int))]:List CV)++(s6.1.getD ((s6.2.1.tdiv (2:Int)).toNat) default)),(s6.2.1-V),(s6.2.2.tdiv (v1.length:Int))),u8,Z,trivial,kw Z Z⟩
 refine jM<|lX h λh=>?_
 cases h
 exact ⟨u8,trivial,kw Z Z⟩
theorem lS (n:Int) {q} (h:dE n=some q):aO Tryz.prog 14 [I n] (.tup [eL (cL CV.c) q.1,Bo q.2]):=by
 refine pM Tryz.func14 Z (by kernel_rfl) Z<|jI<|oN as'<|oN as'<|jA<|jH<|jI<|oN mv<|oN (CR.ilt Z Z)<|oN mv ?_;refine TO.jB h 4 (λs1=>[(10,Bo s1),(0,I n)]) (λs1=>[]) (λs1 q2 h js1=>?_) (λs1 q2 h js1=>?_) λs1 h=>?_
 ·refine gS Z q2<|gS Z q2<|gS Z q2<|oN (CR.pickT Z q2 (Bo true) Z) ?_
  cases h
  exact js1 _ _<|kw Z Z
 ·refine gN Z q2 mv<|jB h λv3 cv3 h=>gN Z q2 (CR.call Z Z Z (kQ cv3) Z)<|gN Z q2 (CR.ige Z Z)<|oN (CR.pickF Z q2 (Bo<|decide<|v3<=n) Z) ?_
  cases h
  exact js1 _ _<|kw Z Z
 refine jA ?_;refine jN Z h (λq4 h=>?_) λq4 h=>?_
 ·refine jI<|oN (CR.mkF (c:=(cL CV.c)) ([]:List<|List CV) [] oK Z Z Z qD qD Z)<|oN as'<|oN as'<|jA<|jK ?_;obtain rfl:=CU h
  repeat (first|refine jS ?_|refine jT ?_)
  exact jQ (vs:=[eL (cL CV.c) ([]:List<|List CV),Bo false]) (.cons (.tmp Z)<|.cons (.tmp Z) .nil)<|.tupL<|.cons (qC Z)<|.cons (qC Z) .nil
 refine jG<|jI<|oN mv<|oC h (λ_=>mR _) Z Z Z Z λv5 _ h=>oN as'<|oN as'<|jA<|jK ?_;obtain rfl:=CU h
 repeat (first|refine jS ?_|refine jT ?_)
 exact jQ (vs:=[eL (cL CV.c) v5,Bo true]) (.cons (.tmp Z)<|.cons (.tmp Z) .nil)<|.tupL<|.cons (qC Z)<|.cons (qC Z) .nil
theorem fu (name:ByteArray) {q} (h:cf name=some q):aO Tryz.prog 57 [St name] (Bo q):=by
 refine pM Tryz.func57 Z (by kernel_rfl) Z<|jI<|oN as'<|jA<|jI<|oN mv<|oN (CR.seq Z Z)<|oN mv ?_;refine TO.jB h 3 (λs1=>[(8,Bo s1),(0,St name)]) (λs1=>[]) (λs1 q2 h js1=>?_) (λs1 q2 h js1=>?_) λs1 h=>?_
 ·refine gS Z q2<|gS Z q2<|oN (CR.pickT Z q2 (Bo true) Z) ?_
  cases h
  exact js1 _ _<|kw Z Z
 ·refine gN Z q2 mv<|gN Z q2 (CR.seq Z Z)<|oN (CR.pickF Z q2 (Bo<|decide<|name=(⟨#[116,115,111]⟩:ByteArray)) Z) ?_
  cases h
  exact js1 _ _<|kw Z Z
 refine oN mv ?_;refine TO.jB h 3 (λs3=>[(12,Bo s3),(0,St name)]) (λs3=>[]) (λs3 q4 h js3=>?_) (λs3 q4 h js3=>?_) λs3 h=>?_
 ·refine gS Z q4<|gS Z q4<|oN (CR.pickT Z q4 (Bo true) Z) ?_
  cases h
  exact js3 _ _<|kw Z Z
 ·refine gN Z q4 mv<|gN Z q4 (CR.seq Z Z)<|oN (CR.pickF Z q4 (Bo<|decide<|name=(⟨#[112,115,111]⟩:ByteArray)) Z) ?_
  cases h
  exact js3 _ _<|kw Z Z
 refine oN mv ?_;refine TO.jB h 3 (λs5=>[(16,Bo s5)]) (λs5=>[]) (λs5 q6 h js5=>?_) (λs5 q6 h js5=>?_) λs5 h=>?_
 ·refine gS Z q6<|gS Z q6<|oN (CR.pickT Z q6 (Bo true) Z) ?_
  cases h
  exact js5 _ _<|kw Z Z
 ·refine gN Z q6 mv<|gN Z q6 (CR.seq Z Z)<|oN (CR.pickF Z q6 (Bo<|decide<|name=(⟨#[114,97]⟩:ByteArray)) Z) ?_
  cases h
  exact js5 _ _<|kw Z Z
 refine oN as'<|jA<|jK ?_
 cases h
 exact eH Z Z Z
theorem kR (x:LI) (a1:LI) {q} (h:fI x a1=some q):aO Tryz.prog 97 [eL cI x,.fp ((cL cI) a1) 0] (Bo q):=by
 refine pM Tryz.func97 Z (by kernel_rfl) Z<|jI<|oN as'<|jA<|jI<|oN mv<|oN (lf (eL cI a1) uo Z)<|oC h (λ_=>eO _ _) Z Z Z Z λv1 _ h=>oN as'<|jA<|jK ?_
 cases h
 exact eH Z Z Z
theorem db (s:LL) (f0:LI) {q} (h:aN s f0=some q):aO Tryz.prog 117 [eL (cL cI) s,.fn (.func 97) [.fp ((cL cI) f0) 0]] (I q):=by
 refine pM Tryz.func117 Z (by kernel_rfl) Z<|jI<|oN as'<|jA ?_;obtain ⟨Ks1,es1,ws1,h,ks1⟩:=xK h;refine T.join (S:=Unit) (G:=Unit) (λs1=>Ks1 s1=some q) (λs1 gh=>True) (λs1 gh=>[]) (λs1 gh=>[]) (λs1 gh h hg=>?_) ?_
 ·clear ks1;subst es1;refine jI<|oN as'<|jA<|jK ?_
  cases h
  exact eH Z Z Z
 refine jI<|oN mv<|oN (CR.lenL qB Z)<|oN mv<|jA<|jE ?_;refine T.lU h (λs4=>[(8,I s4),(7,I (s.length:Int)),(0,eL (cL cI) s),(1,.fn (.func 97) [.fp ((cL cI) f0) 0])]) (λs4=>[]) (kw Z Z) λs4 ws4 h=>?_;refine jI<|oN (CR.ilt Z Z)<|jA<|jH ?_;refine jN Z h (λq6 h=>?_) λq6 h=>?_
 ·refine jG<|jH<|jE<|jI<|oN mv<|oN as'<|jA<|jI<|oN mv<|oN mv<|oN mv<|jD h λg7 h=>oN (CR.ixL qB Z Z g7 qD)<|oN (lf (eL cI<|J s s4) uo Z)<|oC h (λ_=>kR _ _) Z Z Z Z λv8 _ h=>jA ?_;refine jN Z h (λq9 h=>?_) λq9 h=>?_
  ·refine jI<|oN mv<|oN as'<|jA<|jK<|lX h λh=>?_;obtain rfl:=CU h;replace h:=congrArg some (show _=_ from ks1)
   cases h
   exact eH Z Z Z
  refine jG<|jC<|jW h λg10 h=>oN (CR.add Z Z g10)<|oN mv<|jA ?_;exact lE h<|kw Z Z
 refine jM<|lX h λh=>?_
 cases h
 exact ⟨(),(),ks1,trivial,kw Z Z⟩
theorem cu (s:LL) (f0:LI) {q} (h:ay s f0=some q):aO Tryz.prog 96 [eL (cL cI) s,.fn (.func 97) [.fp ((cL cI) f0) 0]] (Bo q):=by
 refine pM Tryz.func96 Z (by kernel_rfl) Z<|jI<|oN as'<|jA<|jI<|oN mv<|oN mv<|oC h (λ_=>db _ _) Z Z Z Z λv1 _ h=>oN (CR.ige Z Z)<|oN as'<|jA<|jK ?_
 cases h
 exact eH Z Z Z
theorem fO (a:LL) (b:LL) {q} (h:cW a b=some q):aO Tryz.prog 59 [eL (cL cI) a,eL (cL cI) b] (Bo q):=by
 refine pM Tryz.func59 Z (by kernel_rfl) Z<|jI<|oN as'<|jA ?_;obtain ⟨Ks1,es1,ws1,h,ks1⟩:=xK h;refine T.join (S:=Unit) (G:=Unit) (λs1=>Ks1 s1=some q) (λs1 gh=>True) (λs1 gh=>[]) (λs1 gh=>[]) (λs1 gh h hg=>?_) ?_
 ·clear ks1;subst es1;refine jI<|oN as'<|jA<|jK ?_
  cases h
  exact eH Z Z Z
 refine jI<|oN mv<|oN (CR.lenL qB Z)<|oN mv<|jA<|jE ?_;refine T.lU h (λs4=>[(9,I s4),(8,I (a.length:Int)),(7,eL (cL cI) a),(1,eL (cL cI) b)]) (λs4=>[]) (kw Z Z) λs4 ws4 h=>?_;refine jI<|oN (CR.ilt Z Z)<|jA<|jH ?_;refine jN Z h (λq6 h=>?_) λq6 h=>?_
 ·refine jG<|jH<|jE<|jI<|jD h λg7 h=>oN (CR.ixL qB Z Z g7 qD)<|oN (lf (eL cI<|J a s4) uo Z)<|oA (EvA.al Cv Z Z)<|oV (sr [eL cI (J a s4)] uo Z Z Z Z)<|TO.cut (e0:=aj [(6,.fp ((cL cI)<|J a s4) 0),(9,I s4),(8,I (a.length:Int)),(7,eL (cL cI) a),(1,eL (cL cI) b)]) (H0:=[]) (wu Z .nil<|aD (.fz<|Fz.fpL (ver:=0) (s:=1) (ty:=41) (rows:=[[eL cI (J a s4)]]) Z Z Z<|.cons (qC Z) .nil)<|aD (.fz<|qC Z)<|aD (.fz<|qC Z)<|aD (.fz<|qC Z)<|aD (.fz<|qC Z) gJ)<|jA<|jI<|oN mv<|oN (CR.mkfn [.fp ((cL cI)<|J a s4) 0] Z Z)<|oC h (λ_=>cu _ _) Z Z Z Z λv8 _ h=>oN (CR.not Z) ?_;refine jA ?_;refine jN Z h (λq9 h=>?_) λq9 h=>?_
  ·refine jI<|oN as'<|jA<|jK<|lX h λh=>?_;obtain rfl:=CU h;replace h:=congrArg some (show _=_ from ks1)
   cases h
   exact eH Z Z Z
  refine jG<|jC<|jW h λg10 h=>oN (CR.add Z Z g10)<|oN mv<|jA ?_;exact lE h<|kw Z Z
 refine jM<|lX h λh=>?_
 cases h
 exact ⟨(),(),ks1,trivial,kw Z Z⟩
theorem iz (a:LL) (b:LL) {q} (h:bV a b=some q):aO Tryz.prog 58 [eL (cL cI) a,eL (cL cI) b] (I q):=by
 refine pM Tryz.func58 Z (by kernel_rfl) Z<|jI<|oN as'<|jA<|jI<|oN mv<|oN mv<|oC h (λ_=>fO _ _) Z Z Z Z λv1 _ h=>oN mv<|oN mv<|oC h (λ_=>fO _ _) Z Z Z Z λv2 _ h=>oN as'<|oN as'<|jA<|jH<|jE ?_;refine jI<|oN mv<|oN mv ?_;refine TO.jB h 2 (λs3=>[(17,Bo s3),(6,Bo v2),(5,Bo v1)]) (λs3=>[]) (λs3 q4 h js3=>?_) (λs3 q4 h js3=>?_) λs3 h=>?_
 ·refine gN Z q4 mv<|oN (CR.pickT Z q4 (Bo v2) Z) ?_
  cases h
  exact js3 _ _<|kw Z Z
 ·refine gS Z q4<|oN (CR.pickF Z q4 (Bo false) Z) ?_
  cases h
  exact js3 _ _<|kw Z Z
 refine oN as'<|jA ?_;refine jN Z h (λq5 h=>?_) λq5 h=>?_
 ·refine jI<|oN as'<|jA<|jK ?_
  cases h
  exact eH Z Z Z
 refine jI<|oN mv<|oN as'<|jA ?_;refine jN Z h (λq6 h=>?_) λq6 h=>?_
 ·refine jI<|oN as'<|jA<|jK ?_
  cases h
  exact eH Z Z Z
 refine jI<|oN mv<|oN as'<|jA ?_;refine jN Z h (λq7 h=>?_) λq7 h=>?_
 ·refine jI<|oN as'<|jA<|jK ?_
  cases h
  exact eH Z Z Z
 refine jG<|jI<|oN as'<|jA<|jK ?_
 cases h
 exact eH Z Z Z
theorem gQ (p:List<|List CV) (a:ByteArray) (b:ByteArray) {q} (h:cZ p a b=some q):aO Tryz.prog 17 [eL (cL CV.c) p,St a,St b] (Bo q):=by
 refine pM Tryz.func17 Z (by kernel_rfl) Z<|jI<|oN as'<|jA<|jI<|oN mv<|oC h (λ_=>bD _) Z Z Z Z λv1 _ h=>oN mv ?_;refine TO.jB h 3 (λs2=>[(12,Bo s2),(0,eL (cL CV.c) p),(1,St a),(2,St b)]) (λs2=>[]) (λs2 q3 h js2=>?_) (λs2 q3 h js2=>?_) λs2 h=>?_
 ·refine gN Z q3 mv<|jB h λv4 cv4 h=>gN Z q3 (CR.call Z Z Z (fu a cv4) Z)<|oN (CR.pickT Z q3 (Bo v4) Z) ?_
  cases h
  exact js2 _ _<|kw Z Z
 ·refine gS Z q3<|gS Z q3<|oN (CR.pickF Z q3 (Bo false) Z) ?_
  cases h
  exact js2 _ _<|kw Z Z
 refine oN mv ?_;refine TO.jB h 3 (λs5=>[(16,Bo s5),(0,eL (cL CV.c) p),(1,St a),(2,St b)]) (λs5=>[]) (λs5 q6 h js5=>?_) (λs5 q6 h js5=>?_) λs5 h=>?_
 ·refine gN Z q6 mv<|jB h λv7 cv7 h=>gN Z q6 (CR.call Z Z Z (fu b cv7) Z)<|oN (CR.pickT Z q6 (Bo v7) Z) ?_
  cases h
  exact js5 _ _<|kw Z Z
 ·refine gS Z q6<|gS Z q6<|oN (CR.pickF Z q6 (Bo false) Z) ?_
  cases h
  exact js5 _ _<|kw Z Z
 refine oN mv ?_;refine TO.jB h 9 (λs8=>[(26,Bo s8)]) (λs8=>[]) (λs8 q9 h js8=>?_) (λs8 q9 h js8=>?_) λs8 h=>?_
 ·refine gN Z q9 mv<|gN Z q9 mv<|jB h λv10 cv10 h=>gN Z q9 (CR.call Z Z Z (da p a cv10) Z)<|gN Z q9 mv<|gN Z q9 mv<|jB h λv11 cv11 h=>gN Z q9 (CR.call Z Z Z (da p b cv11) Z)<|jB h λv12 cv12 h=>gN Z q9 (CR.call Z Z Z (iz v10 v11 cv12) Z)<|gN Z q9 (CR.ine Z Z)<|oN (CR.pickT Z q9 (Bo<|v12 != U) Z) ?_
  cases h
  exact js8 _ _<|kw Z Z
 ·refine gS Z q9<|gS Z q9<|gS Z q9<|gS Z q9<|gS Z q9<|gS Z q9<|gS Z q9<|gS Z q9<|oN (CR.pickF Z q9 (Bo false) Z) ?_
  cases h
  exact js8 _ _<|kw Z Z
 refine oN as'<|jA<|jK ?_
 cases h
 exact eH Z Z Z
theorem fE (p:List<|List CV) (name:ByteArray) {q} (h:bH p name=some q):aO Tryz.prog 18 [eL (cL CV.c) p,St name] (Bo q):=by
 refine pM Tryz.func18 Z (by kernel_rfl) Z<|jI<|oN as'<|jA<|jI<|oN mv<|oC h (λ_=>bD _) Z Z Z Z λv1 _ h=>oN mv ?_;refine TO.jB h 3 (λs2=>[(10,Bo s2),(0,eL (cL CV.c) p),(1,St name)]) (λs2=>[]) (λs2 q3 h js2=>?_) (λs2 q3 h js2=>?_) λs2 h=>?_
 ·refine gN Z q3 mv<|jB h λv4 cv4 h=>gN Z q3 (CR.call Z Z Z (fu name cv4) Z)<|oN (CR.pickT Z q3 (Bo v4) Z) ?_
  cases h
  exact js2 _ _<|kw Z Z
 ·refine gS Z q3<|gS Z q3<|oN (CR.pickF Z q3 (Bo false) Z) ?_
  cases h
  exact js2 _ _<|kw Z Z
 refine oN mv ?_;refine TO.jB h 7 (λs5=>[(18,Bo s5)]) (λs5=>[]) (λs5 q6 h js5=>?_) (λs5 q6 h js5=>?_) λs5 h=>?_
 ·refine gN Z q6 mv<|gN Z q6 mv<|jB h λv7 cv7 h=>gN Z q6 (CR.call Z Z Z (da p name cv7) Z)<|gN Z q6 mv<|jB h λv8 cv8 h=>gN Z q6 (CR.call Z Z Z (jl p cv8) Z)<|jB h λv9 cv9 h=>gN Z q6 (CR.call Z Z Z (fO v7 v8 cv9) Z)<|oN (CR.pickT Z q6 (Bo v9) Z) ?_
  cases h
  exact js5 _ _<|kw Z Z
 ·refine gS Z q6<|gS Z q6<|gS Z q6<|gS Z q6<|gS Z q6<|gS Z q6<|oN (CR.pickF Z q6 (Bo false) Z) ?_
  cases h
  exact js5 _ _<|kw Z Z
 refine oN as'<|jA<|jK ?_
 cases h
 exact eH Z Z Z
theorem jo (code:LI) {q} (h:bS code=some q):aO Tryz.prog 3 [eL cY code] (Bo q):=by
 refine pM Tryz.func3 Z (by kernel_rfl) Z<|jI<|oN as'<|jA<|jH<|jI<|oN mv<|oN (CR.lenL lV Z)<|oN (CR.igt Z Z)<|jA ?_;refine jN Z h (λq1 h=>?_) λq1 h=>?_
 ·refine jI<|oN as'<|jA<|jK ?_
  cases h
  exact eH Z Z Z
 refine jG<|jI<|oN mv<|oC h (λ_=>iV _) Z Z Z Z λv2 _ h=>oN as'<|jA<|jI<|oN mv<|oC h (λ_=>lQ _) Z Z Z Z λv3 _ h=>oN mv<|oN (CR.ext (eL (cL CV.c) v3.1) Z Z)<|oN (CR.ext (Bo v3.2) Z Z)<|oN as'<|oN as'<|jA<|jI ?_;refine oN mv<|oC h (λ_=>lS _) Z Z Z Z λv4 _ h=>oN mv<|oN (CR.ext (eL (cL CV.c) v4.1) Z Z)<|oN (CR.ext (Bo v4.2) Z Z)<|oN as'<|oN as'<|jA<|jH<|jH<|T.clean (H0:=[]) (e0:=aj [(7,Bo v4.2),(6,eL (cL CV.c) v4.1),(5,Bo v3.2),(4,eL (cL CV.c) v3.1)]) Z (CQ Z<|CQ Z<|CQ Z<|CQ Z wkN)<|jC<|oN mv<|oN mv<|oN (CR.bne bt4 Z Z)<|oN mv ?_;refine TO.jB h 5 (λs5=>[(31,Bo s5),(7,Bo v4.2),(6,eL (cL CV.c) v4.1),(5,Bo v3.2),(4,eL (cL CV.c) v3.1)]) (λs5=>[]) (λs5 q6 h js5=>?_) (λs5 q6 h js5=>?_) λs5 h=>?_
 ·refine gS Z q6<|gS Z q6<|gS Z q6<|gS Z q6<|oN (CR.pickT Z q6 (Bo true) Z) ?_
  cases h
  exact js5 _ _<|kw Z Z
 ·refine gN Z q6 mv<|gN Z q6 mv<|jB h λv7 cv7 h=>gN Z q6 (CR.call Z Z Z (gu v3.1 v4.1 cv7) Z)<|gN Z q6 (CR.not Z)<|oN (CR.pickF Z q6 (Bo<|!v7) Z) ?_
  cases h
  exact js5 _ _<|kw Z Z
 refine oN mv ?_;refine TO.jB h 3 (λs8=>[(35,Bo s8),(7,Bo v4.2),(6,eL (cL CV.c) v4.1),(5,Bo v3.2),(4,eL (cL CV.c) v3.1)]) (λs8=>[]) (λs8 q9 h js8=>?_) (λs8 q9 h js8=>?_) λs8 h=>?_
 ·refine gS Z q9<|gS Z q9<|oN (CR.pickT Z q9 (Bo true) Z) ?_
  cases h
  exact js8 _ _<|kw Z Z
 ·refine gN Z q9 mv<|gN Z q9 (CR.not Z)<|oN (CR.pickF Z q9 (Bo<|!v3.2) Z) ?_
  cases h
  exact js8 _ _<|kw Z Z
 refine jA ?_;refine jN Z h (λq10 h=>?_) λq10 h=>?_
 ·refine jI<|oN mv<|oN mv<|oN (CR.beq bt4 Z Z)<|oN mv ?_;refine TO.jB h 4 (λs11=>[(43,Bo s11)]) (λs11=>[]) (λs11 q12 h js11=>?_) (λs11 q12 h js11=>?_) λs11 h=>?_
  ·refine gN Z q12 mv<|gN Z q12 mv<|jB h λv13 cv13 h=>gN Z q12 (CR.call Z Z Z (gu v3.1 v4.1 cv13) Z)<|oN (CR.pickT Z q12 (Bo v13) Z) ?_
   cases h
   exact js11 _ _<|kw Z Z
  ·refine gS Z q12<|gS Z q12<|gS Z q12<|oN (CR.pickF Z q12 (Bo false) Z) ?_
   cases h
   exact js11 _ _<|kw Z Z
  refine oN as'<|jA<|jK ?_
  cases h
  exact eH Z Z Z
 refine jG<|jI<|oN mv<|oC h (λ_=>bD _) Z Z Z Z λv14 _ h=>oN (CR.not Z)<|oN mv ?_;refine TO.jB h 15 (λs15=>[(62,Bo s15)]) (λs15=>[]) (λs15 q16 h js15=>?_) (λs15 q16 h js15=>?_) λs15 h=>?_
 ·refine gS Z q16<|gS Z q16<|gS Z q16<|gS Z q16<|gS Z q16<|gS Z q16<|gS Z q16<|gU Z<|gU Z<|gU Z<|gU Z<|gU Z<|gU Z<|gS Z q16<|oN (CR.pickT Z q16 (Bo true) Z) ?_
  cases h
  exact js15 _ _<|kw Z Z
 ·refine gN Z q16 mv<|jB h λv17 cv17 h=>gN Z q16 (CR.call Z Z Z (gQ v3.1 (⟨#[115,101,113]⟩:ByteArray) (⟨#[116,115,111]⟩:ByteArray) cv17) Z)<|gN Z q16 mv<|jB h λv18 cv18 h=>gN Z q16 (CR.call Z Z Z (fE v3.1 (⟨#[116,115,111]⟩:ByteArray) cv18) Z)<|gN Z q16 (CR.not Z)<|gN Z q16 (CR.beq bt4 Z Z)<|gN Z q16 mv ?_;refine TO.jB h 7 (λs19=>[(61,Bo s19),(47,Bo<|!v14)]) (λs19=>[]) (λs19 q20 h js19=>?_) (λs19 q20 h js19=>?_) λs19 h=>?_
  ·refine gN Z q20 mv<|jB h λv21 cv21 h=>gN Z q20 (CR.call Z Z Z (gQ v3.1 (⟨#[115,101,113]⟩:ByteArray) (⟨#[112,115,111]⟩:ByteArray) cv21) Z)<|gN Z q20 mv<|jB h λv22 cv22 h=>gN Z q20 (CR.call Z Z Z (fE v3.1 (⟨#[112,115,111]⟩:ByteArray) cv22) Z)<|gN Z q20 (CR.not Z)<|gN Z q20 (CR.beq bt4 Z Z)<|gN Z q16 (CR.pickT Z q20 (Bo<|v21==(!v22)) Z) ?_
   cases h
   exact js19 _ _<|kw Z Z
  ·refine gS Z q20<|gS Z q20<|gS Z q20<|gS Z q20<|gS Z q20<|gS Z q20<|gN Z q16 (CR.pickF Z q20 (Bo false) Z) ?_
   cases h
   exact js19 _ _<|kw Z Z
  refine oN (CR.pickF Z q16 (Bo s19) Z) ?_
  cases h
  exact js15 _ _<|kw Z Z
 refine oN as'<|jA<|jK ?_
 cases h
 exact eH Z Z Z
end
end Go.Proofs.YtjcmfddobaplbaaGreat
